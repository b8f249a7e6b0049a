/- Disk: plain laws of DiskSafe: every file synced, the directory synced: nothing is lost. -/
import Derived.Test.YthmkdmdfahhpmaaDskMC
namespace Go.Proofs.Ythmkdmdfahhpmaa.Hand
open Go.RowKit Go.Maps Go.Proofs.YthmkdmdfahhpmaaW.PrintWords Go.Proofs.YthmkdmdfahhpmaaW.PrintLast Go.Proofs.YthmkdmdfahhpmaaW.PrintMore Go.Proofs.Ythmkdmdfahhpmaa.Q
set_option linter.unusedVariables false
set_option linter.unusedSimpArgs false
theorem fileOf_set (T : DS) (i : Int) (f : Fil) (j : Int) : fileOf (setFil T i f) j = if i.toNat = j.toNat ∧ i.toNat < T.files.length then f else fileOf T j := by
  show (T.files.set i.toNat f).getD j.toNat ([], 0) = _
  unfold fileOf
  rw [List.getD_eq_getElem?_getD, List.getElem?_set, List.getD_eq_getElem?_getD]
  by_cases h1 : i.toNat = j.toNat
  · by_cases h2 : i.toNat < T.files.length
    · rw [if_pos h1, if_pos h2, if_pos ⟨h1, h2⟩]; rfl
    · rw [if_pos h1, if_neg h2, if_neg (fun h => h2 h.2), List.getElem?_eq_none (by omega)]
  · rw [if_neg h1, if_neg (fun h => h1 h.1)]
theorem fileOf_nat (S : DS) {i j : Int} (h : i.toNat = j.toNat) : fileOf S i = fileOf S j := by unfold fileOf; rw [h]
/-- The first i files of the directory have been synced. -/
structure SyncI (S T : DS) (i : Nat) : Prop where
  dir : T.dir = S.dir
  alive : T.dead = false
  armed : T.armed = 0
  ops : T.ops = S.ops + i
  bytes : ∀ j, (fileOf T j).1 = (fileOf S j).1
  len : T.files.length = S.files.length
  synced : ∀ k, (hk : k < S.dir.length) → k < i → (fileOf T S.dir[k].2).2 = ((fileOf S S.dir[k].2).1.length : Int)
theorem SyncI.start {S : DS} (hd : S.dead = false) : SyncI (opArm S 0) (opArm S 0) 0 where
  dir := rfl
  alive := by unfold opArm; rw [if_neg (by rw [hd]; decide)]; exact hd
  armed := by unfold opArm; rw [if_neg (by rw [hd]; decide)]; rfl
  ops := by show _ = _ + (0 : Int); omega
  bytes := fun _ => rfl
  len := rfl
  synced := fun k hk h => absurd h (Nat.not_lt_zero _)
theorem goes_free {T : DS} (h : T.armed = 0) : goes T = ({ T with ops := T.ops + 1 }, 0) := by
  unfold goes
  rw [if_neg (by rw [h]; decide)]
theorem ifGoes_free {T : DS} (h : T.armed = 0) (k : DS → DS) : ifGoes T k = (k { T with ops := T.ops + 1 }, 0) := by
  unfold ifGoes
  rw [goes_free h, if_pos rfl]
theorem SyncI.next {S T : DS} {i : Nat} (hS : Inv S) (h : SyncI S T i) (hi : i < S.dir.length) (ho : S.ops + S.dir.length + 1 ≤ 1048576) : (opSync T S.dir[i].1).2 = 0 ∧ SyncI S (opSync T S.dir[i].1).1 (i + 1) := by
  have he := List.getElem_mem hi
  have hok := hS.okD _ he
  have e : opSync T S.dir[i].1 = (setFil { T with ops := T.ops + 1 } S.dir[i].2 ((fileOf T S.dir[i].2).1, ((fileOf T S.dir[i].2).1.length : Int)), 0) := by
    have hT : has T.dir S.dir[i].1 = some S.dir[i] := by rw [h.dir]; exact has_in hS.srtD.nodup he rfl
    unfold opSync
    rw [if_neg (by rw [h.alive]; decide), hT]
    dsimp only
    rw [if_neg (by rw [h.ops]; omega), ifGoes_free h.armed]
  rw [e]
  have hset := fileOf_set { T with ops := T.ops + 1 } S.dir[i].2 ((fileOf T S.dir[i].2).1, ((fileOf T S.dir[i].2).1.length : Int))
  refine ⟨rfl, { dir := h.dir, alive := h.alive, armed := h.armed, ops := by show T.ops + 1 = _; rw [h.ops]; omega, bytes := fun j => ?_, len := by rw [setFil_len]; exact h.len, synced := fun k hk hki => ?_ }⟩
  · rw [hset]
    split
    · rename_i hh
      rw [← h.bytes j, fileOf_nat T hh.1]
    · exact h.bytes j
  · rw [hset]
    split
    · rename_i hh
      show ((fileOf T S.dir[i].2).1.length : Int) = _
      rw [h.bytes, fileOf_nat S hh.1]
    · rename_i hh
      rcases Nat.lt_or_ge k i with h1 | h1
      · exact h.synced k hk h1
      · obtain rfl : k = i := by omega
        exact absurd ⟨rfl, by show _ < T.files.length; rw [h.len]; omega⟩ hh
/-- All files and the directory are synced. -/
structure SafeU (S U : DS) : Prop where
  dir : U.dir = S.dir
  safe : U.safe = S.dir
  chg : U.chg = []
  alive : U.dead = false
  bytes : ∀ j, (fileOf U j).1 = (fileOf S j).1
  synced : ∀ k, (hk : k < S.dir.length) → (fileOf U S.dir[k].2).2 = ((fileOf S S.dir[k].2).1.length : Int)
theorem SyncI.done {S T : DS} (h : SyncI S T S.dir.length) (ho : S.ops + S.dir.length + 1 ≤ 1048576) : (opSyncDir T).2 = 0 ∧ SafeU S (opSyncDir T).1 := by
  have e : opSyncDir T = ({ T with ops := T.ops + 1, safe := T.dir, chg := [] }, 0) := by
    unfold opSyncDir
    rw [if_neg (by rw [h.alive]; decide), if_neg (by rw [h.ops]; omega), ifGoes_free h.armed]
  rw [e]
  exact ⟨rfl, { dir := h.dir, safe := h.dir, chg := rfl, alive := h.alive, bytes := h.bytes, synced := fun k hk => h.synced k hk hk }⟩
theorem partI_zero (z : Int) : partI z 0 = 0 := by unfold partI; split; rfl; split; rfl; omega
theorem SafeU.left {S U : DS} (h : SafeU S U) (d : Int) (t : List Int) : leftOf U d t = S.dir.map fun e => (e.1, (fileOf S e.2).1) := by
  have hD : leftD U d = S.dir := by unfold leftD; rw [h.chg, List.take_nil, List.foldl_nil, h.safe]
  unfold leftOf
  rw [hD]
  refine List.map_congr_left fun e he => ?_
  obtain ⟨k, hk, rfl⟩ := List.getElem_of_mem he
  unfold leftF
  rw [h.synced k hk, h.bytes]
  have h0 : (((fileOf S S.dir[k].2).1.length : Int)) - ((fileOf S S.dir[k].2).1.length : Int) = 0 := by omega
  rw [h0, partI_zero, ite_self, Int.add_zero, Int.toNat_natCast, List.take_length]
theorem entry_safe {S U : DS} (hS : Inv S) (h : SafeU S U) (d : Int) (t : List Int) {i : Nat} (hi : i < S.dir.length) : ∃ nmi bs, (S.dir.map (·.1)).getD i ⟨#[]⟩ = nmi ∧ rdFile U nmi = (bs, 0) ∧ nmi.size ≤ 32 ∧ bs.length ≤ 4194304 ∧ ((leftOf U d t).map mkF).getD i z65 = ⟨nmi, bs⟩ := by
  have he := List.getElem_mem hi
  refine ⟨_, _, names_at hi, ?_, (hS.okD _ he).2.2.2, (hS.fileB he).1, ?_⟩
  · unfold rdFile
    rw [h.alive, h.dir, has_in hS.srtD.nodup he rfl]
    show ((fileOf U S.dir[i].2).1, (0 : Int)) = _
    rw [h.bytes]
  · rw [h.left, List.map_map, List.getD_eq_getElem?_getD, List.getElem?_map, List.getElem?_eq_getElem hi]
    rfl
/-- The disk at d, beside the blocks from n0 to n1. -/
def OwnA (w wr : World) (n0 n1 d : Nat) (S : DS) : Prop := ∃ F : Nat → Prop, DskAt wr F d S ∧ (∀ k, F k → w.heap.size ≤ k) ∧ (∀ k, F k → ¬ (n0 ≤ k ∧ k < n1)) ∧ n1 ≤ wr.heap.size ∧ Below w.heap.size w wr
theorem OwnA.of {w w3 w4 : World} {d : Nat} {S : DS} (h : OwnD w w3 d S) (hb : Below w3.heap.size w3 w4) : OwnA w w4 w3.heap.size w4.heap.size d S := by
  obtain ⟨F, h1, h2, h3⟩ := h
  exact ⟨F, h1.below hb, h2, fun k hk hh => by have := h1.lt k hk; omega, Nat.le_refl _, below_step h3 hb⟩
theorem OwnA.own {w wr : World} {n0 n1 d : Nat} {S : DS} (h : OwnA w wr n0 n1 d S) : OwnD w wr d S := by
  obtain ⟨F, h1, h2, _, _, h3⟩ := h
  exact ⟨F, h1, h2, h3⟩
theorem OwnA.tell {w wr w' : World} {n0 n1 d : Nat} {S : DS} (h : OwnA w wr n0 n1 d S) (hb : Below wr.heap.size wr w') : OwnA w w' n0 n1 d S := by
  obtain ⟨F, h1, h2, h4, h5, h3⟩ := h
  exact ⟨F, h1.below hb, h2, h4, Nat.le_trans h5 hb.size, below_step h3 hb⟩
theorem OwnA.step {w wr w' : World} {F : Nat → Prop} {n0 n1 d : Nat} {S : DS} (hF : ∀ k, F k → w.heap.size ≤ k) (hX : ∀ k, F k → ¬ (n0 ≤ k ∧ k < n1)) (hn : n1 ≤ wr.heap.size) (hB : Below w.heap.size w wr) (h : DskAt w' (grow F wr w') d S) (hk : KeptL F wr w') :
    OwnA w w' n0 n1 d S ∧ ∀ k, n0 ≤ k ∧ k < n1 → w'.heap[k]? = wr.heap[k]? :=
  ⟨⟨_, h, fun k hh => by
    rcases hh with hh | hh
    · exact hF k hh
    · exact Nat.le_trans hB.size hh.1, fun k hh => by
    rcases hh with hh | hh
    · exact hX k hh
    · omega, Nat.le_trans hn hk.size, hB.trans (hk.below hB.size hF)⟩, fun k hkk => hk.block k (by omega) (fun hf => hX k hf hkk)⟩
theorem disk_Sync.ownA {w wr : World} {n0 n1 d : Nat} {S : DS} (h : OwnA w wr n0 n1 d S) (n : ByteArray) (hn : n.size ≤ 9223372036854775807) :
    Calls Try.prog 31 #[.pointer (some ⟨d, 0, none⟩), .string n] wr fun e w' => e = .returned (.int .i64 (opSync S n).2) ∧ OwnA w w' n0 n1 d (opSync S n).1 ∧ ∀ k, n0 ≤ k ∧ k < n1 → w'.heap[k]? = wr.heap[k]? := by
  obtain ⟨F, h1, h2, h4, h5, h3⟩ := h
  refine (disk_Sync.calls h1 n hn).mono ?_
  rintro e w' ⟨rfl, h6, hk⟩
  exact ⟨rfl, OwnA.step h2 h4 h5 h3 h6 hk⟩
theorem disk_SyncDir.ownA {w wr : World} {n0 n1 d : Nat} {S : DS} (h : OwnA w wr n0 n1 d S) :
    Calls Try.prog 28 #[.pointer (some ⟨d, 0, none⟩)] wr fun e w' => e = .returned (.int .i64 (opSyncDir S).2) ∧ OwnA w w' n0 n1 d (opSyncDir S).1 ∧ ∀ k, n0 ≤ k ∧ k < n1 → w'.heap[k]? = wr.heap[k]? := by
  obtain ⟨F, h1, h2, h4, h5, h3⟩ := h
  refine (disk_SyncDir.calls h1).mono ?_
  rintro e w' ⟨rfl, h6, hk⟩
  exact ⟨rfl, OwnA.step h2 h4 h5 h3 h6 hk⟩
end Go.Proofs.Ythmkdmdfahhpmaa.Hand
