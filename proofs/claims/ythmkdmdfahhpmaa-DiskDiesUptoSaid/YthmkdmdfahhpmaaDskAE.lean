/- Disk: plain laws of DiskAnew: what is left is a disk's files, and nothing is lost of it. -/
import Derived.Test.YthmkdmdfahhpmaaDskAC
namespace Go.Proofs.Ythmkdmdfahhpmaa.Hand
open Go.RowKit Go.Maps Go.Proofs.YthmkdmdfahhpmaaW.PrintWords Go.Proofs.YthmkdmdfahhpmaaW.PrintLast Go.Proofs.YthmkdmdfahhpmaaW.PrintMore Go.Proofs.Ythmkdmdfahhpmaa.Q
set_option linter.unusedVariables false
set_option linter.unusedSimpArgs false
theorem newGo_mid {room : Int} : ∀ (fs : List FilD) (S : DS) (i : Nat), Mid room S i → i + fs.length ≤ 64 → (∀ f, f ∈ fs → FilOk f) → (newGo S fs).2 = 0 → Mid room (newGo S fs).1 (i + fs.length) ∧ ((∀ e, e ∈ S.dir → nameOk e.1 = true) → ∀ e, e ∈ (newGo S fs).1.dir → nameOk e.1 = true)
  | [], S, i, h, _, _, _ => ⟨h, fun hh => hh⟩
  | f :: fs, S, i, h, hi, hf, h0 => by
    rw [List.length_cons] at hi
    unfold newGo at h0 ⊢
    by_cases he : newErr S f ≠ 0
    · rw [if_pos he] at h0
      exact absurd h0 he
    · rw [if_neg he] at h0 ⊢
      have he0 : newErr S f = 0 := Decidable.not_not.1 he
      have h1 := newGo_mid fs (newAdd S f) (i + 1) (h.add (by omega) (hf f List.mem_cons_self) he0) (by omega) (fun g hg => hf g (List.mem_cons_of_mem _ hg)) h0
      rw [List.length_cons, show i + (fs.length + 1) = i + 1 + fs.length by omega]
      refine ⟨h1.1, fun hh => h1.2 (fun e he => ?_)⟩
      rcases with_mem.1 he with rfl | he
      · unfold newErr at he0
        split at he0
        · exact absurd he0 (by decide)
        · rename_i hn
          simpa using hn
      · exact hh e he.1
structure NewI (S : DS) : Prop where
  inv : Inv S
  chg : S.chg = []
  ops : S.ops = 0
  armed : S.armed = 0
  dead : S.dead = false
  dir : S.safe = S.dir
  nm : ∀ e, e ∈ S.dir → nameOk e.1 = true
theorem newOf_inv {room : Int} {fs : List FilD} (hr : room ≤ 9223372036854775807) (hf : ∀ f, f ∈ fs → FilOk f) (h : (newOf room fs).2 = 0) : NewI (newOf room fs).1 := by
  unfold newOf at h ⊢
  split at h
  · exact absurd h (by show ¬ ((2 : Int) = 0); decide)
  · rename_i h1
    rw [if_neg h1]
    split at h
    · exact absurd h (by show ¬ ((32 : Int) = 0); decide)
    · rename_i h2
      rw [if_neg h2]
      unfold newEnd at h ⊢
      split at h
      · rename_i h3; exact absurd h h3
      · rename_i h3
        rw [if_neg h3]
        have h30 := Decidable.not_not.1 h3
        split at h
        · exact absurd h (by show ¬ ((5 : Int) = 0); decide)
        · rename_i h4
          rw [if_neg h4]
          obtain ⟨hm, hn⟩ := newGo_mid fs (ds0 room) 0 (Mid.start ⟨by omega, hr⟩) (by omega) hf h30
          exact ⟨hm.fin, hm.e2, hm.e3, hm.e4, hm.e5, rfl, hn (fun e he => by cases he)⟩
/-- What holds of the directories that a failure may leave. -/
structure InvA (S : DS) : Prop where
  nm : ∀ e, e ∈ S.safe → nameOk e.1 = true
  nmC : ∀ c, c ∈ S.chg → c.2.1.size ≠ 0 → nameOk c.2.1 = true
  lens : ∀ k, ((S.chg.take k).foldl turn S.safe).length ≤ 64
theorem InvA.same {S T : DS} (h : InvA S) (e1 : T.safe = S.safe) (e2 : T.chg = S.chg) : InvA T := ⟨by rw [e1]; exact h.nm, by rw [e2]; exact h.nmC, by rw [e1, e2]; exact h.lens⟩
theorem InvA.noted {S T : DS} (h : InvA S) (hT : Inv T) {c : Chg} (e1 : T.safe = S.safe) (e2 : T.chg = S.chg ++ [c]) (hc : c.2.1.size ≠ 0 → nameOk c.2.1 = true) : InvA T := by
  refine ⟨by rw [e1]; exact h.nm, fun x hx hs => ?_, fun k => ?_⟩
  · rw [e2, List.mem_append, List.mem_singleton] at hx
    rcases hx with hx | rfl
    · exact h.nmC x hx hs
    · exact hc hs
  · rcases Nat.lt_or_ge S.chg.length k with hk | hk
    · rw [List.take_of_length_le (by rw [e2, List.length_append, List.length_singleton]; omega), hT.hist]
      exact hT.lenD
    · rw [e2, List.take_append_of_le_length hk, e1]
      exact h.lens k
theorem InvA.dirNm {S : DS} (hS : Inv S) (h : InvA S) : ∀ e, e ∈ S.dir → nameOk e.1 = true := by
  rw [← hS.hist]
  exact foldl_mem S.chg h.nm (fun c hc h1 => h.nmC c hc h1)
theorem InvA.synced {S T : DS} (hS : Inv S) (h : InvA S) (e1 : T.safe = S.dir) (e2 : T.chg = []) : InvA T :=
  ⟨by rw [e1]; exact h.dirNm hS, fun c hc => (by rw [e2] at hc; cases hc), fun k => by rw [e2, List.take_nil, e1]; exact hS.lenD⟩
theorem goes_same (S : DS) : (goes S).1.safe = S.safe ∧ (goes S).1.chg = S.chg ∧ (goes S).1.dir = S.dir := by rcases goes_cases S with ⟨_, _, e⟩ | ⟨_, _, e⟩ | ⟨_, e⟩ <;> rw [e] <;> exact ⟨rfl, rfl, rfl⟩
theorem InvA.ifGoes {S : DS} (h : InvA S) {k : DS → DS} (hk : (Hand.ifGoes S k).1 = k (goes S).1 → InvA (k (goes S).1)) : InvA (Hand.ifGoes S k).1 := by
  unfold Hand.ifGoes at hk ⊢
  split
  · rename_i h0
    rw [if_pos h0] at hk
    exact hk rfl
  · exact h.same (goes_same S).1 (goes_same S).2.1
theorem InvA.one {S : DS} (hS : Inv S) (h : InvA S) {a : ActD} (ha : ActB a) : InvA (oneS S a).1 := by
  unfold oneS
  split
  · have hI := hS.create a.name
    unfold opCreate at hI ⊢
    repeat' split
    all_goals first | exact h | skip
    rename_i h1 h2 h3 h4
    rw [if_neg h1, if_neg h2, if_neg h3, if_neg h4] at hI
    exact h.ifGoes (fun e => h.noted (by rw [← e]; exact hI) (goes_same S).1 (by show (goes S).1.chg ++ [_] = _; rw [(goes_same S).2.1]) (fun _ => by simpa using h2))
  split
  · unfold opAppend
    repeat' split
    all_goals first | exact h | skip
    exact h.ifGoes (fun _ => h.same (goes_same S).1 (goes_same S).2.1)
  split
  · unfold opSync
    repeat' split
    all_goals first | exact h | skip
    exact h.ifGoes (fun _ => h.same (goes_same S).1 (goes_same S).2.1)
  split
  · have hI := hS.rename a.name a.dest
    unfold opRename at hI ⊢
    split
    · exact h
    rename_i h1
    rw [if_neg h1] at hI
    split
    · exact h
    rename_i e he
    rw [he] at hI
    dsimp only at hI
    split
    · exact h
    rename_i h2
    rw [if_neg h2] at hI
    split
    · exact h
    rename_i h3
    rw [if_neg h3] at hI
    refine h.ifGoes (fun e => ?_)
    by_cases hab : a.name = a.dest
    · rw [if_pos hab]
      exact h.same (goes_same S).1 (goes_same S).2.1
    · rw [e, if_neg hab] at hI
      rw [if_neg hab]
      exact h.noted hI (goes_same S).1 (by show (goes S).1.chg ++ [_] = _; rw [(goes_same S).2.1]) (fun _ => by simpa using h2)
  split
  · have hI := hS.remove a.name
    unfold opRemove at hI ⊢
    split
    · exact h
    rename_i h1
    rw [if_neg h1] at hI
    split
    · exact h
    rename_i e he
    rw [he] at hI
    dsimp only at hI
    split
    · exact h
    rename_i h2
    rw [if_neg h2] at hI
    exact h.ifGoes (fun e => h.noted (by rw [← e]; exact hI) (goes_same S).1 (by show (goes S).1.chg ++ [_] = _; rw [(goes_same S).2.1]) (fun hs => absurd rfl hs))
  · unfold opSyncDir
    repeat' split
    all_goals first | exact h | skip
    exact h.ifGoes (fun _ => h.synced hS (goes_same S).2.2 rfl)
theorem Inv.one {S : DS} (hS : Inv S) {a : ActD} (ha : ActB a) : Inv (oneS S a).1 := by
  unfold oneS
  split
  · exact hS.create _
  split
  · exact hS.append _ _ ha.p
  split
  · exact hS.sync_ _
  split
  · exact hS.rename _ _
  split
  · exact hS.remove _
  · exact hS.syncDir
theorem Inv.act {S : DS} (hS : Inv S) (h : InvA S) {a : ActD} (ha : ActB a) : Inv (actS S a) ∧ InvA (actS S a) := by
  unfold actS
  split
  · refine ⟨hS.arm _ ha.n.2, ?_⟩
    unfold opArm
    split
    · exact h
    · exact h.same rfl rfl
  split
  · exact ⟨hS.one ha, h.one hS ha⟩
  · exact ⟨hS, h⟩
theorem foldl_inv : ∀ (l : List ActD) (S : DS), Inv S → InvA S → (∀ a, a ∈ l → ActB a) → Inv (l.foldl actS S) ∧ InvA (l.foldl actS S)
  | [], S, h, k, _ => ⟨h, k⟩
  | a :: l, S, h, k, hl => by
    have h1 := h.act k (hl a List.mem_cons_self)
    exact foldl_inv l (actS S a) h1.1 h1.2 (fun b hb => hl b (List.mem_cons_of_mem _ hb))
theorem NewI.invA {S : DS} (h : NewI S) : InvA S := ⟨by rw [h.dir]; exact h.nm, fun c hc => (by rw [h.chg] at hc; cases hc), fun k => by rw [h.chg, List.take_nil, h.dir]; exact h.inv.lenD⟩
theorem playS_inv {x : StD} (hx : StB x) (h0 : (newOf x.room x.files).2 = 0) : Inv (playS x) ∧ InvA (playS x) := by
  have h := newOf_inv hx.room.2 (fun f hf => (hx.f f hf).1) h0
  exact foldl_inv x.acts _ h.inv h.invA hx.a
/-- Files whose names rise. -/
abbrev PairD := ByteArray × List Int
structure RiseB (L : List PairD) : Prop where
  rise : L.Pairwise fun a b => nm a.1 < nm b.1
  nm : ∀ e, e ∈ L → nameOk e.1 = true
  len : ∀ e, e ∈ L → e.2.length ≤ 4194304
  byt : ∀ e, e ∈ L → ∀ x, x ∈ e.2 → 0 ≤ x ∧ x ≤ 255
  ll : L.length ≤ 64
theorem left_rise {S : DS} (hS : Inv S) (h : InvA S) (d : Int) (t : List Int) : RiseB (leftOf S d t) := by
  have hk := leftD_ok hS (partI d S.chg.length).toNat
  refine ⟨?_, fun e he => ?_, fun e he => ?_, fun e he x hx => ?_, ?_⟩
  · unfold leftOf
    rw [List.pairwise_map]
    exact hk.1
  · obtain ⟨z, hz, rfl⟩ := List.mem_map.1 he
    exact foldl_mem (S.chg.take _) (P := fun e => nameOk e.1 = true) h.nm (fun c hc h1 => h.nmC c (List.mem_of_mem_take hc) h1) z hz
  · obtain ⟨z, hz, rfl⟩ := List.mem_map.1 he
    have h1 := hk.2.2 z hz
    have h2 := (hS.fil _ (fileOf_mem h1.1 h1.2.1)).1
    show (List.take _ _).length ≤ _
    rw [List.length_take]
    omega
  · obtain ⟨z, hz, rfl⟩ := List.mem_map.1 he
    have h1 := hk.2.2 z hz
    exact (hS.fil _ (fileOf_mem h1.1 h1.2.1)).2.2.2 x (List.mem_of_mem_take hx)
  · rw [leftOf_len]
    exact h.lens _
def filL (L : List PairD) : List Fil := L.map fun e => (e.2, (e.2.length : Int))
def dirL (L : List PairD) : List Ent := L.zipIdx.map fun e => (e.1.1, (e.2 : Int))
def dsL (room : Int) (L : List PairD) : DS := ⟨room, filL L, dirL L, [], [], 0, 0, false⟩
theorem dirL_len (L : List PairD) : (dirL L).length = L.length := by unfold dirL; rw [List.length_map, List.length_zipIdx]
theorem dirL_snoc (L : List PairD) (q : PairD) : dirL (L ++ [q]) = dirL L ++ [(q.1, (L.length : Int))] := by
  unfold dirL
  rw [List.zipIdx_append, List.map_append]
  simp
theorem dirL_mem {L : List PairD} {e : Ent} (h : e ∈ dirL L) : ∃ z, z ∈ L ∧ e.1 = z.1 := by
  obtain ⟨z, hz, rfl⟩ := List.mem_map.1 h
  exact ⟨z.1, List.fst_mem_of_mem_zipIdx hz, rfl⟩
theorem newGo_rise {room : Int} : ∀ (Q P : List PairD), (P ++ Q).Pairwise (fun a b => nm a.1 < nm b.1) → (∀ e, e ∈ Q → nameOk e.1 = true) → (∀ e, e ∈ Q → e.2.length ≤ 4194304) → newGo (dsL room P) (Q.map mkF) = (dsL room (P ++ Q), 0)
  | [], P, _, _, _ => by rw [List.append_nil]; rfl
  | q :: Q, P, hp, hn, hl => by
    have hlt : ∀ e, e ∈ dirL P → nm e.1 < nm q.1 := fun e he => by
      obtain ⟨z, hz, e1⟩ := dirL_mem he
      rw [e1]
      exact (List.pairwise_append.1 hp).2.2 z hz q List.mem_cons_self
    have hno : has (dirL P) q.1 = none := has_none.2 (fun e he e1 => by have := hlt e he; rw [e1] at this; exact nm_lt_irrefl _ this)
    have he : newErr (dsL room P) (mkF q) = 0 := by
      unfold newErr
      rw [if_neg (by rw [show (mkF q).f0 = q.1 from rfl, hn q List.mem_cons_self]; decide), if_neg (by show ¬ (has (dirL P) q.1).isSome = true; rw [hno]; decide), if_neg (by have := hl q List.mem_cons_self; show ¬ q.2.length > 4194304; omega)]
    have hw : with_ (dirL P) q.1 (P.length : Int) = dirL (P ++ [q]) := by
      have h1 : without (dirL P) q.1 = dirL P := List.filter_eq_self.2 (fun e he => by
        have := hlt e he
        simp only [Bool.not_eq_true', decide_eq_false_iff_not]
        intro e1
        rw [e1] at this
        exact nm_lt_irrefl _ this)
      unfold with_
      rw [h1, dirL_snoc]
      have h2 := ins_app (n := q.1) (f := (P.length : Int)) (a := dirL P) (b := []) (fun e he hh => nm_lt_irrefl _ (List.lt_trans hh (hlt e he)))
      rw [List.append_nil] at h2
      exact h2
    have ha : newAdd (dsL room P) (mkF q) = dsL room (P ++ [q]) := by
      show DS.mk room (filL P ++ [(q.2, (q.2.length : Int))]) (with_ (dirL P) q.1 ((filL P).length : Int)) [] [] 0 0 false = _
      rw [show (filL P).length = P.length from List.length_map _, hw]
      unfold dsL filL
      rw [List.map_append]
      rfl
    show (if newErr (dsL room P) (mkF q) ≠ 0 then _ else newGo (newAdd (dsL room P) (mkF q)) (Q.map mkF)) = _
    rw [he, if_neg (by decide), ha]
    have h4 : P ++ q :: Q = P ++ [q] ++ Q := by rw [List.append_assoc]; rfl
    rw [h4]
    exact newGo_rise Q (P ++ [q]) (by rw [← h4]; exact hp) (fun e he => hn e (List.mem_cons_of_mem _ he)) (fun e he => hl e (List.mem_cons_of_mem _ he))
theorem newOf_rise {L : List PairD} (h : RiseB L) : newOf 1099511627776 (L.map mkF) = ({ dsL 1099511627776 L with safe := dirL L }, 0) := by
  have h1 := newGo_rise (room := 1099511627776) L [] h.rise h.nm h.len
  unfold newOf
  rw [if_neg (by decide), if_neg (by rw [List.length_map]; have := h.ll; omega)]
  have h0 : ds0 1099511627776 = dsL 1099511627776 [] := rfl
  rw [h0, h1, List.nil_append]
  unfold newEnd
  rw [if_neg (by show ¬ ((0 : Int) ≠ 0); decide)]
  have h2 := usedOf_bound (fs := filL L) (fun f hf => by obtain ⟨z, hz, rfl⟩ := List.mem_map.1 hf; exact h.len z hz) (dirL L)
  rw [dirL_len] at h2
  have := h.ll
  rw [if_neg (by show ¬ usedOf (filL L) (dirL L) > 1099511627776; omega)]
  rfl
theorem left_new {L : List PairD} (d : Int) (t : List Int) : leftOf { dsL 1099511627776 L with safe := dirL L } d t = L := by
  have hD : leftD { dsL 1099511627776 L with safe := dirL L } d = dirL L := by
    unfold leftD
    show (List.take _ []).foldl turn (dirL L) = _
    rw [List.take_nil]
    rfl
  unfold leftOf
  rw [hD]
  refine List.ext_getElem (by rw [List.length_map, dirL_len]) (fun i h1 h2 => ?_)
  rw [List.getElem_map]
  have h3 : (dirL L)[i]'(by rw [dirL_len]; exact h2) = (L[i].1, (i : Int)) := by
    unfold dirL
    rw [List.getElem_map, List.getElem_zipIdx]
    simp
  rw [h3]
  have h4 : fileOf { dsL 1099511627776 L with safe := dirL L } (i : Int) = (L[i].2, (L[i].2.length : Int)) := by
    show (filL L).getD (i : Int).toNat ([], 0) = _
    rw [Int.toNat_natCast, List.getD_eq_getElem?_getD]
    unfold filL
    rw [List.getElem?_map, List.getElem?_eq_getElem h2]
    rfl
  unfold leftF
  dsimp only
  rw [h4]
  have h0 : ((L[i].2.length : Int)) - (L[i].2.length : Int) = 0 := by omega
  rw [h0, partI_zero, ite_self, Int.add_zero, Int.toNat_natCast, List.take_length]
end Go.Proofs.Ythmkdmdfahhpmaa.Hand
