/- Disk: the plain model: the operations, and what they keep. -/
import Derived.Test.YtdekcjopgnfmdaaDskM
import Derived.Test.YtdekcjopgnfmdaaWApart
namespace Go.Proofs.Ytdekcjopgnfmdaa.Hand
open Go.RowKit Go.Proofs.YtdekcjopgnfmdaaW.PrintWords
set_option linter.unusedVariables false
set_option linter.unusedSimpArgs false
def nameOk (s : ByteArray) : Bool := (List.range s.size).all (fun i => okc (bt s i)) && decide (1 ≤ s.size) && decide (s.size ≤ 32)
theorem nameOk_size {s : ByteArray} (h : nameOk s = true) : 1 ≤ s.size ∧ s.size ≤ 32 := by
  unfold nameOk at h; simp at h; exact ⟨h.1.2, h.2⟩
def opCreate (S : DS) (n : ByteArray) : DS × Int :=
  if S.dead then (S, 51) else if nameOk n = false then (S, 50) else if (has S.dir n).isSome then (S, 8) else if S.dir.length ≥ 64 ∨ S.ops ≥ 1048576 then (S, 5)
  else ifGoes S fun T => note { T with files := T.files ++ [([], 0)] } (ByteArray.empty, n, (S.files.length : Int))
def setFil (S : DS) (i : Int) (f : Fil) : DS := { S with files := S.files.set i.toNat f }
def opAppend (S : DS) (n : ByteArray) (p : List Int) : DS × Int :=
  if S.dead then (S, 51) else match has S.dir n with
    | none => (S, 7)
    | some e => if ((fileOf S e.2).1.length : Int) + p.length > 4194304 ∨ (p.length : Int) > S.room - used S ∨ S.ops ≥ 1048576 then (S, 5)
      else ifGoes S fun T => setFil T e.2 ((fileOf S e.2).1 ++ p, (fileOf S e.2).2)
def opSync (S : DS) (n : ByteArray) : DS × Int :=
  if S.dead then (S, 51) else match has S.dir n with
    | none => (S, 7)
    | some e => if S.ops ≥ 1048576 then (S, 5) else ifGoes S fun T => setFil T e.2 ((fileOf S e.2).1, ((fileOf S e.2).1.length : Int))
def opRename (S : DS) (a b : ByteArray) : DS × Int :=
  if S.dead then (S, 51) else match has S.dir a with
    | none => (S, 7)
    | some e => if nameOk b = false then (S, 50) else if S.ops ≥ 1048576 then (S, 5) else ifGoes S fun T => if a = b then T else note T (a, b, e.2)
def opRemove (S : DS) (a : ByteArray) : DS × Int :=
  if S.dead then (S, 51) else match has S.dir a with
    | none => (S, 7)
    | some e => if S.ops ≥ 1048576 then (S, 5) else ifGoes S fun T => note T (a, ByteArray.empty, 0)
def opSyncDir (S : DS) : DS × Int :=
  if S.dead then (S, 51) else if S.ops ≥ 1048576 then (S, 5) else ifGoes S fun T => { T with safe := T.dir, chg := [] }
def opArm (S : DS) (n : Int) : DS := if S.dead then S else { S with armed := max n 0 }
def rdFile (S : DS) (n : ByteArray) : List Int × Int :=
  if S.dead then ([], 51) else match has S.dir n with
    | none => ([], 7)
    | some e => ((fileOf S e.2).1, 0)
def lstOf (S : DS) : List ByteArray := if S.dead then [] else S.dir.map (·.1)
def freeOf (S : DS) : Int := if S.dead then 0 else S.room - used S
def partI (n all : Int) : Int := if n < 0 then 0 else if n > all then all else n
def leftD (S : DS) (d : Int) : List Ent := (S.chg.take (partI d S.chg.length).toNat).foldl turn S.safe
def leftF (S : DS) (tails : List Int) (e : Ent) : ByteArray × List Int :=
  (e.1, (fileOf S e.2).1.take ((fileOf S e.2).2 + (if e.2 < tails.length then partI (tails.getD e.2.toNat 0) ((fileOf S e.2).1.length - (fileOf S e.2).2) else 0)).toNat)
def leftOf (S : DS) (d : Int) (tails : List Int) : List (ByteArray × List Int) := (leftD S d).map (leftF S tails)
/-- What holds of every disk. -/
structure Inv (S : DS) : Prop where
  srtD : Srt S.dir
  srtS : Srt S.safe
  okD : ∀ e, e ∈ S.dir → 0 ≤ e.2 ∧ e.2 < S.files.length ∧ 1 ≤ e.1.size ∧ e.1.size ≤ 32
  okS : ∀ e, e ∈ S.safe → 0 ≤ e.2 ∧ e.2 < S.files.length ∧ 1 ≤ e.1.size ∧ e.1.size ≤ 32
  okC : ∀ c, c ∈ S.chg → 0 ≤ c.2.2 ∧ c.2.2 < S.files.length ∧ c.1.size ≤ 32 ∧ c.2.1.size ≤ 32
  lenD : S.dir.length ≤ 64
  lenS : S.safe.length ≤ 64
  lenF : (S.files.length : Int) ≤ 64 + S.ops
  lenC : (S.chg.length : Int) ≤ S.ops
  opsB : 0 ≤ S.ops ∧ S.ops ≤ 1048576
  fil : ∀ f, f ∈ S.files → f.1.length ≤ 4194304 ∧ 0 ≤ f.2 ∧ f.2 ≤ f.1.length ∧ ∀ x, x ∈ f.1 → 0 ≤ x ∧ x ≤ 255
  roomB : 0 ≤ S.room ∧ S.room ≤ 9223372036854775807
  armB : 0 ≤ S.armed ∧ S.armed ≤ 9223372036854775807
  hist : S.chg.foldl turn S.safe = S.dir
  fileN : (S.dir.map (·.2)).Nodup
theorem fileOf_mem {S : DS} {i : Int} (h0 : 0 ≤ i) (h1 : i < S.files.length) : fileOf S i ∈ S.files := by
  unfold fileOf; have h2 : i.toNat < S.files.length := by omega
  rw [List.getD_eq_getElem?_getD, List.getElem?_eq_getElem h2]; exact List.getElem_mem h2
theorem usedOf_bound {fs : List Fil} (hf : ∀ f, f ∈ fs → f.1.length ≤ 4194304) : ∀ l : List Ent, 0 ≤ usedOf fs l ∧ usedOf fs l ≤ 4194304 * l.length
  | [] => by simp [usedOf]
  | e :: l => by
    have ih := usedOf_bound hf l
    have hx : (fs.getD e.2.toNat ([], 0)).1.length ≤ 4194304 := by
      rw [List.getD_eq_getElem?_getD]
      cases hc : fs[e.2.toNat]? with
      | none => simp
      | some f => exact hf f (List.mem_of_getElem? hc)
    have e1 : usedOf fs (e :: l) = ((fs.getD e.2.toNat ([], 0)).1.length : Int) + usedOf fs l := by simp [usedOf]
    rw [e1, List.length_cons]; omega
theorem Inv.usedB {S : DS} (h : Inv S) : 0 ≤ used S ∧ used S ≤ 268435456 := by
  have h1 := usedOf_bound (fun f hf => (h.fil f hf).1) S.dir; have h2 := h.lenD; unfold used; omega
/-- The power: what an operation's count turns. -/
theorem goes_cases (S : DS) : (S.armed > 0 ∧ S.armed - 1 = 0 ∧ goes S = ({ S with armed := 0, dead := true }, 51)) ∨ (S.armed > 0 ∧ S.armed - 1 ≠ 0 ∧ goes S = ({ S with armed := S.armed - 1, ops := S.ops + 1 }, 0)) ∨ (¬ S.armed > 0 ∧ goes S = ({ S with ops := S.ops + 1 }, 0)) := by
  unfold goes; by_cases h1 : S.armed > 0
  · rw [if_pos h1]; by_cases h2 : S.armed - 1 = 0
    · rw [if_pos h2]; exact .inl ⟨h1, h2, rfl⟩
    · rw [if_neg h2]; exact .inr (.inl ⟨h1, h2, rfl⟩)
  · rw [if_neg h1]; exact .inr (.inr ⟨h1, rfl⟩)
theorem Inv.goes {S : DS} (h : Inv S) (ho : S.ops < 1048576) : Inv (goes S).1 ∧ (goes S).1.files = S.files ∧ (goes S).1.dir = S.dir ∧ (goes S).1.safe = S.safe ∧ (goes S).1.chg = S.chg ∧ (goes S).1.room = S.room ∧ ((goes S).2 = 0 → (goes S).1.ops = S.ops + 1) := by
  have h1 := h.lenF; have h2 := h.lenC; have h3 := h.opsB; have h4 := h.armB; rcases goes_cases S with ⟨a, b, e⟩ | ⟨a, b, e⟩ | ⟨a, e⟩ <;> rw [e]
  · exact ⟨{ h with armB := ⟨Int.le_refl _, by show (0 : Int) ≤ _; omega⟩ }, rfl, rfl, rfl, rfl, rfl, fun hh => absurd hh (by show ¬ ((51 : Int) = 0); decide)⟩
  · exact ⟨{ h with lenF := by show (S.files.length : Int) ≤ 64 + (S.ops + 1); omega, lenC := by show (S.chg.length : Int) ≤ S.ops + 1; omega, opsB := by show 0 ≤ S.ops + 1 ∧ S.ops + 1 ≤ _; omega, armB := by show 0 ≤ S.armed - 1 ∧ S.armed - 1 ≤ _; omega }, rfl, rfl, rfl, rfl, rfl, fun _ => rfl⟩
  · exact ⟨{ h with lenF := by show (S.files.length : Int) ≤ 64 + (S.ops + 1); omega, lenC := by show (S.chg.length : Int) ≤ S.ops + 1; omega, opsB := by show 0 ≤ S.ops + 1 ∧ S.ops + 1 ≤ _; omega }, rfl, rfl, rfl, rfl, rfl, fun _ => rfl⟩
theorem ins_perm (n : ByteArray) (f : Int) : ∀ l : List Ent, (ins n f l).Perm ((n, f) :: l)
  | [] => List.Perm.refl _
  | x :: l => by
    unfold ins
    split
    · exact List.Perm.refl _
    · exact ((ins_perm n f l).cons x).trans (List.Perm.swap _ _ _)
theorem turn_fileN {l : List Ent} (h : (l.map (·.2)).Nodup) {c : Chg} (hf : c.2.1.size ≠ 0 → ∀ e, e ∈ turn1 l c.1 → e.2 ≠ c.2.2) : ((turn l c).map (·.2)).Nodup := by
  have h1 : ((turn1 l c.1).map (·.2)).Nodup := by
    unfold turn1
    split
    · exact h
    · exact h.sublist (List.Sublist.map _ List.filter_sublist)
  unfold turn
  split
  · exact h1
  · rename_i h0; unfold with_; refine (((ins_perm _ _ _).map _).nodup_iff).2 ?_; rw [List.map_cons, List.nodup_cons]; refine ⟨fun hm => ?_, h1.sublist (List.Sublist.map _ List.filter_sublist)⟩; obtain ⟨e, he, h2⟩ := List.mem_map.1 hm; exact hf h0 e (without_mem.1 he).1 h2
theorem foldl_snoc (l : List Chg) (c : Chg) (d : List Ent) : (l ++ [c]).foldl turn d = turn (l.foldl turn d) c := by rw [List.foldl_append]; rfl
theorem Inv.note {S : DS} (h : Inv S) {c : Chg} (hc : 0 ≤ c.2.2 ∧ c.2.2 < S.files.length ∧ c.1.size ≤ 32 ∧ c.2.1.size ≤ 32) (hl : (turn S.dir c).length ≤ 64) (ho : (S.chg.length : Int) + 1 ≤ S.ops) (hfn : c.2.1.size ≠ 0 → ∀ e, e ∈ turn1 S.dir c.1 → e.2 ≠ c.2.2) : Inv (note S c) where
  srtD := h.srtD.turn c
  srtS := h.srtS
  okD := fun e he => by
    rcases turn_mem he with he | ⟨h1, rfl⟩
    · exact h.okD e he
    · exact ⟨hc.1, hc.2.1, by show 1 ≤ c.2.1.size; omega, hc.2.2.2⟩
  okS := h.okS
  okC := fun x hx => by
    rcases List.mem_append.1 hx with hx | hx
    · exact h.okC x hx
    · rw [List.mem_singleton] at hx; rw [hx]; exact hc
  lenD := hl
  lenS := h.lenS
  lenF := h.lenF
  lenC := by show ((S.chg ++ [c]).length : Int) ≤ S.ops; rw [List.length_append, List.length_singleton]; omega
  opsB := h.opsB
  fil := h.fil
  roomB := h.roomB
  armB := h.armB
  hist := by show (S.chg ++ [c]).foldl turn S.safe = turn S.dir c; rw [foldl_snoc, h.hist]
  fileN := turn_fileN h.fileN hfn
theorem Inv.newFile {S : DS} (h : Inv S) (hl : (S.files.length : Int) + 1 ≤ 64 + S.ops) : Inv { S with files := S.files ++ [([], 0)] } where
  srtD := h.srtD
  srtS := h.srtS
  okD := fun e he => by have := h.okD e he; show _ ∧ _ < ((S.files ++ [([], 0)]).length : Int) ∧ _; rw [List.length_append, List.length_singleton]; omega
  okS := fun e he => by have := h.okS e he; show _ ∧ _ < ((S.files ++ [([], 0)]).length : Int) ∧ _; rw [List.length_append, List.length_singleton]; omega
  okC := fun e he => by have := h.okC e he; show _ ∧ _ < ((S.files ++ [([], 0)]).length : Int) ∧ _; rw [List.length_append, List.length_singleton]; omega
  lenD := h.lenD
  lenS := h.lenS
  lenF := by show ((S.files ++ [([], 0)]).length : Int) ≤ 64 + S.ops; rw [List.length_append, List.length_singleton]; omega
  lenC := h.lenC
  opsB := h.opsB
  fil := fun f hf => by
    rcases List.mem_append.1 hf with hf | hf
    · exact h.fil f hf
    · rw [List.mem_singleton] at hf; rw [hf]; exact ⟨by simp, Int.le_refl _, by simp, fun x hx => absurd hx List.not_mem_nil⟩
  roomB := h.roomB
  armB := h.armB
  hist := h.hist
  fileN := h.fileN
theorem Inv.setFil {S : DS} (h : Inv S) {i : Int} {f : Fil} (hf : f.1.length ≤ 4194304 ∧ 0 ≤ f.2 ∧ f.2 ≤ f.1.length ∧ ∀ x, x ∈ f.1 → 0 ≤ x ∧ x ≤ 255) : Inv (setFil S i f) where
  srtD := h.srtD
  srtS := h.srtS
  okD := fun e he => by have := h.okD e he; show _ ∧ _ < ((S.files.set i.toNat f).length : Int) ∧ _; rw [List.length_set]; exact this
  okS := fun e he => by have := h.okS e he; show _ ∧ _ < ((S.files.set i.toNat f).length : Int) ∧ _; rw [List.length_set]; exact this
  okC := fun e he => by have := h.okC e he; show _ ∧ _ < ((S.files.set i.toNat f).length : Int) ∧ _; rw [List.length_set]; exact this
  lenD := h.lenD
  lenS := h.lenS
  lenF := by show ((S.files.set i.toNat f).length : Int) ≤ 64 + S.ops; rw [List.length_set]; exact h.lenF
  lenC := h.lenC
  opsB := h.opsB
  fil := fun g hg => by
    rcases List.mem_or_eq_of_mem_set hg with hg | hg
    · exact h.fil g hg
    · rw [hg]; exact hf
  roomB := h.roomB
  armB := h.armB
  hist := h.hist
  fileN := h.fileN
theorem Inv.sync {S : DS} (h : Inv S) : Inv { S with safe := S.dir, chg := [] } :=
  { h with srtS := h.srtD, okS := h.okD, okC := fun c hc => absurd hc List.not_mem_nil, lenS := h.lenD, lenC := by have := h.opsB; show ((([] : List Chg).length : Nat) : Int) ≤ S.ops; simp; omega, hist := rfl }
/-- A name that is taken out, one that is put in: a name of the directory is gone ahead of another that comes. -/
theorem without_lt {l : List Ent} {n : ByteArray} {e : Ent} (h : has l n = some e) : (without l n).length + 1 ≤ l.length := by
  obtain ⟨h1, h2⟩ := has_some h
  induction l with
  | nil => cases h1
  | cons x l ih =>
    unfold without; by_cases hx : x.1 = n
    · rw [List.filter_cons_of_neg (by simp [hx])]; have := without_len l n; unfold without at this; rw [List.length_cons]; omega
    · rw [List.filter_cons_of_pos (by simp [hx]), List.length_cons, List.length_cons]; rcases List.mem_cons.1 h1 with rfl | h1'
      · exact absurd h2 hx
      · have hh : has l n = some e := by
          unfold has at h ⊢; rw [List.find?_cons] at h
          simpa [hx] using h
        have := ih hh h1'; unfold without at this; omega
theorem nodup_map_inj {l : List Ent} (h : (l.map (·.2)).Nodup) {a b : Ent} (ha : a ∈ l) (hb : b ∈ l) (e : a.2 = b.2) : a = b := by
  induction l with
  | nil => cases ha
  | cons x l ih =>
    rw [List.map_cons, List.nodup_cons] at h; rcases List.mem_cons.1 ha with rfl | ha' <;> rcases List.mem_cons.1 hb with rfl | hb'
    · rfl
    · exact absurd (List.mem_map.2 ⟨b, hb', e.symm⟩) h.1
    · exact absurd (List.mem_map.2 ⟨a, ha', e⟩) h.1
    · exact ih h.2 ha' hb'
theorem Inv.create {S : DS} (h : Inv S) (n : ByteArray) : Inv (opCreate S n).1 := by
  unfold opCreate
  split
  · exact h
  split
  · exact h
  rename_i h1
  split
  · exact h
  split
  · exact h
  rename_i h2 h3
  have h4 : S.dir.length < 64 ∧ S.ops < 1048576 := by omega
  obtain ⟨g1, g2, g3, g4, g5, g6, g7⟩ := h.goes h4.2; unfold ifGoes
  split
  · rename_i h5; have h6 := g7 h5; have h7 := g1.newFile (by rw [g2, h6]; have := h.lenF; omega); have hsz := nameOk_size (by simpa using h1); refine h7.note ⟨by show (0 : Int) ≤ (S.files.length : Int); omega, ?_, by show 0 ≤ 32; omega, hsz.2⟩ ?_ ?_ ?_
    · show (S.files.length : Int) < (((Hand.goes S).1.files ++ [([], 0)]).length : Int); rw [g2, List.length_append, List.length_singleton]; omega
    · have := turn_len (Hand.goes S).1.dir (ByteArray.empty, n, (S.files.length : Int)); rw [g3] at this; show (turn (Hand.goes S).1.dir _).length ≤ 64; rw [g3]; omega
    · show ((Hand.goes S).1.chg.length : Int) + 1 ≤ (Hand.goes S).1.ops; rw [g5, h6]; have := h.lenC; omega
    · intro _ e he; have he2 : e ∈ S.dir := by rw [← g3]; exact turn1_mem he
      have := (h.okD e he2).2.1; show e.2 ≠ (S.files.length : Int); omega
  · exact g1
theorem Inv.append {S : DS} (h : Inv S) (n : ByteArray) (p : List Int) (hp : ∀ x, x ∈ p → 0 ≤ x ∧ x ≤ 255) : Inv (opAppend S n p).1 := by
  unfold opAppend
  split
  · exact h
  split
  · exact h
  rename_i e he
  split
  · exact h
  rename_i h2
  have h4 : ((fileOf S e.2).1.length : Int) + p.length ≤ 4194304 ∧ S.ops < 1048576 := by omega
  obtain ⟨g1, g2, g3, g4, g5, g6, g7⟩ := h.goes h4.2; unfold ifGoes
  split
  · have hd := h.okD e (has_some he).1; have hf := h.fil _ (fileOf_mem hd.1 hd.2.1); refine g1.setFil ⟨by rw [List.length_append]; omega, hf.2.1, by have := hf.2.2.1; rw [List.length_append]; show (fileOf S e.2).2 ≤ _; omega, fun x hx => ?_⟩; rcases List.mem_append.1 hx with hx | hx
    · exact hf.2.2.2 x hx
    · exact hp x hx
  · exact g1
theorem Inv.sync_ {S : DS} (h : Inv S) (n : ByteArray) : Inv (opSync S n).1 := by
  unfold opSync
  split
  · exact h
  split
  · exact h
  rename_i e he
  split
  · exact h
  rename_i h2
  obtain ⟨g1, g2, g3, g4, g5, g6, g7⟩ := h.goes (by omega); unfold ifGoes
  split
  · have hd := h.okD e (has_some he).1; have hf := h.fil _ (fileOf_mem hd.1 hd.2.1); exact g1.setFil ⟨hf.1, by show (0 : Int) ≤ ((fileOf S e.2).1.length : Int); omega, Int.le_refl _, hf.2.2.2⟩
  · exact g1
theorem turn_len_from {l : List Ent} {a b : ByteArray} {f : Int} {e : Ent} (h : has l a = some e) (ha : a.size ≠ 0) : (turn l (a, b, f)).length ≤ l.length := by
  have h1 : (turn1 l a).length + 1 ≤ l.length := by unfold turn1; rw [if_neg ha]; exact without_lt h
  unfold turn
  split
  · show (turn1 l a).length ≤ _; omega
  · have := with_len (turn1 l a) b f; show (with_ (turn1 l a) b f).length ≤ _; omega
theorem Inv.rename {S : DS} (h : Inv S) (a b : ByteArray) : Inv (opRename S a b).1 := by
  unfold opRename
  split
  · exact h
  split
  · exact h
  rename_i e he
  split
  · exact h
  rename_i h1
  split
  · exact h
  rename_i h2
  obtain ⟨g1, g2, g3, g4, g5, g6, g7⟩ := h.goes (by omega); unfold ifGoes
  split
  · rename_i h5; show Inv (if a = b then (Hand.goes S).1 else Hand.note (Hand.goes S).1 (a, b, e.2))
    split
    · exact g1
    · obtain ⟨e1, e2⟩ := has_some he; have hd := h.okD e e1; rw [e2] at hd; have hsz := nameOk_size (by simpa using h1); refine g1.note ⟨hd.1, by rw [g2]; exact hd.2.1, hd.2.2.2, hsz.2⟩ ?_ ?_ ?_
      · rw [g3]; have := turn_len_from (b := b) (f := e.2) he (by omega); have := h.lenD; omega
      · rw [g5, g7 h5]; have := h.lenC; omega
      · intro _ x hx hxe; rw [g3] at hx; unfold turn1 at hx; rw [if_neg (by show ¬ a.size = 0; omega)] at hx; obtain ⟨x1, x2⟩ := without_mem.1 hx; have : x = e := nodup_map_inj h.fileN x1 e1 hxe; rw [this] at x2; exact x2 e2
  · exact g1
theorem Inv.remove {S : DS} (h : Inv S) (a : ByteArray) : Inv (opRemove S a).1 := by
  unfold opRemove
  split
  · exact h
  split
  · exact h
  rename_i e he
  split
  · exact h
  rename_i h2
  obtain ⟨g1, g2, g3, g4, g5, g6, g7⟩ := h.goes (by omega); unfold ifGoes
  split
  · rename_i h5; obtain ⟨e1, e2⟩ := has_some he; have hd := h.okD e e1; rw [e2] at hd; refine g1.note ⟨Int.le_refl _, by rw [g2]; show (0 : Int) < _; omega, hd.2.2.2, by show 0 ≤ 32; omega⟩ ?_ ?_ (fun hh => absurd rfl hh)
    · rw [g3]; have := turn_len_from (b := ByteArray.empty) (f := 0) he (by omega); have := h.lenD; omega
    · rw [g5, g7 h5]; have := h.lenC; omega
  · exact g1
theorem Inv.syncDir {S : DS} (h : Inv S) : Inv (opSyncDir S).1 := by
  unfold opSyncDir
  split
  · exact h
  split
  · exact h
  rename_i h2
  obtain ⟨g1, _⟩ := h.goes (by omega); unfold ifGoes
  split
  · exact g1.sync
  · exact g1
theorem Inv.arm {S : DS} (h : Inv S) (n : Int) (hn : n ≤ 9223372036854775807) : Inv (opArm S n) := by
  unfold opArm
  split
  · exact h
  · exact { h with armB := by show 0 ≤ max n 0 ∧ max n 0 ≤ _; omega }
end Go.Proofs.Ytdekcjopgnfmdaa.Hand
