/- Disk: what is used, behind a change. -/
import Derived.Test.YthmkdmdfahhpmaaDskF
namespace Go.Proofs.Ythmkdmdfahhpmaa.Hand
set_option linter.unusedVariables false
set_option linter.unusedSimpArgs false
def flen (fs : List Fil) (i : Int) : Int := ((fs.getD i.toNat ([], 0)).1.length : Int)
theorem usedOf_cons (fs : List Fil) (e : Ent) (l : List Ent) : usedOf fs (e :: l) = flen fs e.2 + usedOf fs l := by simp [usedOf, flen]
theorem usedOf_nil (fs : List Fil) : usedOf fs [] = 0 := rfl
theorem usedOf_without (fs : List Fil) (n : ByteArray) : ∀ l : List Ent, (l.map (·.1)).Nodup → usedOf fs (without l n) = usedOf fs l - (match has l n with | some e => flen fs e.2 | none => 0)
  | [], _ => by simp [without, has, usedOf]
  | x :: l, hN => by
    rw [List.map_cons, List.nodup_cons] at hN
    have ih := usedOf_without fs n l hN.2
    by_cases hx : x.1 = n
    · have h1 : without (x :: l) n = without l n := by unfold without; rw [List.filter_cons_of_neg (by simp [hx])]
      have h2 : has (x :: l) n = some x := by unfold has; rw [List.find?_cons]; simp [hx]
      have h3 : has l n = none := has_none.2 (fun e he e1 => hN.1 (List.mem_map.2 ⟨e, he, e1.trans hx.symm⟩))
      rw [h3] at ih
      simp only at ih
      rw [h1, h2, usedOf_cons, ih]
      simp only
      omega
    · have h1 : without (x :: l) n = x :: without l n := by unfold without; rw [List.filter_cons_of_pos (by simp [hx])]
      have h2 : has (x :: l) n = has l n := by unfold has; rw [List.find?_cons]; simp [hx]
      rw [h1, h2, usedOf_cons, usedOf_cons, ih]
      omega
theorem usedOf_ins (fs : List Fil) (n : ByteArray) (f : Int) : ∀ l : List Ent, usedOf fs (ins n f l) = usedOf fs l + flen fs f
  | [] => by simp [ins, usedOf_cons, usedOf_nil]
  | x :: l => by
    have ih := usedOf_ins fs n f l
    unfold ins
    split
    · rw [usedOf_cons]; simp only; omega
    · rw [usedOf_cons, usedOf_cons, ih]; omega
theorem has_without {l : List Ent} {a b : ByteArray} (h : a ≠ b) : has (without l a) b = has l b := by
  induction l with
  | nil => rfl
  | cons x l ih =>
    by_cases hx : x.1 = a
    · have h1 : without (x :: l) a = without l a := by unfold without; rw [List.filter_cons_of_neg (by simp [hx])]
      have h2 : has (x :: l) b = has l b := by
        have hne : x.1 ≠ b := fun e => h (hx.symm.trans e)
        unfold has
        rw [List.find?_cons]
        simp [hne]
      rw [h1, h2, ih]
    · have h1 : without (x :: l) a = x :: without l a := by unfold without; rw [List.filter_cons_of_pos (by simp [hx])]
      rw [h1]
      unfold has at ih ⊢
      rw [List.find?_cons, List.find?_cons, ih]
theorem lenN_eq (S : DS) (n : ByteArray) : lenN S n = (match has S.dir n with | some e => flen S.files e.2 | none => 0) := rfl
theorem lenN_empty {S : DS} (h : Inv S) {n : ByteArray} (hn : n.size = 0) : lenN S n = 0 := by
  have : has S.dir n = none := has_none.2 (fun e he e1 => by have := (h.okD e he).2.2.1; rw [e1] at this; omega)
  unfold lenN
  rw [this]
theorem used_turn1 {S : DS} (h : Inv S) (a : ByteArray) : usedOf S.files (turn1 S.dir a) = used S - lenN S a := by
  unfold turn1
  split
  · rename_i h0
    rw [lenN_empty h h0]
    unfold used
    omega
  · rw [usedOf_without _ _ _ h.srtD.nodup]
    rfl
theorem used_note {S : DS} (h : Inv S) {a b : ByteArray} (hab : a ≠ b) (f : Int) : used (note S (a, b, f)) = used S - lenN S a - lenN S b + lenB S b f := by
  show usedOf S.files (turn S.dir (a, b, f)) = _
  have h1 := used_turn1 h a
  unfold turn lenB
  by_cases hb : b.size = 0
  · rw [if_pos hb, if_pos hb, h1, lenN_empty h hb]
    omega
  · rw [if_neg hb, if_neg hb]
    show usedOf S.files (with_ (turn1 S.dir a) b f) = _
    unfold with_
    have hN : ((turn1 S.dir a).map (·.1)).Nodup := (h.srtD.turn1 a).nodup
    rw [usedOf_ins, usedOf_without _ _ _ hN, h1]
    have h2 : has (turn1 S.dir a) b = has S.dir b := by
      unfold turn1
      split
      · rfl
      · exact has_without hab
    rw [h2, lenN_eq]
    rfl
theorem usedOf_app {fs : List Fil} (x : List Fil) : ∀ {l : List Ent}, (∀ e, e ∈ l → 0 ≤ e.2 ∧ e.2 < fs.length) → usedOf (fs ++ x) l = usedOf fs l
  | [], _ => rfl
  | e :: l, h => by
    rw [usedOf_cons, usedOf_cons, usedOf_app x (fun y hy => h y (List.mem_cons_of_mem _ hy))]
    have he := h e List.mem_cons_self
    congr 1
    unfold flen
    rw [List.getD_eq_getElem?_getD, List.getD_eq_getElem?_getD, List.getElem?_append_left (by omega)]
/-- A file of the list is written; the directory names it once. -/
theorem usedOf_set {fs : List Fil} {i : Int} {f : Fil} (hi : 0 ≤ i ∧ i < fs.length) : ∀ {l : List Ent}, (∀ e, e ∈ l → 0 ≤ e.2) → (l.map (·.2)).Nodup → usedOf (fs.set i.toNat f) l = usedOf fs l + (if (l.any fun e => decide (e.2 = i)) then (f.1.length : Int) - flen fs i else 0)
  | [], _, _ => by simp [usedOf]
  | e :: l, h0, hN => by
    rw [List.map_cons, List.nodup_cons] at hN
    have ih := usedOf_set hi (f := f) (fun y hy => h0 y (List.mem_cons_of_mem _ hy)) hN.2
    rw [usedOf_cons, usedOf_cons, ih, List.any_cons]
    have he0 := h0 e List.mem_cons_self
    by_cases he : e.2 = i
    · have h1 : (l.any fun e => decide (e.2 = i)) = false := by
        cases hc : l.any fun e => decide (e.2 = i) with
        | false => rfl
        | true =>
          obtain ⟨y, hy, hy2⟩ := List.any_eq_true.1 hc
          exact absurd (List.mem_map.2 ⟨y, hy, (of_decide_eq_true hy2).trans he.symm⟩) hN.1
      have h2 : flen (fs.set i.toNat f) e.2 = (f.1.length : Int) := by
        rw [he]
        unfold flen
        rw [List.getD_eq_getElem?_getD, List.getElem?_set_self (by omega)]
        rfl
      rw [h1, h2, he]
      simp
      omega
    · have h2 : flen (fs.set i.toNat f) e.2 = flen fs e.2 := by
        unfold flen
        rw [List.getD_eq_getElem?_getD, List.getD_eq_getElem?_getD, List.getElem?_set_ne (by omega)]
      rw [h2]
      simp only [he, decide_false, Bool.false_or]
      omega
end Go.Proofs.Ythmkdmdfahhpmaa.Hand
