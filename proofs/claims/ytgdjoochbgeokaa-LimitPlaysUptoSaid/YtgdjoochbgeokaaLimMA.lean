/- Limits: the plain law of LimitPlays: the document's windows, of which none is taken out, against the program's, of which those that are over are let go. Limits: what the document's functions answer, in terms of the windows that are open. Limits: what the document's Why, Left, Wait and Subjects answer. Limits: what the document's Subjects answers; texts. Limits: the program's map, told by a list of windows. Limits: the program's state, told by a list; others. Limits: Left. Limits: Wait. -/
import Derived.Test.YtgdjoochbgeokaaLimF
import Derived.Test.YtgdjoochbgeokaaQx
import Derived.Sort.Walk0
import Derived.Maps.Ext
namespace Go.Proofs.Ytgdjoochbgeokaa.Hand
set_option linter.unusedVariables false
set_option linter.unusedSimpArgs false
/-PURE-/
/-- A window: whose, when it began, how many attempts. -/
abbrev Win := ByteArray × Int × Int
def al (sp t : Int) (x : Win) : Bool := decide (t - x.2.1 < sp)
def opn (sp t : Int) (x : Win) : Bool := decide (0 < x.2.2) && al sp t x
/-- What is left of a window; the least of them. -/
def lwOf (sp t : Int) (l : List Win) : Int := l.foldl (fun m x => min m (sp - (t - x.2.1))) sp
theorem lw_perm {sp t : Int} {a b : List Win} (h : a.Perm b) : lwOf sp t a = lwOf sp t b := by
  unfold lwOf
  exact h.foldl_eq' (fun x _ y _ z => by omega) _
theorem lw_snoc (sp t : Int) (l : List Win) (x : Win) : lwOf sp t (l ++ [x]) = min (lwOf sp t l) (sp - (t - x.2.1)) := by
  unfold lwOf
  rw [List.foldl_append]
  rfl
/-- The document's windows All and the program's Es, at clock ck. -/
structure RelL (tr mo sp ck : Int) (All Es : List Win) : Prop where
  perm : (All.filter (opn sp ck)).Perm Es
  nodup : (Es.map (·.1)).Nodup
  beg : ∀ x, x ∈ All → 0 ≤ x.2.1 ∧ x.2.1 ≤ ck
  used : ∀ x, x ∈ Es → x.2.2 ≤ tr
  len : (Es.length : Int) ≤ mo
  size : ∀ x, x ∈ Es → x.1.size ≤ 256
theorem al_mono {sp ck t : Int} (h : ck ≤ t) {x : Win} (ha : al sp t x = true) : al sp ck x = true := by
  unfold al at *
  simp at *
  omega
/-- At a later time: those of Es that are not over. -/
theorem RelL.at_ {tr mo sp ck t : Int} {All Es : List Win} (h : RelL tr mo sp ck All Es) (ht : ck ≤ t) : (All.filter (opn sp t)).Perm (Es.filter (al sp t)) := by
  have h2 := h.perm.filter (al sp t)
  rw [List.filter_filter, List.filter_congr (q := opn sp t) (fun x _ => ?_)] at h2
  · exact h2
  · unfold opn
    cases ha : al sp t x with
    | false => simp
    | true => simp [al_mono ht ha]
theorem RelL.es {tr mo sp ck : Int} {All Es : List Win} (h : RelL tr mo sp ck All Es) {x : Win} (hx : x ∈ Es) : x ∈ All ∧ 0 < x.2.2 ∧ al sp ck x = true := by
  obtain ⟨h1, h2⟩ := List.mem_filter.1 (h.perm.mem_iff.2 hx)
  unfold opn at h2
  simp at h2
  exact ⟨h1, h2.1, h2.2⟩
/-- The clock goes on. -/
theorem RelL.later {tr mo sp ck t : Int} {All Es : List Win} (h : RelL tr mo sp ck All Es) (ht : ck ≤ t) : RelL tr mo sp t All (Es.filter (al sp t)) :=
  ⟨h.at_ ht, h.nodup.sublist (List.Sublist.map _ List.filter_sublist), fun x hx => ⟨(h.beg x hx).1, by have := (h.beg x hx).2; omega⟩, fun x hx => h.used x (List.mem_filter.1 hx).1, by have := List.length_filter_le (al sp t) Es; have := h.len; omega, fun x hx => h.size x (List.mem_filter.1 hx).1⟩
theorem win_eq {Es : List Win} (hN : (Es.map (·.1)).Nodup) {a b : Win} (ha : a ∈ Es) (hb : b ∈ Es) (e : a.1 = b.1) : a = b := by
  induction Es with
  | nil => cases ha
  | cons t l ih =>
    rw [List.map_cons, List.nodup_cons] at hN
    rcases List.mem_cons.1 ha with rfl | ha' <;> rcases List.mem_cons.1 hb with rfl | hb'
    · rfl
    · exact absurd (List.mem_map.2 ⟨b, hb', e.symm⟩) hN.1
    · exact absurd (List.mem_map.2 ⟨a, ha', e⟩) hN.1
    · exact ih hN.2 ha' hb'
/-- A new window at the end. -/
theorem RelL.fresh {tr mo sp ck : Int} {All Es : List Win} {s : ByteArray} (h : RelL tr mo sp ck All Es) (hsp : 0 < sp) (hck : 0 ≤ ck) (htr : 1 ≤ tr) (hno : ∀ x, x ∈ Es → x.1 ≠ s) (hl : (Es.length : Int) < mo) (hs : s.size ≤ 256) : RelL tr mo sp ck (All ++ [(s, ck, 1)]) (Es ++ [(s, ck, 1)]) := by
  refine ⟨?_, ?_, fun x hx => ?_, fun x hx => ?_, by rw [List.length_append, List.length_singleton]; omega, fun x hx => ?_⟩
  · rw [List.filter_append]
    refine h.perm.append ?_
    rw [List.filter_cons_of_pos (by unfold opn al; simp; omega)]
    exact List.Perm.refl _
  · rw [List.map_append, List.nodup_append]
    refine ⟨h.nodup, by simp, fun a ha b hb e => ?_⟩
    obtain ⟨x, hx, rfl⟩ := List.mem_map.1 ha
    have hb2 : b = s := by simpa using hb
    exact hno x hx (e.trans hb2)
  · rcases List.mem_append.1 hx with hx | hx
    · exact h.beg x hx
    · rw [List.mem_singleton] at hx; subst hx; exact ⟨hck, Int.le_refl _⟩
  · rcases List.mem_append.1 hx with hx | hx
    · exact h.used x hx
    · rw [List.mem_singleton] at hx; subst hx; exact htr
  · rcases List.mem_append.1 hx with hx | hx
    · exact h.size x hx
    · rw [List.mem_singleton] at hx; subst hx; exact hs
/-- A window of a list turned. -/
def turnAt (Es : List Win) (s : ByteArray) (y : Win) : List Win := Es.map fun x => if x.1 = s then y else x
theorem split3 {l : List Win} {i : Nat} (hi : i < l.length) : l = l.take i ++ l[i] :: l.drop (i + 1) := by
  rw [← List.drop_eq_getElem_cons hi, List.take_append_drop]
theorem set3 {l : List Win} {i : Nat} (hi : i < l.length) (y : Win) : l.set i y = l.take i ++ y :: l.drop (i + 1) := by
  have hl : (l.take i).length = i := by rw [List.length_take]; omega
  conv => lhs; rw [split3 hi]
  rw [List.set_append_right _ _ (by omega), hl, Nat.sub_self, List.set_cons_zero]
/-- One attempt more in an open window. -/
theorem RelL.more {tr mo sp ck : Int} {All Es : List Win} (h : RelL tr mo sp ck All Es) {i : Nat} (hi : i < All.length) (ho : opn sp ck All[i] = true) (hlt : All[i].2.2 < tr) :
    ∃ Es', Es'.Perm ((All[i].1, All[i].2.1, All[i].2.2 + 1) :: Es.filter (fun x => !decide (x.1 = All[i].1))) ∧ RelL tr mo sp ck (All.set i (All[i].1, All[i].2.1, All[i].2.2 + 1)) Es' := by
  obtain ⟨y, hy⟩ : ∃ y : Win, y = (All[i].1, All[i].2.1, All[i].2.2 + 1) := ⟨_, rfl⟩
  rw [← hy]
  have hmem : All[i] ∈ Es := h.perm.mem_iff.1 (List.mem_filter.2 ⟨List.getElem_mem hi, ho⟩)
  have hsplit : (All.filter (opn sp ck)) = (All.take i).filter (opn sp ck) ++ All[i] :: (All.drop (i + 1)).filter (opn sp ck) := by
    conv => lhs; rw [split3 hi]
    rw [List.filter_append, List.filter_cons_of_pos ho]
  have hoy : opn sp ck y = true := by
    unfold opn al at ho ⊢
    rw [hy]
    simp at ho ⊢
    omega
  have hset : (All.set i y).filter (opn sp ck) = (All.take i).filter (opn sp ck) ++ y :: (All.drop (i + 1)).filter (opn sp ck) := by
    rw [set3 hi, List.filter_append, List.filter_cons_of_pos hoy]
  obtain ⟨R, hR⟩ : ∃ R, R = (All.take i).filter (opn sp ck) ++ (All.drop (i + 1)).filter (opn sp ck) := ⟨_, rfl⟩
  have hp1 : (All[i] :: R).Perm Es := by
    refine List.Perm.trans ?_ h.perm
    rw [hsplit, hR]
    exact List.perm_middle.symm
  have hN : ((All[i] :: R).map (·.1)).Nodup := ((hp1.map _).nodup_iff).2 h.nodup
  rw [List.map_cons, List.nodup_cons] at hN
  have hRf : (Es.filter (fun x => !decide (x.1 = All[i].1))).Perm R := by
    refine (hp1.symm.filter _).trans ?_
    rw [List.filter_cons_of_neg (by simp), List.filter_eq_self.2 (fun x hx => ?_)]
    have : x.1 ≠ All[i].1 := fun e => hN.1 (List.mem_map.2 ⟨x, hx, e⟩)
    simpa using this
  refine ⟨y :: R, List.Perm.cons _ hRf.symm, ?_, ?_, fun x hx => ?_, fun x hx => ?_, ?_, fun x hx => ?_⟩
  · rw [hset, hR]
    exact List.perm_middle
  · rw [List.map_cons, List.nodup_cons, hy]
    exact hN
  · rcases List.mem_or_eq_of_mem_set hx with hx | hx
    · exact h.beg x hx
    · have hb := h.beg _ (List.getElem_mem hi); rw [hx, hy]; exact hb
  · rcases List.mem_cons.1 hx with hx | hx
    · rw [hx, hy]; show All[i].2.2 + 1 ≤ tr; omega
    · exact h.used x (hp1.mem_iff.1 (List.mem_cons_of_mem _ hx))
  · have := hp1.length_eq
    have h2 := h.len
    rw [List.length_cons] at this ⊢
    omega
  · rcases List.mem_cons.1 hx with hx | hx
    · have hb := h.size _ hmem; rw [hx, hy]; exact hb
    · exact h.size x (hp1.mem_iff.1 (List.mem_cons_of_mem _ hx))
/-- An open window is forgiven. -/
theorem RelL.forgive {tr mo sp ck : Int} {All Es : List Win} (h : RelL tr mo sp ck All Es) {i : Nat} (hi : i < All.length) (ho : opn sp ck All[i] = true) :
    RelL tr mo sp ck (All.set i (All[i].1, All[i].2.1, 0)) (Es.filter (fun x => !decide (x.1 = All[i].1))) := by
  obtain ⟨y, hy⟩ : ∃ y : Win, y = (All[i].1, All[i].2.1, 0) := ⟨_, rfl⟩
  rw [← hy]
  have hsplit : (All.filter (opn sp ck)) = (All.take i).filter (opn sp ck) ++ All[i] :: (All.drop (i + 1)).filter (opn sp ck) := by
    conv => lhs; rw [split3 hi]
    rw [List.filter_append, List.filter_cons_of_pos ho]
  have hoy : opn sp ck y = false := by unfold opn; rw [hy]; simp
  have hset : (All.set i y).filter (opn sp ck) = (All.take i).filter (opn sp ck) ++ (All.drop (i + 1)).filter (opn sp ck) := by
    rw [set3 hi, List.filter_append, List.filter_cons_of_neg (by rw [hoy]; decide)]
  obtain ⟨R, hR⟩ : ∃ R, R = (All.take i).filter (opn sp ck) ++ (All.drop (i + 1)).filter (opn sp ck) := ⟨_, rfl⟩
  have hp1 : (All[i] :: R).Perm Es := by
    refine List.Perm.trans ?_ h.perm
    rw [hsplit, hR]
    exact List.perm_middle.symm
  have hN : ((All[i] :: R).map (·.1)).Nodup := ((hp1.map _).nodup_iff).2 h.nodup
  rw [List.map_cons, List.nodup_cons] at hN
  have hRf : (Es.filter (fun x => !decide (x.1 = All[i].1))).Perm R := by
    refine (hp1.symm.filter _).trans ?_
    rw [List.filter_cons_of_neg (by simp), List.filter_eq_self.2 (fun x hx => ?_)]
    have : x.1 ≠ All[i].1 := fun e => hN.1 (List.mem_map.2 ⟨x, hx, e⟩)
    simpa using this
  refine ⟨?_, h.nodup.sublist (List.Sublist.map _ List.filter_sublist), fun x hx => ?_, fun x hx => h.used x (List.mem_filter.1 hx).1, by have := List.length_filter_le (fun x : Win => !decide (x.1 = All[i].1)) Es; have := h.len; omega, fun x hx => h.size x (List.mem_filter.1 hx).1⟩
  · rw [hset, ← hR]
    exact hRf.symm
  · rcases List.mem_or_eq_of_mem_set hx with hx | hx
    · exact h.beg x hx
    · have hb := h.beg _ (List.getElem_mem hi); rw [hx, hy]; exact hb
/-- What Try does to the program's windows (those that are over are gone). -/
theorem RelL.none_ {tr mo sp ck : Int} {All Es : List Win} (h : RelL tr mo sp ck All Es) {s : ByteArray} : (∀ x, x ∈ All → opn sp ck x = true → x.1 ≠ s) ↔ ∀ x, x ∈ Es → x.1 ≠ s := by
  constructor
  · intro h1 x hx
    obtain ⟨h2, h3⟩ := List.mem_filter.1 (h.perm.mem_iff.2 hx)
    exact h1 x h2 h3
  · intro h1 x hx ho
    exact h1 x (h.perm.mem_iff.1 (List.mem_filter.2 ⟨hx, ho⟩))
/-- The least of what is left, as the document has it: 0 where there is none. -/
def leastW (sp t : Int) (l : List Win) : Int := if l = [] then 0 else lwOf sp t l
theorem lw_le (sp t : Int) (l : List Win) : lwOf sp t l ≤ sp := by
  unfold lwOf
  suffices h : ∀ (l : List Win) (z : Int), l.foldl (fun m x => min m (sp - (t - x.2.1))) z ≤ z from h l sp
  intro l
  induction l with
  | nil => intro z; exact Int.le_refl _
  | cons x l ih => intro z; have := ih (min z (sp - (t - x.2.1))); show l.foldl _ (min z (sp - (t - x.2.1))) ≤ z; omega
theorem leastW_next {sp t : Int} {l : List Win} {x : Win} (hx : sp - (t - x.2.1) ≤ sp) : leastW sp t (l ++ [x]) = if l = [] ∨ sp - (t - x.2.1) < leastW sp t l then sp - (t - x.2.1) else leastW sp t l := by
  unfold leastW
  rw [if_neg (by simp), lw_snoc]
  by_cases hl : l = []
  · rw [if_pos (.inl hl), hl]
    show min sp _ = _
    omega
  · rw [if_neg hl]
    by_cases h2 : sp - (t - x.2.1) < lwOf sp t l
    · rw [if_pos (.inr h2)]; omega
    · rw [if_neg (fun h => h.elim hl h2)]; omega
theorem sorted_unique {a b : List (List UInt8)} (hp : a.Perm b) (ha : a.Pairwise (· < ·)) (hb : b.Pairwise (· ≤ ·)) : a = b :=
  List.Perm.eq_of_pairwise (le := fun x y : List UInt8 => x ≤ y) (fun x y _ _ h1 h2 => List.le_antisymm h1 h2) (ha.imp (fun h => List.le_of_lt h)) hb hp
/-- A text is put into its place. -/
theorem put_place {s : List (List UInt8)} {k : Nat} {x : List UInt8} (hk : k ≤ s.length) (hs : s.Pairwise (· < ·)) (h1 : ∀ y, y ∈ s.take k → y < x) (h2 : ∀ h : k < s.length, ¬ s[k] < x) (hn : x ∉ s) : (s.take k ++ x :: s.drop k).Pairwise (· < ·) := by
  have e : s.take k ++ s.drop k = s := List.take_append_drop k s
  have hp : (s.take k ++ s.drop k).Pairwise (· < ·) := by rw [e]; exact hs
  obtain ⟨p1, p2, p3⟩ := List.pairwise_append.1 hp
  have hd : ∀ y, y ∈ s.drop k → x < y := fun y hy => by
    have hlt : k < s.length := by
      rcases Nat.lt_or_ge k s.length with h | h
      · exact h
      · rw [List.drop_eq_nil_of_le h] at hy; cases hy
    have h3 : x ≤ s[k] := List.not_lt.1 (h2 hlt)
    have h4 : x ≠ s[k] := fun e => hn (by rw [e]; exact List.getElem_mem hlt)
    have h5 : x < s[k] := by
      rcases Decidable.em (x < s[k]) with h | h
      · exact h
      · exact absurd (List.le_antisymm h3 (List.not_lt.1 h)) h4
    rw [List.drop_eq_getElem_cons hlt] at hy p2
    rcases List.mem_cons.1 hy with rfl | hy
    · exact h5
    · exact List.lt_trans h5 ((List.pairwise_cons.1 p2).1 y hy)
  rw [List.pairwise_append, List.pairwise_cons]
  refine ⟨p1, ⟨hd, p2⟩, fun a ha b hb => ?_⟩
  rcases List.mem_cons.1 hb with rfl | hb
  · exact h1 a ha
  · exact p3 a ha b hb
/-PURE-END-/
end Go.Proofs.Ytgdjoochbgeokaa.Hand
namespace Go.Proofs.Ytgdjoochbgeokaa.Hand
open Go.RowKit Go.Maps Go.Proofs.YtgdjoochbgeokaaW.PrintWords Go.Proofs.YtgdjoochbgeokaaW.PrintLast Go.Proofs.YtgdjoochbgeokaaW.PrintMore Go.Proofs.Ytgdjoochbgeokaa.Q
set_option linter.unusedVariables false
set_option linter.unusedSimpArgs false
abbrev DocW := S73
def toW (x : DocW) : Win := (x.f0, x.f1, x.f2)
abbrev docN (l : List DocW) (i : Int) : DocW := rd_T73 l i
theorem docN_get {l : List DocW} {i : Nat} (h : i < l.length) : docN l (i : Int) = l[i] := by
  show l.getD (i : Int).toNat _ = _
  rw [Int.toNat_natCast, List.getD_eq_getElem?_getD, List.getElem?_eq_getElem h]
  rfl
theorem wrapU {x : Int} (h0 : 0 ≤ x) (h1 : x ≤ 18446744073709551615) : IntKind.u64.wrap x = x := IntWalk.u64_in x ⟨h0, h1⟩
theorem len0 (l : List Win) : (l.length : Int) = 0 ↔ l = [] := by
  cases l with
  | nil => simp
  | cons a l => simp; omega
theorem bytes_eq {a b : ByteArray} : a.toList = b.toList ↔ a = b := ⟨fun h => by
  have h2 : (a.toList == b.toList) = true := by rw [h]; simp
  rw [← beq_toListBytes] at h2
  exact (MapKept.bytes_beq _ _).1 h2, fun h => by rw [h]⟩
/-- Bounds of a document's list at a time. -/
structure DocB (sp t : Int) (l : List DocW) : Prop where
  sp0 : 0 < sp
  sp1 : sp ≤ 18446744073709551615
  t1 : t ≤ 18446744073709551615
  beg : ∀ x, x ∈ l → 0 ≤ x.f1 ∧ x.f1 ≤ t
  len : (l.length : Int) ≤ 4398046511104
  cnt : ∀ x, x ∈ l → 0 ≤ x.f2
theorem DocB.at_ {sp t : Int} {l : List DocW} (h : DocB sp t l) {i : Nat} (hi : i < l.length) : 0 ≤ (docN l i).f1 ∧ (docN l i).f1 ≤ t := by
  rw [docN_get hi]
  exact h.beg _ (List.getElem_mem hi)
theorem open_from {sp t : Int} {l : List DocW} (h : DocB sp t l) (tr mo ck : Int) (s : ByteArray) (d : Nat) : ∀ i : Nat, i + d = l.length → (∀ x, x ∈ l.take i → opn sp t (toW x) = true → x.f0 ≠ s) →
    ∃ r : Int, Ev (fun k => wicketref08_open.l0 k s t (i : Int) tr sp mo ck l) r ∧ ((r = -1 ∧ ∀ x, x ∈ l → opn sp t (toW x) = true → x.f0 ≠ s) ∨ ∃ j : Nat, r = j ∧ j < l.length ∧ opn sp t (toW (docN l j)) = true ∧ (docN l j).f0 = s) := by
  induction d with
  | zero =>
    intro i hi hno
    refine ⟨-1, ?_, .inl ⟨rfl, ?_⟩⟩
    · refine Ev.step (f := fun _ => some (-1)) (fun k => ?_) (Ev.now _)
      rw [wicketref08_open.l0, if_neg (by omega)]
    · rw [List.take_of_length_le (by omega)] at hno
      exact hno
  | succ d ih =>
    intro i hi hno
    have hlt : i < l.length := by omega
    obtain ⟨hb0, hb1⟩ := h.at_ hlt
    have hw : IntKind.u64.wrap (t - (docN l i).f1) = t - (docN l i).f1 := wrapU (by omega) (by have := h.t1; omega)
    have hop : opn sp t (toW (docN l i)) = (decide (0 < (docN l i).f2) && decide (t - (docN l i).f1 < sp)) := rfl
    have hn : wrap64 ((i : Int) + 1) = ((i + 1 : Nat) : Int) := by rw [w64L (by omega) (by have := h.len; omega)]; omega
    have next : (opn sp t (toW (docN l i)) = true → (docN l i).f0 ≠ s) → ∃ r : Int, Ev (fun k => wicketref08_open.l0 k s t (wrap64 ((i : Int) + 1)) tr sp mo ck l) r ∧ ((r = -1 ∧ ∀ x, x ∈ l → opn sp t (toW x) = true → x.f0 ≠ s) ∨ ∃ j : Nat, r = j ∧ j < l.length ∧ opn sp t (toW (docN l j)) = true ∧ (docN l j).f0 = s) := fun hq => by
      rw [hn]
      refine ih (i + 1) (by omega) (fun x hx => ?_)
      rw [List.take_succ_eq_append_getElem hlt, List.mem_append] at hx
      rcases hx with hx | hx
      · exact hno x hx
      · rw [List.mem_singleton, ← docN_get hlt] at hx
        rw [hx]; exact hq
    by_cases e1 : (docN l i).f0.toList = s.toList
    · by_cases e2 : (docN l i).f2 > 0
      · by_cases e3 : t - (docN l i).f1 < sp
        · refine ⟨i, ?_, .inr ⟨i, rfl, hlt, ?_, bytes_eq.1 e1⟩⟩
          · refine Ev.step (f := fun _ => some (i : Int)) (fun k => ?_) (Ev.now _)
            rw [wicketref08_open.l0, if_pos (by omega), if_pos (by omega), if_pos e1, if_pos e2, if_pos (by rw [hw]; exact e3)]
          · rw [hop]; simp; omega
        · obtain ⟨r, h1, h2⟩ := next (fun hh => by rw [hop] at hh; simp at hh; omega)
          refine ⟨r, Ev.step (fun k => ?_) h1, h2⟩
          rw [wicketref08_open.l0, if_pos (by omega), if_pos (by omega), if_pos e1, if_pos e2, if_neg (by rw [hw]; exact e3)]
      · obtain ⟨r, h1, h2⟩ := next (fun hh => by rw [hop] at hh; simp at hh; omega)
        refine ⟨r, Ev.step (fun k => ?_) h1, h2⟩
        rw [wicketref08_open.l0, if_pos (by omega), if_pos (by omega), if_pos e1, if_neg e2]
    · obtain ⟨r, h1, h2⟩ := next (fun _ e => e1 (by rw [e]))
      refine ⟨r, Ev.step (fun k => ?_) h1, h2⟩
      rw [wicketref08_open.l0, if_pos (by omega), if_pos (by omega), if_neg e1]
theorem open_ev {sp t : Int} {l : List DocW} (h : DocB sp t l) (tr mo ck : Int) (s : ByteArray) :
    ∃ r : Int, Ev (fun k => wicketref08_open.f k tr sp mo ck l s t) r ∧ ((r = -1 ∧ ∀ x, x ∈ l → opn sp t (toW x) = true → x.f0 ≠ s) ∨ ∃ j : Nat, r = j ∧ j < l.length ∧ opn sp t (toW (docN l j)) = true ∧ (docN l j).f0 = s) :=
  open_from h tr mo ck s l.length 0 (by omega) (fun x hx => by simp at hx)
/-- The open windows. -/
def opens (sp t : Int) (l : List DocW) : List Win := (l.map toW).filter (opn sp t)
theorem opens_snoc {sp t : Int} {l : List DocW} {i : Nat} (hlt : i < l.length) : opens sp t (l.take (i + 1)) = if opn sp t (toW (docN l i)) = true then opens sp t (l.take i) ++ [toW (docN l i)] else opens sp t (l.take i) := by
  unfold opens
  rw [List.take_succ_eq_append_getElem hlt, List.map_append, List.filter_append, docN_get hlt]
  by_cases h : opn sp t (toW l[i]) = true
  · rw [if_pos h]
    simp only [List.map_cons, List.map_nil]
    rw [List.filter_cons_of_pos h]
    rfl
  · rw [if_neg h]
    simp only [List.map_cons, List.map_nil]
    rw [List.filter_cons_of_neg h]
    simp
theorem known_from {sp t : Int} {l : List DocW} (h : DocB sp t l) (tr mo ck : Int) (d : Nat) : ∀ i : Nat, i + d = l.length →
    Ev (fun k => wicketref08_known.l0 k t ((opens sp t (l.take i)).length : Int) (leastW sp t (opens sp t (l.take i))) (i : Int) tr sp mo ck l) (((opens sp t l).length : Int), leastW sp t (opens sp t l)) := by
  induction d with
  | zero =>
    intro i hi
    rw [List.take_of_length_le (by omega)]
    refine Ev.step (f := fun _ => some (((opens sp t l).length : Int), leastW sp t (opens sp t l))) (fun k => ?_) (Ev.now _)
    rw [wicketref08_known.l0, if_neg (by omega)]
  | succ d ih =>
    intro i hi
    have hlt : i < l.length := by omega
    obtain ⟨hb0, hb1⟩ := h.at_ hlt
    have hw : IntKind.u64.wrap (t - (docN l i).f1) = t - (docN l i).f1 := wrapU (by omega) (by have := h.t1; omega)
    have hop : opn sp t (toW (docN l i)) = (decide (0 < (docN l i).f2) && decide (t - (docN l i).f1 < sp)) := rfl
    have hn : wrap64 ((i : Int) + 1) = ((i + 1 : Nat) : Int) := by rw [w64L (by omega) (by have := h.len; omega)]; omega
    have hol : (opens sp t (l.take i)).length ≤ i := by
      unfold opens
      refine Nat.le_trans (List.length_filter_le _ _) ?_
      rw [List.length_map, List.length_take]
      omega
    have hi2 := ih (i + 1) (by omega)
    rw [opens_snoc hlt] at hi2
    have skip : opn sp t (toW (docN l i)) = false → Ev (fun k => wicketref08_known.j1 k t ((opens sp t (l.take i)).length : Int) (leastW sp t (opens sp t (l.take i))) (i : Int) false tr sp mo ck l ((docN l i).f0) ((docN l i).f1) ((docN l i).f2)) (((opens sp t l).length : Int), leastW sp t (opens sp t l)) := fun hf => by
      rw [if_neg (by rw [hf]; decide)] at hi2
      refine Ev.step (fun k => ?_) hi2
      rw [wicketref08_known.j1, if_neg (by decide), hn]
    by_cases e2 : (docN l i).f2 > 0
    · by_cases e3 : t - (docN l i).f1 < sp
      · have ho : opn sp t (toW (docN l i)) = true := by rw [hop]; simp; omega
        rw [if_pos ho, leastW_next (by show sp - (t - (docN l i).f1) ≤ sp; omega), List.length_append, List.length_singleton] at hi2
        have hw2 : IntKind.u64.wrap (sp - IntKind.u64.wrap (t - (docN l i).f1)) = sp - (t - (docN l i).f1) := by rw [hw]; exact wrapU (by omega) (by have := h.sp1; omega)
        have hn2 : wrap64 (((opens sp t (l.take i)).length : Int) + 1) = ((((opens sp t (l.take i)).length + 1 : Nat)) : Int) := by rw [w64L (by omega) (by have := h.len; omega)]; omega
        have hnil : ((opens sp t (l.take i)).length : Int) = 0 ↔ opens sp t (l.take i) = [] := len0 _
        refine Ev.step (f := fun k => wicketref08_known.j1 k t ((opens sp t (l.take i)).length : Int) (leastW sp t (opens sp t (l.take i))) (i : Int) true tr sp mo ck l ((docN l i).f0) ((docN l i).f1) ((docN l i).f2)) (fun k => ?_) ?_
        · rw [wicketref08_known.l0, if_pos (by omega), if_pos (by omega), if_pos e2, hw, decide_eq_true e3]
        · by_cases e4 : opens sp t (l.take i) = []
          · rw [if_pos (.inl e4)] at hi2
            refine Ev.step (fun k => ?_) hi2
            rw [wicketref08_known.j1, if_pos rfl, if_pos (hnil.2 e4), hn, hn2, hw2]
            rfl
          · by_cases e5 : sp - (t - (docN l i).f1) < leastW sp t (opens sp t (l.take i))
            · rw [if_pos (.inr e5)] at hi2
              refine Ev.step (fun k => ?_) hi2
              rw [wicketref08_known.j1, if_pos rfl, if_neg (fun hh => e4 (hnil.1 hh)), if_pos (by rw [hw2]; exact e5), hn, hn2, hw2]
              rfl
            · rw [if_neg (fun hh => hh.elim e4 e5)] at hi2
              refine Ev.step (fun k => ?_) hi2
              rw [wicketref08_known.j1, if_pos rfl, if_neg (fun hh => e4 (hnil.1 hh)), if_neg (by rw [hw2]; exact e5), hn, hn2]
      · refine Ev.step (fun k => ?_) (skip (by rw [hop]; simp; omega))
        rw [wicketref08_known.l0, if_pos (by omega), if_pos (by omega), if_pos e2, hw, decide_eq_false e3]
    · refine Ev.step (fun k => ?_) (skip (by rw [hop]; simp; omega))
      rw [wicketref08_known.l0, if_pos (by omega), if_pos (by omega), if_neg e2]
theorem known_ev {sp t : Int} {l : List DocW} (h : DocB sp t l) (tr mo ck : Int) : Ev (fun k => wicketref08_known.f k tr sp mo ck l t) (((opens sp t l).length : Int), leastW sp t (opens sp t l)) :=
  known_from h tr mo ck l.length 0 (by omega)
end Go.Proofs.Ytgdjoochbgeokaa.Hand
namespace Go.Proofs.Ytgdjoochbgeokaa.Hand
open Go.RowKit Go.Maps Go.Proofs.YtgdjoochbgeokaaW.PrintWords Go.Proofs.YtgdjoochbgeokaaW.PrintLast Go.Proofs.YtgdjoochbgeokaaW.PrintMore Go.Proofs.Ytgdjoochbgeokaa.Q
set_option linter.unusedVariables false
set_option linter.unusedSimpArgs false
/-- A subject's window, among open ones. -/
def look (E : List Win) (s : ByteArray) : Option Win := E.find? fun x => decide (x.1 = s)
theorem look_some {E : List Win} {s : ByteArray} {x : Win} (h : look E s = some x) : x ∈ E ∧ x.1 = s := ⟨List.mem_of_find?_eq_some h, by simpa using List.find?_some h⟩
theorem look_none {E : List Win} {s : ByteArray} : look E s = none ↔ ∀ x, x ∈ E → x.1 ≠ s := by
  unfold look
  rw [List.find?_eq_none]
  simp
theorem look_in {E : List Win} {s : ByteArray} {x : Win} (hN : (E.map (·.1)).Nodup) (hx : x ∈ E) (e : x.1 = s) : look E s = some x := by
  cases h : look E s with
  | none => exact absurd e (look_none.1 h x hx)
  | some y =>
    obtain ⟨h1, h2⟩ := look_some h
    rw [win_eq hN h1 hx (h2.trans e.symm)]
theorem look_perm {E E' : List Win} {s : ByteArray} (hp : E.Perm E') (hN : (E.map (·.1)).Nodup) : look E s = look E' s := by
  cases h : look E' s with
  | none => rw [look_none] at h ⊢; exact fun x hx => h x (hp.mem_iff.1 hx)
  | some x =>
    obtain ⟨h1, h2⟩ := look_some h
    exact look_in hN (hp.mem_iff.2 h1) h2
def whyI (tr mo : Int) (s : ByteArray) (E : List Win) : Int :=
  if (s.size : Int) > 256 then 1 else match look E s with
    | some x => if x.2.2 ≥ tr then 80 else 0
    | none => if (E.length : Int) ≥ mo then 5 else 0
def leftI (tr mo : Int) (s : ByteArray) (E : List Win) : Int := if whyI tr mo s E = 0 then (match look E s with | some x => tr - x.2.2 | none => tr) else 0
def waitI (tr mo sp t : Int) (s : ByteArray) (E : List Win) : Int :=
  if whyI tr mo s E = 80 then (match look E s with | some x => sp - (t - x.2.1) | none => 0) else if whyI tr mo s E = 5 then leastW sp t E else 0
theorem whyI_perm {tr mo : Int} {s : ByteArray} {E E' : List Win} (hp : E.Perm E') (hN : (E.map (·.1)).Nodup) : whyI tr mo s E = whyI tr mo s E' := by
  unfold whyI
  rw [look_perm hp hN, hp.length_eq]
theorem leftI_perm {tr mo : Int} {s : ByteArray} {E E' : List Win} (hp : E.Perm E') (hN : (E.map (·.1)).Nodup) : leftI tr mo s E = leftI tr mo s E' := by
  unfold leftI
  rw [look_perm hp hN, whyI_perm hp hN]
theorem leastW_perm {sp t : Int} {E E' : List Win} (hp : E.Perm E') : leastW sp t E = leastW sp t E' := by
  unfold leastW
  rw [lw_perm hp]
  have : E = [] ↔ E' = [] := ⟨fun h => by rw [h] at hp; exact hp.symm.eq_nil, fun h => by rw [h] at hp; exact hp.eq_nil⟩
  simp only [this]
theorem waitI_perm {tr mo sp t : Int} {s : ByteArray} {E E' : List Win} (hp : E.Perm E') (hN : (E.map (·.1)).Nodup) : waitI tr mo sp t s E = waitI tr mo sp t s E' := by
  unfold waitI
  rw [look_perm hp hN, whyI_perm hp hN, leastW_perm hp]
theorem opens_mem {sp t : Int} {l : List DocW} {j : Nat} (hj : j < l.length) (ho : opn sp t (toW (docN l j)) = true) : toW (docN l j) ∈ opens sp t l := by
  unfold opens
  rw [List.mem_filter]
  exact ⟨List.mem_map.2 ⟨_, by rw [docN_get hj]; exact List.getElem_mem hj, rfl⟩, ho⟩
/-- What open tells. -/
theorem open_look {sp t : Int} {l : List DocW} (h : DocB sp t l) (hN : ((opens sp t l).map (·.1)).Nodup) (tr mo ck : Int) (s : ByteArray) :
    ∃ r : Int, Ev (fun k => wicketref08_open.f k tr sp mo ck l s t) r ∧ ((r = -1 ∧ look (opens sp t l) s = none) ∨ ∃ j : Nat, r = j ∧ j < l.length ∧ opn sp t (toW (docN l j)) = true ∧ (docN l j).f0 = s ∧ look (opens sp t l) s = some (toW (docN l j))) := by
  obtain ⟨r, h1, h2⟩ := open_ev h tr mo ck s
  refine ⟨r, h1, ?_⟩
  rcases h2 with ⟨h2, h3⟩ | ⟨j, h2, h3, h4, h5⟩
  · refine .inl ⟨h2, look_none.2 (fun x hx => ?_)⟩
    obtain ⟨h4, h5⟩ := List.mem_filter.1 hx
    obtain ⟨y, hy, rfl⟩ := List.mem_map.1 h4
    exact h3 y hy h5
  · exact .inr ⟨j, h2, h3, h4, h5, look_in hN (opens_mem h3 h4) h5⟩
theorem at_f (tr sp mo ck : Int) (l : List DocW) (now : Int) : wicketref08_at.f tr sp mo ck l now = some (max now ck) := by
  unfold wicketref08_at.f
  by_cases h : now > ck
  · rw [if_pos h, Int.max_eq_left (by omega)]
  · rw [if_neg h, Int.max_eq_right (by omega)]
theorem why_ev {sp ck now : Int} {l : List DocW} (h : DocB sp (max now ck) l) (hN : ((opens sp (max now ck) l).map (·.1)).Nodup) (tr mo : Int) (s : ByteArray) :
    Ev (fun k => wicketref08_Why.f k tr sp mo ck l s now) (whyI tr mo s (opens sp (max now ck) l)) := by
  obtain ⟨t, ht⟩ : ∃ t, t = max now ck := ⟨_, rfl⟩
  rw [← ht] at h hN ⊢
  unfold wicketref08_Why.f whyI
  by_cases hs : (s.size : Int) > 256
  · simp only [if_pos hs]
    exact Ev.now _
  · simp only [if_neg hs, at_f, Option.bind_some, ← ht]
    obtain ⟨r, h1, h2⟩ := open_look h hN tr mo ck s
    refine Ev.bind h1 ?_
    have hk := known_ev h tr mo ck
    rcases h2 with ⟨rfl, h2⟩ | ⟨j, rfl, h3, h4, h5, h2⟩
    · have c0 : ¬ ((-1 : Int) ≥ 0) := by decide
      rw [h2]
      simp only [if_neg c0]
      refine Ev.step (f := fun k => (wicketref08_known.f k tr sp mo ck l t).bind fun bt112 => (if bt112.1 ≥ mo then (some 5) else (some 0))) (fun k => ?_) ?_
      · rw [wicketref08_Why.j0, if_neg (by decide)]
        rfl
      · refine Ev.bind hk ?_
        by_cases hm : ((opens sp t l).length : Int) ≥ mo
        · simp only [if_pos hm]; exact Ev.now _
        · simp only [if_neg hm]; exact Ev.now _
    · have c0 : ((j : Nat) : Int) ≥ 0 := by omega
      have c1 : 0 ≤ ((j : Nat) : Int) := by omega
      have c2 : ((j : Nat) : Int) < (l.length : Int) := by omega
      rw [h2]
      simp only [if_pos c0, if_pos c1, if_pos c2]
      show Ev _ (if (docN l j).f2 ≥ tr then 80 else 0)
      by_cases hm : (docN l j).f2 ≥ tr
      · rw [if_pos hm]
        refine Ev.step (f := fun _ => some 80) (fun k => ?_) (Ev.now _)
        rw [wicketref08_Why.j0, if_pos (decide_eq_true hm)]
      · rw [if_neg hm]
        refine Ev.step (f := fun k => (wicketref08_known.f k tr sp mo ck l t).bind fun bt112 => some 0) (fun k => ?_) ?_
        · rw [wicketref08_Why.j0, decide_eq_false hm, if_neg (by decide)]
          simp only [if_neg (show ¬ ((j : Nat) : Int) < 0 by omega)]
        · exact Ev.bind hk (Ev.now _)
theorem left_ev {sp ck now : Int} {l : List DocW} (h : DocB sp (max now ck) l) (hN : ((opens sp (max now ck) l).map (·.1)).Nodup) (tr mo : Int) (s : ByteArray) (htr : 1 ≤ tr ∧ tr ≤ 1000000) (hU : ∀ x, x ∈ opens sp (max now ck) l → 0 < x.2.2 ∧ x.2.2 ≤ tr) :
    Ev (fun k => wicketref08_Left.f k tr sp mo ck l s now) (leftI tr mo s (opens sp (max now ck) l)) := by
  unfold wicketref08_Left.f
  refine Ev.bind (why_ev h hN tr mo s) ?_
  unfold leftI
  by_cases hw : whyI tr mo s (opens sp (max now ck) l) = 0
  · simp only [if_pos hw, at_f, Option.bind_some]
    obtain ⟨r, h1, h2⟩ := open_look h hN tr mo ck s
    refine Ev.bind h1 ?_
    rcases h2 with ⟨rfl, h2⟩ | ⟨j, rfl, h3, h4, h5, h2⟩
    · rw [h2]
      simp only [if_pos (show (-1 : Int) < 0 by decide)]
      exact Ev.now _
    · have c0 : ¬ ((j : Nat) : Int) < 0 := by omega
      have c1 : 0 ≤ ((j : Nat) : Int) := by omega
      have c2 : ((j : Nat) : Int) < (l.length : Int) := by omega
      rw [h2]
      simp only [if_neg c0, if_pos c1, if_pos c2]
      have hu := hU _ (opens_mem h3 h4)
      have hu2 : 0 < (docN l j).f2 ∧ (docN l j).f2 ≤ tr := hu
      have hw6 : wrap64 (tr - (docN l j).f2) = tr - (docN l j).f2 := w64L (by omega) (by omega)
      rw [show wrap64 (tr - (rd_T73 l (j : Int)).f2) = tr - (docN l j).f2 from hw6]
      exact Ev.now _
  · simp only [if_neg hw]
    exact Ev.now _
theorem wait_ev {sp ck now : Int} {l : List DocW} (h : DocB sp (max now ck) l) (hN : ((opens sp (max now ck) l).map (·.1)).Nodup) (tr mo : Int) (s : ByteArray) :
    Ev (fun k => wicketref08_Wait.f k tr sp mo ck l s now) (waitI tr mo sp (max now ck) s (opens sp (max now ck) l)) := by
  unfold wicketref08_Wait.f
  simp only [at_f, Option.bind_some]
  refine Ev.bind (why_ev h hN tr mo s) ?_
  unfold waitI
  obtain ⟨t, ht⟩ : ∃ t, t = max now ck := ⟨_, rfl⟩
  rw [← ht] at h hN ⊢
  by_cases hw : whyI tr mo s (opens sp t l) = 80
  · simp only [if_pos hw]
    obtain ⟨r, h1, h2⟩ := open_look h hN tr mo ck s
    refine Ev.bind h1 ?_
    rcases h2 with ⟨rfl, h2⟩ | ⟨j, rfl, h3, h4, h5, h2⟩
    · exfalso
      unfold whyI at hw
      rw [h2] at hw
      simp only at hw
      split at hw
      · cases hw
      · split at hw <;> cases hw
    · have c1 : 0 ≤ ((j : Nat) : Int) := by omega
      have c2 : ((j : Nat) : Int) < (l.length : Int) := by omega
      rw [h2]
      simp only [if_pos c1, if_pos c2]
      obtain ⟨hb0, hb1⟩ := h.at_ h3
      have hlt : t - (docN l j).f1 < sp := by
        have : opn sp t (toW (docN l j)) = (decide (0 < (docN l j).f2) && decide (t - (docN l j).f1 < sp)) := rfl
        rw [this] at h4
        simp at h4
        exact h4.2
      have hw6 : IntKind.u64.wrap (t - (docN l j).f1) = t - (docN l j).f1 := wrapU (by omega) (by have := h.t1; omega)
      have hw7 : IntKind.u64.wrap (sp - (t - (docN l j).f1)) = sp - (t - (docN l j).f1) := wrapU (by omega) (by have := h.sp1; omega)
      rw [show IntKind.u64.wrap (t - (rd_T73 l (j : Int)).f1) = t - (docN l j).f1 from hw6, hw7]
      exact Ev.now _
  · simp only [if_neg hw]
    by_cases hw5 : whyI tr mo s (opens sp t l) = 5
    · simp only [if_pos hw5]
      exact Ev.bind (known_ev h tr mo ck) (Ev.now _)
    · simp only [if_neg hw5]
      exact Ev.now _
end Go.Proofs.Ytgdjoochbgeokaa.Hand
namespace Go.Proofs.Ytgdjoochbgeokaa.Hand
open Go.RowKit Go.Maps Go.Proofs.YtgdjoochbgeokaaW.PrintWords Go.Proofs.YtgdjoochbgeokaaW.PrintLast Go.Proofs.YtgdjoochbgeokaaW.PrintMore Go.Proofs.Ytgdjoochbgeokaa.Q
set_option linter.unusedVariables false
set_option linter.unusedSimpArgs false
def nm (b : ByteArray) : List UInt8 := b.toList
theorem nm_inj {a b : ByteArray} (h : nm a = nm b) : a = b := bytes_eq.1 h
theorem rdS {S : List ByteArray} {j : Nat} (h : j < S.length) : rdOf ByteArray.empty S (j : Int) = S[j] := by
  unfold rdOf
  rw [Int.toNat_natCast, List.getD_eq_getElem?_getD, List.getElem?_eq_getElem h]
  rfl
theorem ins_from {sp ck tr mo : Int} {l : List DocW} (S : List ByteArray) (x : ByteArray) (f1 f2 : Int) (i : Int) (hS : (S.length : Int) ≤ 4398046511104) (d : Nat) : ∀ j : Nat, j + d = S.length → (∀ y, y ∈ S.take j → nm y < nm x) →
    ∃ j' : Nat, j' ≤ S.length ∧ (∀ y, y ∈ S.take j' → nm y < nm x) ∧ (∀ h : j' < S.length, ¬ nm S[j'] < nm x) ∧ ∀ R, Ev (fun k => wicketref08_Subjects.l0 k (S.take j' ++ [x] ++ S.drop j') (wrap64 (i + 1)) tr sp mo ck l) R → Ev (fun k => wicketref08_Subjects.l1 k S i (j : Int) tr sp mo ck l x f1 f2) R := by
  have put : ∀ j : Nat, j ≤ S.length → (j < S.length → ¬ Op.bytesLess (rdOf ByteArray.empty S (j : Int)).toList x.toList = true) → ∀ k, wicketref08_Subjects.l1 (k + 1) S i (j : Int) tr sp mo ck l x f1 f2 = wicketref08_Subjects.l0 k (S.take j ++ [x] ++ S.drop j) (wrap64 (i + 1)) tr sp mo ck l := fun j hj hq k => by
    have c1 : ([] : List ByteArray).length + (S.take j).length < 8796093022208 := by rw [List.length_take, List.length_nil]; omega
    have c2 : (S.take j).length < 8796093022208 := by rw [List.length_take]; omega
    have c3 : (S.take j ++ [x]).length + (S.drop j).length < 8796093022208 := by rw [List.length_append, List.length_take, List.length_drop, List.length_singleton]; omega
    have c4 : (j : Int) ≤ (S.length : Int) := by omega
    have c5 : 0 ≤ (j : Int) := by omega
    by_cases hlt : j < S.length
    · have c6 : (j : Int) < (S.length : Int) := by omega
      rw [wicketref08_Subjects.l1, if_pos c6, if_pos c5, if_neg (hq hlt)]
      simp only [Option.bind_some, Int.toNat_natCast, List.nil_append, if_pos c4, if_pos c1, if_pos c2, if_pos c3]
    · have c6 : ¬ (j : Int) < (S.length : Int) := by omega
      rw [wicketref08_Subjects.l1, if_neg c6]
      simp only [Option.bind_some, Int.toNat_natCast, List.nil_append, if_pos c5, if_pos c4, if_pos c1, if_pos c2, if_pos c3]
  induction d with
  | zero =>
    intro j hj hlt
    refine ⟨j, by omega, hlt, fun h => absurd h (by omega), fun R hR => ?_⟩
    exact Ev.step (put j (by omega) (fun h => absurd h (by omega))) hR
  | succ d ih =>
    intro j hj hlt
    have hj2 : j < S.length := by omega
    by_cases hb : Op.bytesLess (rdOf ByteArray.empty S (j : Int)).toList x.toList = true
    · have hn : wrap64 ((j : Int) + 1) = ((j + 1 : Nat) : Int) := by rw [w64L (by omega) (by omega)]; omega
      have hb2 := hb
      rw [rdS hj2, Go.Proofs.bytesLess_eq, decide_eq_true_eq] at hb2
      obtain ⟨j', h1, h2, h3, h4⟩ := ih (j + 1) (by omega) (fun y hy => by
        rw [List.take_succ_eq_append_getElem hj2, List.mem_append, List.mem_singleton] at hy
        rcases hy with hy | hy
        · exact hlt y hy
        · rw [hy]; exact hb2)
      refine ⟨j', h1, h2, h3, fun R hR => Ev.step (fun k => ?_) (h4 R hR)⟩
      rw [wicketref08_Subjects.l1, if_pos (by omega), if_pos (by omega), if_pos hb, hn]
    · refine ⟨j, by omega, hlt, fun h => ?_, fun R hR => Ev.step (put j (by omega) (fun _ => hb)) hR⟩
      rw [rdS hj2, Go.Proofs.bytesLess_eq, decide_eq_true_eq] at hb
      exact hb
theorem subj_from {sp ck : Int} {l : List DocW} (h : DocB sp ck l) (hN : ((opens sp ck l).map (·.1)).Nodup) (tr mo : Int) (d : Nat) : ∀ (i : Nat) (S : List ByteArray), i + d = l.length → S.Perm ((opens sp ck (l.take i)).map (·.1)) → (S.map nm).Pairwise (· < ·) →
    ∃ R, Ev (fun k => wicketref08_Subjects.l0 k S (i : Int) tr sp mo ck l) R ∧ R.Perm ((opens sp ck l).map (·.1)) ∧ (R.map nm).Pairwise (· < ·) := by
  induction d with
  | zero =>
    intro i S hi hp hs
    rw [List.take_of_length_le (by omega)] at hp
    refine ⟨S, ?_, hp, hs⟩
    refine Ev.step (f := fun _ => some S) (fun k => ?_) (Ev.now _)
    rw [wicketref08_Subjects.l0, if_neg (by omega)]
  | succ d ih =>
    intro i S hi hp hs
    have hlt : i < l.length := by omega
    obtain ⟨hb0, hb1⟩ := h.at_ hlt
    have hw : IntKind.u64.wrap (ck - (docN l i).f1) = ck - (docN l i).f1 := wrapU (by omega) (by have := h.t1; omega)
    have hop : opn sp ck (toW (docN l i)) = (decide (0 < (docN l i).f2) && decide (ck - (docN l i).f1 < sp)) := rfl
    have hn : wrap64 ((i : Int) + 1) = ((i + 1 : Nat) : Int) := by rw [w64L (by omega) (by have := h.len; omega)]; omega
    have hc0 : 0 ≤ (docN l i).f2 := by rw [docN_get hlt]; exact h.cnt _ (List.getElem_mem hlt)
    have hSl : S.length ≤ i := by
      rw [hp.length_eq, List.length_map]
      unfold opens
      refine Nat.le_trans (List.length_filter_le _ _) ?_
      rw [List.length_map, List.length_take]
      omega
    have skip : opn sp ck (toW (docN l i)) = false → ∃ R, Ev (fun k => wicketref08_Subjects.j1 k S (i : Int) true tr sp mo ck l (docN l i).f0 (docN l i).f1 (docN l i).f2) R ∧ R.Perm ((opens sp ck l).map (·.1)) ∧ (R.map nm).Pairwise (· < ·) := fun hf => by
      obtain ⟨R, h1, h2⟩ := ih (i + 1) S (by omega) (by rw [opens_snoc hlt, if_neg (by rw [hf]; decide)]; exact hp) hs
      refine ⟨R, Ev.step (fun k => ?_) h1, h2⟩
      rw [wicketref08_Subjects.j1, if_pos rfl, hn]
    by_cases e2 : (docN l i).f2 = 0
    · obtain ⟨R, h1, h2⟩ := skip (by rw [hop]; simp; omega)
      refine ⟨R, Ev.step (fun k => ?_) h1, h2⟩
      rw [wicketref08_Subjects.l0, if_pos (by omega), if_pos (by omega), if_pos e2]
    · by_cases e3 : ck - (docN l i).f1 ≥ sp
      · obtain ⟨R, h1, h2⟩ := skip (by rw [hop]; simp; omega)
        refine ⟨R, Ev.step (fun k => ?_) h1, h2⟩
        rw [wicketref08_Subjects.l0, if_pos (by omega), if_pos (by omega), if_neg e2, hw, decide_eq_true e3]
      · have ho : opn sp ck (toW (docN l i)) = true := by rw [hop]; simp; omega
        have hos := opens_snoc (sp := sp) (t := ck) hlt
        rw [if_pos ho] at hos
        obtain ⟨j', h1, h2, h3, h4⟩ := ins_from (sp := sp) (ck := ck) (tr := tr) (mo := mo) (l := l) S (docN l i).f0 (docN l i).f1 (docN l i).f2 (i : Int) (by have := h.len; omega) S.length 0 (by omega) (fun y hy => by simp at hy)
        have hx : (docN l i).f0 ∉ S := fun hm => by
          have h5 : ((opens sp ck (l.take (i + 1))).map (·.1)).Nodup := by
            refine hN.sublist (List.Sublist.map _ ?_)
            unfold opens
            exact List.Sublist.filter _ (List.Sublist.map _ (List.take_sublist _ _))
          rw [hos, List.map_append, List.nodup_append] at h5
          exact h5.2.2 _ (hp.mem_iff.1 hm) (docN l i).f0 (by simp [toW]) rfl
        have hsort : ((S.take j' ++ [(docN l i).f0] ++ S.drop j').map nm).Pairwise (· < ·) := by
          have h6 := put_place (s := S.map nm) (k := j') (x := nm (docN l i).f0) (by rw [List.length_map]; exact h1) hs (fun y hy => by
            rw [← List.map_take] at hy
            obtain ⟨z, hz, rfl⟩ := List.mem_map.1 hy
            exact h2 z hz) (fun hh => by
            rw [List.getElem_map]
            exact h3 (by simpa using hh)) (fun hm => by
            obtain ⟨z, hz, he⟩ := List.mem_map.1 hm
            exact hx (nm_inj he ▸ hz))
          rw [List.map_append, List.map_append, List.map_take, List.map_drop, List.append_assoc]
          exact h6
        obtain ⟨R, g1, g2⟩ := ih (i + 1) (S.take j' ++ [(docN l i).f0] ++ S.drop j') (by omega) (by
          rw [hos, List.map_append, List.append_assoc]
          refine List.Perm.trans (List.perm_middle (l₁ := S.take j') (a := (docN l i).f0) (l₂ := S.drop j')) ?_
          rw [List.take_append_drop]
          exact (List.Perm.cons _ hp).trans (List.perm_append_comm (l₁ := [(docN l i).f0]))) hsort
        rw [← hn] at g1
        refine ⟨R, Ev.step (fun k => ?_) (Ev.step (f := fun k => wicketref08_Subjects.l1 k S (i : Int) 0 tr sp mo ck l (docN l i).f0 (docN l i).f1 (docN l i).f2) (g := fun k => wicketref08_Subjects.j1 k S (i : Int) false tr sp mo ck l (docN l i).f0 (docN l i).f1 (docN l i).f2) (fun k => ?_) (h4 R g1)), g2⟩
        · rw [wicketref08_Subjects.l0, if_pos (by omega), if_pos (by omega), if_neg e2, hw, decide_eq_false e3]
        · rw [wicketref08_Subjects.j1, if_neg (by decide)]
theorem subj_ev {sp ck : Int} {l : List DocW} (h : DocB sp ck l) (hN : ((opens sp ck l).map (·.1)).Nodup) (tr mo : Int) :
    ∃ R, Ev (fun k => wicketref08_Subjects.f k tr sp mo ck l) R ∧ R.Perm ((opens sp ck l).map (·.1)) ∧ (R.map nm).Pairwise (· < ·) :=
  subj_from h hN tr mo l.length 0 [] (by omega) (by simp [opens]) (by simp)
theorem texts_from (a b : List ByteArray) (hl : a.length = b.length) (hm : (a.length : Int) ≤ 4398046511104) (d : Nat) : ∀ i : Nat, i + d = a.length → a.take i = b.take i → Ev (fun k => wicketlaw08_texts.l0 k a b (i : Int)) (decide (a = b)) := by
  induction d with
  | zero =>
    intro i hi he
    rw [List.take_of_length_le (by omega), List.take_of_length_le (by omega)] at he
    rw [decide_eq_true he]
    refine Ev.step (f := fun _ => some true) (fun k => ?_) (Ev.now _)
    rw [wicketlaw08_texts.l0, if_neg (by omega)]
  | succ d ih =>
    intro i hi he
    have h1 : i < a.length := by omega
    have h2 : i < b.length := by omega
    by_cases e : (rdOf ByteArray.empty a (i : Int)).toList = (rdOf ByteArray.empty b (i : Int)).toList
    · have hn : wrap64 ((i : Int) + 1) = ((i + 1 : Nat) : Int) := by rw [w64L (by omega) (by omega)]; omega
      have e2 := bytes_eq.1 e
      rw [rdS h1, rdS h2] at e2
      refine Ev.step (fun k => ?_) (ih (i + 1) (by omega) (by rw [List.take_succ_eq_append_getElem h1, List.take_succ_eq_append_getElem h2, he, e2]))
      rw [wicketlaw08_texts.l0, if_pos (by omega), if_pos (by omega), if_pos (by omega), if_pos e, hn]
    · have hne : ¬ a = b := fun hh => e (by subst hh; rfl)
      rw [decide_eq_false hne]
      refine Ev.step (f := fun _ => some false) (fun k => ?_) (Ev.now _)
      rw [wicketlaw08_texts.l0, if_pos (by omega), if_pos (by omega), if_pos (by omega), if_neg e]
theorem texts_same (a : List ByteArray) (hm : (a.length : Int) ≤ 4398046511104) : Ev (fun k => wicketlaw08_texts.f k a a) true := by
  unfold wicketlaw08_texts.f
  simp only [if_true]
  have h := texts_from a a rfl hm a.length 0 (by omega) rfl
  rw [decide_eq_true (rfl : a = a)] at h
  exact h
end Go.Proofs.Ytgdjoochbgeokaa.Hand
namespace Go.Proofs.Ytgdjoochbgeokaa.Hand
open Go.RowKit Go.Maps Go.Proofs.YtgdjoochbgeokaaW.PrintWords Go.Proofs.YtgdjoochbgeokaaW.PrintLast Go.Proofs.YtgdjoochbgeokaaW.PrintMore Go.Proofs.Ytgdjoochbgeokaa.Q
set_option linter.unusedVariables false
set_option linter.unusedSimpArgs false
/-- The map holds the windows. -/
def MapW (D : DW) (Es : List Win) : Prop := ∀ k d, view D k = some d ↔ ∃ x, x ∈ Es ∧ k = ks x.1 ∧ d = wv x.2.1 x.2.2
theorem MapW.empty : MapW (.map []) [] := fun k d => by
  rw [view_none rfl]
  simp
theorem MapW.perm {D : DW} {Es Es' : List Win} (h : MapW D Es) (hp : Es.Perm Es') : MapW D Es' := fun k d => by
  rw [h k d]
  exact ⟨fun ⟨x, hx, e⟩ => ⟨x, hp.mem_iff.1 hx, e⟩, fun ⟨x, hx, e⟩ => ⟨x, hp.mem_iff.2 hx, e⟩⟩
theorem MapW.win {D : DW} {Es : List Win} (h : MapW D Es) {k : Lit} {d : DW} (hv : view D k = some d) : ∃ b u, d = wv b u := by
  obtain ⟨x, _, _, e⟩ := (h k d).1 hv
  exact ⟨_, _, e⟩
theorem aliveB_al {sp t : Int} {x : Win} (h0 : 0 ≤ x.2.1) (h1 : x.2.1 ≤ t) (ht : t ≤ 18446744073709551615) : aliveB t x.2.1 sp = al sp t x := by
  unfold aliveB al
  rw [wrapU (by omega) (by omega)]
theorem MapW.purge {D D' : DW} {Es : List Win} {t sp : Int} (h : MapW D Es) (hb : ∀ x, x ∈ Es → 0 ≤ x.2.1 ∧ x.2.1 ≤ t) (ht : t ≤ 18446744073709551615) (hp : Purged D D' t sp) : MapW D' (Es.filter (al sp t)) := fun k d => by
  rw [hp.1 k, Option.filter_eq_some_iff, h k d]
  constructor
  · rintro ⟨⟨x, hx, hk, rfl⟩, ha⟩
    rw [aliveD_wv, aliveB_al (hb x hx).1 (hb x hx).2 ht] at ha
    exact ⟨x, List.mem_filter.2 ⟨hx, ha⟩, hk, rfl⟩
  · rintro ⟨x, hx, hk, rfl⟩
    obtain ⟨hx, ha⟩ := List.mem_filter.1 hx
    exact ⟨⟨x, hx, hk, rfl⟩, by rw [aliveD_wv, aliveB_al (hb x hx).1 (hb x hx).2 ht]; exact ha⟩
theorem MapW.put_new {D : DW} {Es : List Win} {s : ByteArray} (h : MapW D Es) (hD : IsMap D) (hn : ∀ x, x ∈ Es → x.1 ≠ s) (b u : Int) : MapW (D.put (ks s) (wv b u)) (Es ++ [(s, b, u)]) := fun k d => by
  by_cases e : k = ks s
  · subst e
    rw [view_put_same hD (ks_key s)]
    constructor
    · rintro he
      injection he with he
      exact ⟨(s, b, u), by simp, rfl, he.symm⟩
    · rintro ⟨x, hx, hk, rfl⟩
      rcases List.mem_append.1 hx with hx | hx
      · exact absurd (ks_inj hk).symm (hn x hx)
      · rw [List.mem_singleton] at hx
        rw [hx]
  · rw [view_put_other e, h k d]
    constructor
    · rintro ⟨x, hx, h2⟩
      exact ⟨x, List.mem_append_left _ hx, h2⟩
    · rintro ⟨x, hx, hk, rfl⟩
      rcases List.mem_append.1 hx with hx | hx
      · exact ⟨x, hx, hk, rfl⟩
      · rw [List.mem_singleton] at hx
        rw [hx] at hk
        exact absurd hk e
theorem MapW.put_old {D : DW} {Es : List Win} {s : ByteArray} (h : MapW D Es) (hD : IsMap D) (b u : Int) : MapW (D.put (ks s) (wv b u)) ((s, b, u) :: Es.filter fun x => !decide (x.1 = s)) := fun k d => by
  by_cases e : k = ks s
  · subst e
    rw [view_put_same hD (ks_key s)]
    constructor
    · rintro he
      injection he with he
      exact ⟨(s, b, u), by simp, rfl, he.symm⟩
    · rintro ⟨x, hx, hk, rfl⟩
      rcases List.mem_cons.1 hx with hx | hx
      · rw [hx]
      · have h2 := (List.mem_filter.1 hx).2
        have h3 : x.1 = s := (ks_inj hk).symm
        simp [h3] at h2
  · rw [view_put_other e, h k d]
    constructor
    · rintro ⟨x, hx, hk, rfl⟩
      exact ⟨x, List.mem_cons_of_mem _ (List.mem_filter.2 ⟨hx, by have : x.1 ≠ s := fun h2 => e (by rw [hk, h2]); simpa using this⟩), hk, rfl⟩
    · rintro ⟨x, hx, hk, rfl⟩
      rcases List.mem_cons.1 hx with hx | hx
      · rw [hx] at hk
        exact absurd hk e
      · exact ⟨x, (List.mem_filter.1 hx).1, hk, rfl⟩
theorem MapW.del {D : DW} {Es : List Win} {s : ByteArray} (h : MapW D Es) : MapW (D.del (ks s)) (Es.filter fun x => !decide (x.1 = s)) := fun k d => by
  by_cases e : k = ks s
  · subst e
    rw [view_del_same]
    constructor
    · rintro he; cases he
    · rintro ⟨x, hx, hk, rfl⟩
      have h2 := (List.mem_filter.1 hx).2
      have h3 : x.1 = s := (ks_inj hk).symm
      simp [h3] at h2
  · rw [view_del_other e, h k d]
    constructor
    · rintro ⟨x, hx, hk, rfl⟩
      exact ⟨x, List.mem_filter.2 ⟨hx, by have : x.1 ≠ s := fun h2 => e (by rw [hk, h2]); simpa using this⟩, hk, rfl⟩
    · rintro ⟨x, hx, hk, rfl⟩
      exact ⟨x, (List.mem_filter.1 hx).1, hk, rfl⟩
theorem MapW.look_ {D : DW} {Es : List Win} (h : MapW D Es) (hN : (Es.map (·.1)).Nodup) (s : ByteArray) : view D (ks s) = (look Es s).map fun x => wv x.2.1 x.2.2 := by
  cases hl : look Es s with
  | none =>
    cases hv : view D (ks s) with
    | none => rfl
    | some d =>
      obtain ⟨x, hx, hk, _⟩ := (h _ _).1 hv
      exact absurd (ks_inj hk).symm (look_none.1 hl x hx)
  | some x =>
    obtain ⟨h1, h2⟩ := look_some hl
    exact (h _ _).2 ⟨x, h1, by rw [h2], rfl⟩
theorem MapW.size {D : DW} {Es : List Win} (h : MapW D Es) (hT0 : Tidy D) (hC : Maps.Canon D) (hN : (Es.map (·.1)).Nodup) : Maps.size D = Es.length := by
  obtain ⟨es, rfl, _, hk⟩ := hC
  obtain ⟨es', e, hs⟩ := hT0
  injection e with e
  subst e
  have hT : (es.map (·.1)).Nodup := by
    unfold List.Nodup
    rw [List.pairwise_map]
    exact hs
  have hE : (Es.map fun x => ks x.1).Nodup := by
    unfold List.Nodup at hN ⊢
    rw [List.pairwise_map] at hN ⊢
    exact hN.imp (fun hpq e => hpq (ks_inj e))
  have hp : (es.map (·.1)).Perm (Es.map fun x => ks x.1) := by
    rw [List.perm_ext_iff_of_nodup hT hE]
    intro k
    constructor
    · intro hm
      obtain ⟨p, hp, rfl⟩ := List.mem_map.1 hm
      have hh : Maps.has (DataW.map es) p.1 = true := by
        rw [Maps.has_eq, List.any_eq_true]
        exact ⟨p, hp, WideAt.sameKey_self (hk p hp)⟩
      rw [has_view, Option.isSome_iff_exists] at hh
      obtain ⟨d, hd⟩ := hh
      obtain ⟨x, hx, hk2, _⟩ := (h _ _).1 hd
      exact List.mem_map.2 ⟨x, hx, hk2.symm⟩
    · intro hm
      obtain ⟨x, hx, rfl⟩ := List.mem_map.1 hm
      have hh : Maps.has (DataW.map es) (ks x.1) = true := by
        rw [has_view, (h _ _).2 ⟨x, hx, rfl, rfl⟩]
        rfl
      rw [Maps.has_eq, List.any_eq_true] at hh
      obtain ⟨p, hp, he⟩ := hh
      exact List.mem_map.2 ⟨p, hp, WideAt.sameKey_eq he⟩
  have hl := hp.length_eq
  rw [List.length_map, List.length_map] at hl
  exact hl
/-- The windows that have come, and those whose names are left. -/
def CameW (Es : List Win) (left : Lit → Bool) (Xs : List Win) : Prop := (Xs ++ Es.filter fun x => left (ks x.1)).Perm Es
theorem CameW.start {D : DW} {Es : List Win} (h : MapW D Es) : CameW Es (Maps.has D) [] := by
  unfold CameW
  rw [List.nil_append, List.filter_eq_self.2 (fun x hx => ?_)]
  rw [has_view, (h _ _).2 ⟨x, hx, rfl, rfl⟩]
  rfl
theorem filter_name {Es : List Win} (hN : (Es.map (·.1)).Nodup) {x : Win} (hx : x ∈ Es) : (Es.filter fun u => decide (u.1 = x.1)) = [x] := by
  induction Es with
  | nil => cases hx
  | cons u l ih =>
    have hN' := hN
    rw [List.map_cons, List.nodup_cons] at hN
    by_cases e : u.1 = x.1
    · have e2 : u = x := win_eq hN' List.mem_cons_self hx e
      rw [List.filter_cons_of_pos (by simpa using e), List.filter_eq_nil_iff.2 (fun y hy => ?_), e2]
      intro h2
      have h3 : y.1 = x.1 := by simpa using h2
      exact hN.1 (List.mem_map.2 ⟨y, hy, h3.trans e.symm⟩)
    · rw [List.filter_cons_of_neg (by simpa using e)]
      rcases List.mem_cons.1 hx with rfl | hx
      · exact absurd rfl e
      · exact ih hN.2 hx
theorem filter_two {α : Type} (p q : α → Bool) : ∀ l : List α, (∀ x, x ∈ l → p x = true → q x = false) → (l.filter p ++ l.filter q).Perm (l.filter fun x => p x || q x)
  | [], _ => List.Perm.refl _
  | a :: l, h => by
    have ih := filter_two p q l (fun x hx => h x (List.mem_cons_of_mem _ hx))
    cases hp : p a with
    | true =>
      have hq := h a List.mem_cons_self hp
      rw [List.filter_cons_of_pos hp, List.filter_cons_of_neg (by rw [hq]; decide), List.filter_cons_of_pos (by simp [hp])]
      exact List.Perm.cons _ ih
    | false =>
      cases hq : q a with
      | true =>
        rw [List.filter_cons_of_neg (by rw [hp]; decide), List.filter_cons_of_pos hq, List.filter_cons_of_pos (by simp [hq])]
        exact List.perm_middle.trans (List.Perm.cons _ ih)
      | false =>
        rw [List.filter_cons_of_neg (by rw [hp]; decide), List.filter_cons_of_neg (by rw [hq]; decide), List.filter_cons_of_neg (by simp [hp, hq])]
        exact ih
theorem same_ks (a b : ByteArray) : (ks a).sameKey (ks b) = decide (a = b) := by
  rw [Bool.eq_iff_iff, decide_eq_true_eq]
  exact ⟨fun h => ks_inj (WideAt.sameKey_eq h), fun h => by rw [h]; exact WideAt.sameKey_self (ks_key b)⟩
theorem CameW.entry {D : DW} {Es : List Win} {left : Lit → Bool} {Xs : List Win} {s : ByteArray} {b u : Int} (hM : MapW D Es) (hN : (Es.map (·.1)).Nodup) (h : CameW Es left Xs) (hl : left (ks s) = true) (hv : view D (ks s) = some (wv b u)) :
    CameW Es (fun z => left z && !z.sameKey (ks s)) (Xs ++ [(s, b, u)]) ∧ (s, b, u) ∈ Es := by
  obtain ⟨x, hx, hk, hd⟩ := (hM _ _).1 hv
  obtain ⟨e1, e2⟩ := wv_inj hd
  obtain rfl := ks_inj hk
  subst e1 e2
  refine ⟨?_, hx⟩
  unfold CameW at h ⊢
  refine List.Perm.trans ?_ h
  rw [List.append_assoc]
  refine List.Perm.append_left Xs ?_
  have e1 : (Es.filter fun y => decide (y.1 = x.1)) = [x] := filter_name hN hx
  rw [show ([(x.1, x.2.1, x.2.2)] : List Win) = [x] from rfl, ← e1]
  refine (filter_two _ _ Es (fun y _ => ?_)).trans ?_
  · simp only [same_ks]
    simp
    intro h1 _
    exact h1
  · rw [List.filter_congr (fun y hy => ?_)]
    simp only [same_ks]
    rw [Bool.eq_iff_iff]
    simp
    constructor
    · rintro (h1 | ⟨h1, _⟩)
      · rw [win_eq hN hy hx h1]; exact hl
      · exact h1
    · intro h1
      by_cases e : y.1 = x.1
      · exact .inl e
      · exact .inr ⟨h1, e⟩
theorem CameW.fin {Es : List Win} {left : Lit → Bool} {Xs : List Win} (h : CameW Es left Xs) (hl : ∀ kl, left kl = false) : Xs.Perm Es := by
  unfold CameW at h
  rwa [List.filter_eq_nil_iff.2 (fun x _ => by rw [hl]; decide), List.append_nil] at h
end Go.Proofs.Ytgdjoochbgeokaa.Hand
namespace Go.Proofs.Ytgdjoochbgeokaa.Hand
open Go.RowKit Go.Maps Go.Proofs.YtgdjoochbgeokaaW.PrintWords Go.Proofs.YtgdjoochbgeokaaW.PrintLast Go.Proofs.YtgdjoochbgeokaaW.PrintMore Go.Proofs.Ytgdjoochbgeokaa.Q
set_option linter.unusedVariables false
set_option linter.unusedSimpArgs false
/-- A limit in memory, its windows told by a list. -/
structure LSt (w : World) (g m : Nat) (tr mo sp ck : Int) (Es : List Win) : Prop where
  lim : LimAt w g m tr mo sp ck
  own : ∃ n D, Owns w m n D ∧ MapW D Es
  nodup : (Es.map (·.1)).Nodup
  beg : ∀ x, x ∈ Es → 0 ≤ x.2.1 ∧ x.2.1 ≤ ck
  use : ∀ x, x ∈ Es → 1 ≤ x.2.2 ∧ x.2.2 ≤ tr
  len : (Es.length : Int) ≤ mo
  ckB : 0 ≤ ck ∧ ck ≤ 18446744073709551615
  trB : 1 ≤ tr ∧ tr ≤ 1000000
  moB : 1 ≤ mo ∧ mo ≤ 4096
  spB : 1 ≤ sp ∧ sp ≤ 18446744073709551615
theorem LSt.below {w w' : World} {g m : Nat} {tr mo sp ck : Int} {Es : List Win} (h : LSt w g m tr mo sp ck Es) (hb : Below w.heap.size w w') : LSt w' g m tr mo sp ck Es := by
  obtain ⟨n, D, h1, h2⟩ := h.own
  exact { h with lim := h.lim.below hb, own := ⟨n, D, Owns.below h1 hb, h2⟩ }
theorem LSt.kept {w w' : World} {g m : Nat} {tr mo sp ck : Int} {Es : List Win} {S : Nat → Prop} (h : LSt w g m tr mo sp ck Es) (hk : KeptL S w w') (hg : ¬ S g) (hm : ¬ S m) : LSt w' g m tr mo sp ck Es := by
  obtain ⟨n, D, ⟨es, clock, o1, o2⟩, h2⟩ := h.own
  exact { h with lim := (hk.block g (blk_lt h.lim) hg).trans h.lim, own := ⟨n, D, ⟨es, clock, (hk.block m (blk_lt o1) hm).trans o1, o2⟩, h2⟩ }
theorem LSt.size_ {w : World} {g m n : Nat} {tr mo sp ck : Int} {Es : List Win} {D : DW} (h : LSt w g m tr mo sp ck Es) (hO : Owns w m n D) (hM : MapW D Es) : Maps.size D = Es.length := hM.size (hO.tidy lawS) (hO.canon lawS) h.nodup
theorem LSt.good {w : World} {g m n : Nat} {tr mo sp ck : Int} {Es : List Win} {D : DW} (h : LSt w g m tr mo sp ck Es) (hO : Owns w m n D) (hM : MapW D Es) : GoodD D tr mo := by
  refine ⟨fun k d hd => ?_, by rw [h.size_ hO hM]; exact h.len⟩
  obtain ⟨x, hx, _, rfl⟩ := (hM k d).1 hd
  exact ⟨_, _, rfl, (h.use x hx).1, (h.use x hx).2⟩
/-- How many of those that came are open. -/
def cntA (sp t : Int) (l : List Win) : Int := ((l.filter (al sp t)).length : Int)
theorem cntA_snoc (sp t : Int) (l : List Win) (x : Win) : cntA sp t (l ++ [x]) = if al sp t x = true then cntA sp t l + 1 else cntA sp t l := by
  unfold cntA
  rw [List.filter_append]
  by_cases h : al sp t x = true
  · rw [if_pos h, List.filter_cons_of_pos h, List.length_append]
    simp
  · rw [if_neg h, List.filter_cons_of_neg h]
    simp
theorem cntA_perm {sp t : Int} {a b : List Win} (h : a.Perm b) : cntA sp t a = cntA sp t b := by
  unfold cntA
  rw [(h.filter _).length_eq]
theorem cntA_le (sp t : Int) (l : List Win) : cntA sp t l ≤ l.length := by
  unfold cntA
  have := List.length_filter_le (al sp t) l
  omega
theorem cntA_0 (sp t : Int) (l : List Win) : 0 ≤ cntA sp t l := by unfold cntA; omega
set_option maxHeartbeats 2000000 in
set_option maxRecDepth 100000 in
theorem limit_others.calls {w : World} {g m : Nat} {tr mo sp ck : Int} {Es : List Win} (h : LSt w g m tr mo sp ck Es) (t : Int) (ht : ck ≤ t ∧ t ≤ 18446744073709551615) :
    Calls Try.prog 31 #[.pointer (some ⟨g, 0, none⟩), .int .u64 t] w fun e w' => e = .returned (.int .i64 (cntA sp t Es)) ∧ Below w.heap.size w w' := by
  obtain ⟨n, D, hO, hM⟩ := h.own
  have HS := Aside0.mk h
  have HM := Aside0.mk hM
  have HT := Aside0.mk ht
  have HO := Aside0.mk hO
  have HC0 : Aside0 (CameW Es (Maps.has D) []) := ⟨CameW.start hM⟩
  have c4 := (blk_cell h.lim 4).trans rfl
  clear h hO hM ht
  go_enter Try.func31, Try.ntmps31
  go_wp2_with (first
    | (at_range; refine wpList_range_own _ rfl _ 56 rfl 9 54 lawS Try.underlying56 winElem m n D rfl HO.out ?_; intro w2 hrg0 hg0 hs0; have HR0 := Aside0.mk hrg0; have HK0 : Aside0 (Below w.heap.size w w2) := ⟨⟨hg0.os, hg0.tape, hg0.output, hg0.size, fun k hk => hg0.block k hk (by simp)⟩⟩; clear hrg0 hg0 hs0)
    | go_in)
  go_frame
  clear c4
  obtain ⟨r, hr⟩ : ∃ r, r = w.heap.size := ⟨_, rfl⟩
  have HSR := Aside0.mk hr
  rw [← hr] at HR0 ⊢
  clear hr
  go_loopw [5] (fun v5 wr => ∃ (cn : Int) (left : Lit → Bool) (cnt : Nat), v5 = .int .i64 cn ∧ Aside0 (wr.ranges Try.prog 9 winElem m r n D left cnt) ∧ Aside0 (∃ Xs, CameW Es left Xs ∧ cn = cntA sp t Xs) ∧ Aside0 (Below w.heap.size w wr)) (fun _ wr => wr.rangeLeft m r)
  case atStart => exact ⟨0, _, _, rfl, HR0, ⟨[], HC0.out, rfl⟩, HK0⟩
  case round =>
    clear HR0 HC0 HK0
    obtain ⟨cn, left, cnt, rfl, HR, HX, HK⟩ := hrel
    rcases HR.out.next lawS 0 with ⟨h0, hl0, hrun⟩ | ⟨key, v, kl, y, w3, cnt3, hkey, hlk, hv, hat, hrun, hrg1, hlt, hg1, hs1, hen⟩
    · have HE : Aside0 (cn = cntA sp t Es) := ⟨by obtain ⟨Xs, h1, h2⟩ := HX.out; rw [h2]; exact cntA_perm (h1.fin hl0)⟩
      go_wp2_with fail
      go_ret
      exact ⟨by rw [HE.out]; rfl, HK.out⟩
    · obtain ⟨s, rfl, rfl, hsz2⟩ := Go.WideMaps.string_of_keyOf Try.underlying9 hkey
      obtain ⟨p, rfl, rfl, hp1, hp2⟩ := winElem_inv hv
      obtain ⟨pb, pu⟩ := p
      simp only at hat hrun hen hp1 hp2
      have HR3 := Aside0.mk hrg1
      have HLT := Aside0.mk hlt
      have HK3 : Aside0 (Below w.heap.size w w3) := ⟨⟨hg1.os.trans HK.out.os, hg1.tape.trans HK.out.tape, hg1.output.trans HK.out.output, Nat.le_trans HK.out.size hg1.size, fun k hk => (hg1.block k (Nat.lt_of_lt_of_le hk HK.out.size) (fun e => by injection e with e; have := HSR.out; omega)).trans (HK.out.block k hk)⟩⟩
      obtain ⟨Xs, hx1, hx2⟩ := HX.out
      obtain ⟨hx3, hx4⟩ := CameW.entry HM.out HS.out.nodup hx1 hlk (view_some hat)
      have hal : aliveB t pb sp = al sp t (s, pb, pu) := by
        obtain ⟨b0, b1⟩ := HS.out.beg _ hx4
        simp only at b0 b1
        have := HT.out
        exact aliveB_al (x := (s, pb, pu)) b0 (by show pb ≤ t; omega) this.2
      have HCN : Aside0 (0 ≤ cn ∧ cn ≤ 4096) := ⟨by
        have h1 := cntA_le sp t Xs
        have h2 := cntA_0 sp t Xs
        have h3 := hx1.length_eq
        rw [List.length_append] at h3
        have h4 := HS.out.len
        have h5 := HS.out.moB
        omega⟩
      have HX3 : Aside0 (∃ Xs, CameW Es (fun z => left z && !z.sameKey (ks s)) Xs ∧ (if aliveB t pb sp = true then cn + 1 else cn) = cntA sp t Xs) := ⟨_, hx3, by rw [cntA_snoc, hal, hx2]⟩
      clear hrg1 hlt hat hlk hkey hv hg1 hs1 HX HK hx1 hx2 hx3 hx4 hal
      have HL4 : Aside0 (LSt (w3.alloc (.cells #[.int .u64 pb, .int .i64 pu] 54)) g m tr mo sp ck Es) := ⟨HS.out.below (below_alloc HK3.out _)⟩
      have HR4 := Aside0.mk (HR3.out.alloc (.cells #[.int .u64 pb, .int .i64 pu] 54))
      have HK4 : Aside0 (Below w.heap.size w (w3.alloc (.cells #[.int .u64 pb, .int .i64 pu] 54))) := ⟨below_alloc HK3.out _⟩
      have d0 := (blk_cell (blk_new w3 (.cells #[.int .u64 pb, .int .i64 pu] 54 (0, 0))) 0).trans rfl
      have d1 := (blk_cell (blk_new w3 (.cells #[.int .u64 pb, .int .i64 pu] 54 (0, 0))) 1).trans rfl
      clear HK3 HR3
      go_wp2_with fail
      obtain ⟨w4, hw4⟩ : ∃ w4, w4 = w3.alloc (.cells #[.int .u64 pb, .int .i64 pu] 54) := ⟨_, rfl⟩
      rw [← hw4] at HL4 HR4 HK4 ⊢
      clear d0 d1 hw4
      refine (limit_is.calls g m tr mo sp ck pb pu t w4 HL4.out.lim).mono ?_
      rintro x w5 ⟨rfl, hb5⟩
      have HR5 := Aside0.mk (ranges_below HR4.out hb5)
      have HK5 : Aside0 (Below w.heap.size w w5) := ⟨below_step HK4.out hb5⟩
      clear hb5
      have n1 : Go.RowKit.wrap64 (cn + 1) = cn + 1 := w64L (by have := HCN.out; omega) (by have := HCN.out; omega)
      cases ha : aliveB t pb sp with
      | true =>
        rw [ha, if_pos rfl] at HX3
        go_wp2_with fail
        go_roundw
        case rel => exact ⟨_, _, cnt3, by first | rfl | (rw [n1]), HR5, HX3, HK5⟩
        case measure => rw [HR5.out.left_eq, HR.out.left_eq]; exact HLT.out
      | false =>
        rw [ha, if_neg (by decide)] at HX3
        go_wp2_with fail
        go_roundw
        case rel => exact ⟨_, _, cnt3, rfl, HR5, HX3, HK5⟩
        case measure => rw [HR5.out.left_eq, HR.out.left_eq]; exact HLT.out
end Go.Proofs.Ytgdjoochbgeokaa.Hand
namespace Go.Proofs.Ytgdjoochbgeokaa.Hand
open Go.RowKit Go.Maps Go.Proofs.YtgdjoochbgeokaaW.PrintWords Go.Proofs.YtgdjoochbgeokaaW.PrintLast Go.Proofs.YtgdjoochbgeokaaW.PrintMore Go.Proofs.Ytgdjoochbgeokaa.Q
set_option linter.unusedVariables false
set_option linter.unusedSimpArgs false
theorem look_alive {Es : List Win} {sp t : Int} {x : Win} (hN : (Es.map (·.1)).Nodup) (hx : x ∈ Es) (ha : al sp t x = true) : look (Es.filter (al sp t)) x.1 = some x :=
  look_in (hN.sublist (List.Sublist.map _ List.filter_sublist)) (List.mem_filter.2 ⟨hx, ha⟩) rfl
theorem look_over {Es : List Win} {sp t : Int} {x : Win} (hN : (Es.map (·.1)).Nodup) (hx : x ∈ Es) (ha : al sp t x = false) : look (Es.filter (al sp t)) x.1 = none := by
  rw [look_none]
  intro y hy e
  obtain ⟨h1, h2⟩ := List.mem_filter.1 hy
  rw [win_eq hN h1 hx e, ha] at h2
  cases h2
theorem look_gone {Es : List Win} {sp t : Int} {s : ByteArray} (hl : look Es s = none) : look (Es.filter (al sp t)) s = none := by
  rw [look_none] at hl ⊢
  exact fun y hy => hl y (List.mem_filter.1 hy).1
theorem left_found {tr mo : Int} {s : ByteArray} {E : List Win} {x : Win} (hs : ¬ (s.size : Int) > 256) (hl : look E s = some x) (hu : x.2.2 ≤ tr) : leftI tr mo s E = tr - x.2.2 := by
  unfold leftI whyI
  rw [if_neg hs, hl]
  simp only
  by_cases h : x.2.2 ≥ tr
  · rw [if_pos h, if_neg (by decide)]; omega
  · rw [if_neg h, if_pos rfl]
theorem left_none {tr mo : Int} {s : ByteArray} {E : List Win} (hs : ¬ (s.size : Int) > 256) (hl : look E s = none) : leftI tr mo s E = if (E.length : Int) ≥ mo then 0 else tr := by
  unfold leftI whyI
  rw [if_neg hs, hl]
  simp only
  by_cases h : (E.length : Int) ≥ mo
  · rw [if_pos h, if_neg (by decide), if_pos h]
  · rw [if_neg h, if_pos rfl, if_neg h]
theorem left_long {tr mo : Int} {s : ByteArray} {E : List Win} (hs : (s.size : Int) > 256) : leftI tr mo s E = 0 := by
  unfold leftI whyI
  rw [if_pos hs, if_neg (by decide)]
set_option maxHeartbeats 2000000 in
set_option maxRecDepth 100000 in
theorem limit_Left.calls {w : World} {g m : Nat} {tr mo sp ck : Int} {Es : List Win} (h : LSt w g m tr mo sp ck Es) (s : ByteArray) (now : Int) (hnow : 0 ≤ now ∧ now ≤ 18446744073709551615) (t : Int) (ht : t = max now ck) :
    Calls Try.prog 16 #[.pointer (some ⟨g, 0, none⟩), .string s, .int .u64 now] w fun e w' => e = .returned (.int .i64 (leftI tr mo s (Es.filter (al sp t)))) ∧ Below w.heap.size w w' := by
  have HS := Aside0.mk h
  clear h
  go_enter Try.func16, Try.ntmps16
  by_cases hlong : (s.size : Int) > 256
  · rw [left_long hlong]
    have hl1 : (s.size : Int) > 256 := hlong
    clear hlong
    go_wp2_with fail
    go_ret
    exact ⟨rfl, Below.refl _ _⟩
  have HSZ : Aside0 ((s.size : Int) ≤ 256) := ⟨by omega⟩
  have hl1 : ¬ (s.size : Int) > 256 := hlong
  clear hlong
  go_wp2_with fail
  refine (limit_at.calls g m tr mo sp ck now w HS.out.lim).mono ?_
  rintro x w1 ⟨rfl, rfl⟩
  rw [← ht]
  have HT : Aside0 (ck ≤ t ∧ t ≤ 18446744073709551615) := ⟨by have := HS.out.ckB; omega⟩
  clear ht hl1
  obtain ⟨n, D, hO, hM⟩ := HS.out.own
  have hkey := WideMaps.keyOf_string_mk (P := Try.prog) Try.underlying9 (s := s) (by have := HSZ.out; unfold maxLen; omega)
  obtain ⟨v, ps, hlook, hv⟩ := hO.look_ok lawS Try.underlying56 (zero54 _) (winElem_mk (b := 0) (u := 0) (by decide) (by decide)) hkey
  obtain ⟨⟨b, u⟩, rfl, hvd, hb, hu⟩ := winElem_inv hv
  have hvd1 : D.atKey (ks s) (wv 0 0) = wv b u := congrArg Prod.fst hvd
  simp only at hlook hb hu
  have hview := hM.look_ HS.out.nodup s
  have c4 := (blk_cell HS.out.lim 4).trans rfl
  have HLA : Aside0 (LSt (w1.alloc (.cells #[.int .u64 b, .int .i64 u] 54)) g m tr mo sp ck Es) := ⟨HS.out.below (below_alloc (Below.refl _ _) _)⟩
  have HKA : Aside0 (Below w1.heap.size w1 (w1.alloc (.cells #[.int .u64 b, .int .i64 u] 54))) := ⟨below_alloc (Below.refl _ _) _⟩
  have HBA : Aside0 ((w1.alloc (.cells #[.int .u64 b, .int .i64 u] 54)).heap[w1.heap.size]? = some (.cells #[.int .u64 b, .int .i64 u] 54 (0, 0))) := ⟨blk_new w1 _⟩
  have d0 := (blk_cell HBA.out 0).trans rfl
  have d1 := (blk_cell HBA.out 1).trans rfl
  clear hv hvd hkey
  cases hh : Maps.has D (ks s) with
  | true =>
    have hvw : view D (ks s) = some (wv b u) := by unfold view; rw [hh, hvd1]; rfl
    rw [hvw] at hview
    cases hl : look Es s with
    | none => rw [hl] at hview; cases hview
    | some x =>
      rw [hl] at hview
      obtain ⟨hx, hxs⟩ := look_some hl
      obtain ⟨e1, e2⟩ := wv_inj (Option.some.inj hview)
      have hxe : x = (s, b, u) := by rw [e1, e2, ← hxs]
      subst hxe
      have hal : aliveB t b sp = al sp t (s, b, u) := by
        obtain ⟨b0, b1⟩ := HS.out.beg _ hx
        simp only at b0 b1
        have := HT.out
        exact aliveB_al (x := (s, b, u)) b0 (by show b ≤ t; omega) this.2
      have huse := HS.out.use _ hx
      simp only at huse
      rw [show Maps.has D (Lit.string s.data.toList) = true from hh] at hlook
      have HX := Aside0.mk hx
      have HAL := Aside0.mk hal
      have HU := Aside0.mk huse
      clear hvw hview hvd1 hh hl hx hxs e1 e2 hal huse hM
      go_wp2_with fail
      obtain ⟨B, hB⟩ : ∃ B, B = w1.heap.size := ⟨_, rfl⟩
      obtain ⟨w2, hw2⟩ : ∃ w2, w2 = w1.alloc (.cells #[.int .u64 b, .int .i64 u] 54) := ⟨_, rfl⟩
      have hBg := Aside0.mk hB
      rw [← hB, ← hw2] at HBA
      rw [← hw2] at HLA HKA
      rw [← hB, ← hw2]
      clear hw2 d0 d1 c4 hlook
      clear hB
      refine (limit_is.calls g m tr mo sp ck b u t w2 HLA.out.lim).mono ?_
      rintro x w3 ⟨rfl, hb3⟩
      have HL3 := Aside0.mk (HLA.out.below hb3)
      have HK3 := Aside0.mk (below_step HKA.out hb3)
      have HB3 := Aside0.mk (blk_below HBA.out hb3)
      clear hb3 HLA HKA HBA
      cases ha : aliveB t b sp with
      | true =>
        have HE : Aside0 (leftI tr mo s (Es.filter (al sp t)) = tr - u) := ⟨left_found (x := (s, b, u)) (by have := HSZ.out; omega) (look_alive (x := (s, b, u)) HS.out.nodup HX.out (HAL.out.symm.trans ha)) HU.out.2⟩
        have c0 := (blk_cell HL3.out.lim 0).trans rfl
        have d1 := (blk_cell HB3.out 1).trans rfl
        have n1 : Go.RowKit.wrap64 (tr - u) = tr - u := w64L (by have := HU.out; have := HS.out.trB; omega) (by have := HU.out; have := HS.out.trB; omega)
        go_wp2_with fail
        refine start_ (n := 8) (S := fun w' => w'.cell? ⟨g, 0, none⟩ = some (.int .i64 tr) ∧ w'.cell? ⟨B, 1, none⟩ = some (.int .i64 u)) (ds := []) #[false, false, false, false, false, false, false, false] (by kernel_rfl) rfl rfl ⟨c0, d1⟩ (fun hHeld => ?_)
        refine pure_ (i := 0) (N := some 36) (v := ?_) (a' := ?_) #[true, false, false, false, false, false, false, false] rfl rfl (by kernel_rfl) (fun _ _ _ h => h) (Or.inl ⟨by rfl, ?_⟩) ?_ ?_
        rotate_left
        · intro w'
          go_simp
          with_reducible rfl
        rotate_left
        · simp only [Act.put, List.setIfInBounds_toArray, List.set_cons_zero, List.set_cons_succ, i64_w, i32_w]
          rfl
        refine pure_ (i := 1) (N := some 37) (v := ?_) (a' := ?_) #[true, true, false, false, false, false, false, false] rfl rfl (by kernel_rfl) (fun _ _ _ h => h) (Or.inl ⟨by rfl, ?_⟩) ?_ ?_
        rotate_left
        · intro w'
          go_simp
          with_reducible rfl
        rotate_left
        · simp only [Act.put, List.setIfInBounds_toArray, List.set_cons_zero, List.set_cons_succ, i64_w, i32_w]
          rfl
        refine pure_ (i := 2) (N := some 38) (v := ?_) (a' := ?_) #[true, true, true, false, false, false, false, false] rfl rfl (by kernel_rfl) (fun _ _ _ h => h) (Or.inl ⟨by rfl, ?_⟩) ?_ ?_
        rotate_left
        · intro w'
          go_simp
          with_reducible rfl
        rotate_left
        · simp only [Act.put, List.setIfInBounds_toArray, List.set_cons_zero, List.set_cons_succ, i64_w, i32_w]
          rfl
        refine pure_ (i := 4) (N := some 40) (v := ?_) (a' := ?_) #[true, true, true, false, true, false, false, false] rfl rfl (by kernel_rfl) (fun _ _ _ h => h) (Or.inl ⟨by rfl, ?_⟩) ?_ ?_
        rotate_left
        · intro w'
          go_simp
          with_reducible rfl
        rotate_left
        · simp only [Act.put, List.setIfInBounds_toArray, List.set_cons_zero, List.set_cons_succ, i64_w, i32_w]
          rfl
        refine take_ (i := 3) (N := some 39) (v := ?_) (a' := ?_) #[true, true, true, true, true, false, false, false] rfl rfl (by kernel_rfl) (fun _ _ _ h => h) (Or.inl ⟨by rfl, ?_⟩) hHeld ?_ ?_
        rotate_left
        · rintro w' ⟨s0, s1⟩
          go_simp
          with_reducible rfl
        rotate_left
        · simp only [Act.put, List.setIfInBounds_toArray, List.set_cons_zero, List.set_cons_succ, i64_w, i32_w]
          rfl
        refine take_ (i := 5) (N := some 41) (v := ?_) (a' := ?_) #[true, true, true, true, true, true, false, false] rfl rfl (by kernel_rfl) (fun _ _ _ h => h) (Or.inl ⟨by rfl, ?_⟩) hHeld ?_ ?_
        rotate_left
        · rintro w' ⟨s0, s1⟩
          go_simp
          with_reducible rfl
        rotate_left
        · simp only [Act.put, List.setIfInBounds_toArray, List.set_cons_zero, List.set_cons_succ, i64_w, i32_w]
          rfl
        refine pure_ (i := 6) (N := some 42) (v := ?_) (a' := ?_) #[true, true, true, true, true, true, true, false] rfl rfl (by kernel_rfl) (fun _ _ _ h => h) (Or.inl ⟨by rfl, ?_⟩) ?_ ?_
        rotate_left
        · intro w'
          go_simp
          with_reducible rfl
        rotate_left
        · simp only [Act.put, List.setIfInBounds_toArray, List.set_cons_zero, List.set_cons_succ, i64_w, i32_w]
          rfl
        refine pure_ (i := 7) (N := some 6) (v := ?_) (a' := ?_) #[true, true, true, true, true, true, true, true] rfl rfl (by kernel_rfl) (fun _ _ _ h => h) (Or.inl ⟨by rfl, ?_⟩) ?_ ?_
        rotate_left
        · intro w'
          go_simp
          with_reducible rfl
        rotate_left
        · simp only [Act.put, List.setIfInBounds_toArray, List.set_cons_zero, List.set_cons_succ, i64_w, i32_w]
          rfl
        refine done_ (by kernel_rfl) ?_
        go_wp2_with fail
        go_ret
        exact ⟨by rw [HE.out]; rfl, below_drew1 HK3.out⟩
      | false =>
        have HE : Aside0 (leftI tr mo s (Es.filter (al sp t)) = if ((Es.filter (al sp t)).length : Int) ≥ mo then 0 else tr) := ⟨left_none (by have := HSZ.out; omega) (look_over (x := (s, b, u)) HS.out.nodup HX.out (HAL.out.symm.trans ha))⟩
        have HNO : Aside0 (look (Es.filter (al sp t)) s = none) := ⟨look_over (x := (s, b, u)) HS.out.nodup HX.out (HAL.out.symm.trans ha)⟩
        clear HB3 HX HAL HU
        go_wp2_with fail
        have HLd : Aside0 (LSt w3.drew g m tr mo sp ck Es) := ⟨HL3.out.below (below_drew1 (Below.refl _ _))⟩
        have c1 := (blk_cell HL3.out.lim 1).trans rfl
        have c0 := (blk_cell HL3.out.lim 0).trans rfl
        by_cases hge : cntA sp t Es ≥ mo
        · have b1 : decide (cntA sp t Es ≥ mo) = true := decide_eq_true hge
          have HE2 : Aside0 (leftI tr mo s (Es.filter (al sp t)) = 0) := ⟨by rw [HE.out]; exact if_pos hge⟩
          clear hge HE
          refine start_ (n := 8) (S := fun w' => w'.cell? ⟨g, 1, none⟩ = some (.int .i64 mo)) (ds := []) #[false, false, false, false, false, false, false, false] (by kernel_rfl) rfl rfl (c1) (fun hHeld => ?_)
          refine pure_ (i := 0) (N := some 43) (v := ?_) (a' := ?_) #[true, false, false, false, false, false, false, false] rfl rfl (by kernel_rfl) (fun _ _ _ h => h) (Or.inl ⟨by rfl, ?_⟩) ?_ ?_
          rotate_left
          · intro w'
            go_simp
            with_reducible rfl
          rotate_left
          · simp only [Act.put, List.setIfInBounds_toArray, List.set_cons_zero, List.set_cons_succ, i64_w, i32_w]
            rfl
          refine pure_ (i := 1) (N := some 44) (v := ?_) (a' := ?_) #[true, true, false, false, false, false, false, false] rfl rfl (by kernel_rfl) (fun _ _ _ h => h) (Or.inl ⟨by rfl, ?_⟩) ?_ ?_
          rotate_left
          · intro w'
            go_simp
            with_reducible rfl
          rotate_left
          · simp only [Act.put, List.setIfInBounds_toArray, List.set_cons_zero, List.set_cons_succ, i64_w, i32_w]
            rfl
          refine pure_ (i := 3) (N := some 46) (v := ?_) (a' := ?_) #[true, true, false, true, false, false, false, false] rfl rfl (by kernel_rfl) (fun _ _ _ h => h) (Or.inl ⟨by rfl, ?_⟩) ?_ ?_
          rotate_left
          · intro w'
            go_simp
            with_reducible rfl
          rotate_left
          · simp only [Act.put, List.setIfInBounds_toArray, List.set_cons_zero, List.set_cons_succ, i64_w, i32_w]
            rfl
          refine pure_ (i := 4) (N := some 47) (v := ?_) (a' := ?_) #[true, true, false, true, true, false, false, false] rfl rfl (by kernel_rfl) (fun _ _ _ h => h) (Or.inl ⟨by rfl, ?_⟩) ?_ ?_
          rotate_left
          · intro w'
            go_simp
            with_reducible rfl
          rotate_left
          · simp only [Act.put, List.setIfInBounds_toArray, List.set_cons_zero, List.set_cons_succ, i64_w, i32_w]
            rfl
          refine pure_ (i := 5) (N := some 48) (v := ?_) (a' := ?_) #[true, true, false, true, true, true, false, false] rfl rfl (by kernel_rfl) (fun _ _ _ h => h) (Or.inl ⟨by rfl, ?_⟩) ?_ ?_
          rotate_left
          · intro w'
            go_simp
            with_reducible rfl
          rotate_left
          · simp only [Act.put, List.setIfInBounds_toArray, List.set_cons_zero, List.set_cons_succ, i64_w, i32_w]
            rfl
          refine take_ (i := 6) (N := some 49) (v := ?_) (a' := ?_) #[true, true, false, true, true, true, true, false] rfl rfl (by kernel_rfl) (fun _ _ _ h => h) (Or.inl ⟨by rfl, ?_⟩) hHeld ?_ ?_
          rotate_left
          · intro w' s0
            go_simp
            with_reducible rfl
          rotate_left
          · simp only [Act.put, List.setIfInBounds_toArray, List.set_cons_zero, List.set_cons_succ, i64_w, i32_w]
            rfl
          refine one_ (i := 2) (N := some 45) #[true, true, true, true, true, true, true, false] rfl rfl (by kernel_rfl) (by decide) (fun K hK => ?_)
          refine goes_ Try.func31 (by kernel_rfl) rfl #[.pointer (some ⟨g, 0, none⟩), .int .u64 t] (by rfl) rfl rfl (by simp only [List.map_toArray, List.map_cons, List.map_nil]; rfl) ?_
          with_reducible refine (limit_others.calls HLd.out t HT.out).mono ?_
          rintro e w5 ⟨rfl, hb5⟩
          have HK5 := Aside0.mk (below_step (below_drew1 HK3.out) hb5)
          refine ⟨_, rfl, ?_⟩
          refine hK.out _ _ (pw_cell_below hb5 hHeld) (fun hHeld => ?_)
          clear hK K
          refine norm_ (a' := ?_) ?_ ?_
          rotate_left
          · show Act.put _ (some 45) _ = _
            simp only [Act.put, List.setIfInBounds_toArray, List.set_cons_zero, List.set_cons_succ, i64_w, i32_w]
            rfl
          refine pure_ (i := 7) (N := some 50) (v := ?_) (a' := ?_) #[true, true, true, true, true, true, true, true] rfl rfl (by kernel_rfl) (fun _ _ _ h => h) (Or.inl ⟨by rfl, ?_⟩) ?_ ?_
          rotate_left
          · intro w'
            go_simp
            with_reducible rfl
          rotate_left
          · simp only [Act.put, List.setIfInBounds_toArray, List.set_cons_zero, List.set_cons_succ, i64_w, i32_w]
            rfl
          refine done_ (by kernel_rfl) ?_
          go_wp2_with fail
          go_ret
          exact ⟨by rw [HE2.out]; rfl, HK5.out⟩
        · have b1 : decide (cntA sp t Es ≥ mo) = false := decide_eq_false hge
          have HE2 : Aside0 (leftI tr mo s (Es.filter (al sp t)) = tr) := ⟨by rw [HE.out]; exact if_neg hge⟩
          clear hge HE
          refine start_ (n := 8) (S := fun w' => w'.cell? ⟨g, 1, none⟩ = some (.int .i64 mo)) (ds := []) #[false, false, false, false, false, false, false, false] (by kernel_rfl) rfl rfl (c1) (fun hHeld => ?_)
          refine pure_ (i := 0) (N := some 43) (v := ?_) (a' := ?_) #[true, false, false, false, false, false, false, false] rfl rfl (by kernel_rfl) (fun _ _ _ h => h) (Or.inl ⟨by rfl, ?_⟩) ?_ ?_
          rotate_left
          · intro w'
            go_simp
            with_reducible rfl
          rotate_left
          · simp only [Act.put, List.setIfInBounds_toArray, List.set_cons_zero, List.set_cons_succ, i64_w, i32_w]
            rfl
          refine pure_ (i := 1) (N := some 44) (v := ?_) (a' := ?_) #[true, true, false, false, false, false, false, false] rfl rfl (by kernel_rfl) (fun _ _ _ h => h) (Or.inl ⟨by rfl, ?_⟩) ?_ ?_
          rotate_left
          · intro w'
            go_simp
            with_reducible rfl
          rotate_left
          · simp only [Act.put, List.setIfInBounds_toArray, List.set_cons_zero, List.set_cons_succ, i64_w, i32_w]
            rfl
          refine pure_ (i := 3) (N := some 46) (v := ?_) (a' := ?_) #[true, true, false, true, false, false, false, false] rfl rfl (by kernel_rfl) (fun _ _ _ h => h) (Or.inl ⟨by rfl, ?_⟩) ?_ ?_
          rotate_left
          · intro w'
            go_simp
            with_reducible rfl
          rotate_left
          · simp only [Act.put, List.setIfInBounds_toArray, List.set_cons_zero, List.set_cons_succ, i64_w, i32_w]
            rfl
          refine pure_ (i := 4) (N := some 47) (v := ?_) (a' := ?_) #[true, true, false, true, true, false, false, false] rfl rfl (by kernel_rfl) (fun _ _ _ h => h) (Or.inl ⟨by rfl, ?_⟩) ?_ ?_
          rotate_left
          · intro w'
            go_simp
            with_reducible rfl
          rotate_left
          · simp only [Act.put, List.setIfInBounds_toArray, List.set_cons_zero, List.set_cons_succ, i64_w, i32_w]
            rfl
          refine pure_ (i := 5) (N := some 48) (v := ?_) (a' := ?_) #[true, true, false, true, true, true, false, false] rfl rfl (by kernel_rfl) (fun _ _ _ h => h) (Or.inl ⟨by rfl, ?_⟩) ?_ ?_
          rotate_left
          · intro w'
            go_simp
            with_reducible rfl
          rotate_left
          · simp only [Act.put, List.setIfInBounds_toArray, List.set_cons_zero, List.set_cons_succ, i64_w, i32_w]
            rfl
          refine take_ (i := 6) (N := some 49) (v := ?_) (a' := ?_) #[true, true, false, true, true, true, true, false] rfl rfl (by kernel_rfl) (fun _ _ _ h => h) (Or.inl ⟨by rfl, ?_⟩) hHeld ?_ ?_
          rotate_left
          · intro w' s0
            go_simp
            with_reducible rfl
          rotate_left
          · simp only [Act.put, List.setIfInBounds_toArray, List.set_cons_zero, List.set_cons_succ, i64_w, i32_w]
            rfl
          refine one_ (i := 2) (N := some 45) #[true, true, true, true, true, true, true, false] rfl rfl (by kernel_rfl) (by decide) (fun K hK => ?_)
          refine goes_ Try.func31 (by kernel_rfl) rfl #[.pointer (some ⟨g, 0, none⟩), .int .u64 t] (by rfl) rfl rfl (by simp only [List.map_toArray, List.map_cons, List.map_nil]; rfl) ?_
          with_reducible refine (limit_others.calls HLd.out t HT.out).mono ?_
          rintro e w5 ⟨rfl, hb5⟩
          have HK5 := Aside0.mk (below_step (below_drew1 HK3.out) hb5)
          have HL5 := Aside0.mk (HLd.out.below hb5)
          refine ⟨_, rfl, ?_⟩
          refine hK.out _ _ (pw_cell_below hb5 hHeld) (fun hHeld => ?_)
          clear hK K
          refine norm_ (a' := ?_) ?_ ?_
          rotate_left
          · show Act.put _ (some 45) _ = _
            simp only [Act.put, List.setIfInBounds_toArray, List.set_cons_zero, List.set_cons_succ, i64_w, i32_w]
            rfl
          refine pure_ (i := 7) (N := some 50) (v := ?_) (a' := ?_) #[true, true, true, true, true, true, true, true] rfl rfl (by kernel_rfl) (fun _ _ _ h => h) (Or.inl ⟨by rfl, ?_⟩) ?_ ?_
          rotate_left
          · intro w'
            go_simp
            with_reducible rfl
          rotate_left
          · simp only [Act.put, List.setIfInBounds_toArray, List.set_cons_zero, List.set_cons_succ, i64_w, i32_w]
            rfl
          refine done_ (by kernel_rfl) ?_
          have c0 := (blk_cell HL5.out.lim 0).trans rfl
          go_wp2_with fail
          go_ret
          exact ⟨by rw [HE2.out]; rfl, HK5.out⟩
  | false =>
    have hvw : view D (ks s) = none := view_none hh
    rw [hvw] at hview
    have hl : look Es s = none := by
      cases hl : look Es s with
      | none => rfl
      | some x => rw [hl] at hview; cases hview
    rw [show Maps.has D (Lit.string s.data.toList) = false from hh] at hlook
    have HE : Aside0 (leftI tr mo s (Es.filter (al sp t)) = if ((Es.filter (al sp t)).length : Int) ≥ mo then 0 else tr) := ⟨left_none (by have := HSZ.out; omega) (look_gone hl)⟩
    clear hvw hview hvd1 hh hl hM
    go_wp2_with fail
    obtain ⟨B, hB⟩ : ∃ B, B = w1.heap.size := ⟨_, rfl⟩
    obtain ⟨w3, hw3⟩ : ∃ w3, w3 = w1.alloc (.cells #[.int .u64 b, .int .i64 u] 54) := ⟨_, rfl⟩
    have HL3 := Aside0.mk HLA.out
    have HK3 := Aside0.mk HKA.out
    rw [← hw3] at HL3 HK3
    rw [← hB, ← hw3]
    clear hw3 d0 d1 c4 hlook HLA HKA HBA hB
    go_wp2_with fail
    have HLd : Aside0 (LSt w3.drew g m tr mo sp ck Es) := ⟨HL3.out.below (below_drew1 (Below.refl _ _))⟩
    have c1 := (blk_cell HL3.out.lim 1).trans rfl
    have c0 := (blk_cell HL3.out.lim 0).trans rfl
    by_cases hge : cntA sp t Es ≥ mo
    · have b1 : decide (cntA sp t Es ≥ mo) = true := decide_eq_true hge
      have HE2 : Aside0 (leftI tr mo s (Es.filter (al sp t)) = 0) := ⟨by rw [HE.out]; exact if_pos hge⟩
      clear hge HE
      refine start_ (n := 8) (S := fun w' => w'.cell? ⟨g, 1, none⟩ = some (.int .i64 mo)) (ds := []) #[false, false, false, false, false, false, false, false] (by kernel_rfl) rfl rfl (c1) (fun hHeld => ?_)
      refine pure_ (i := 0) (N := some 43) (v := ?_) (a' := ?_) #[true, false, false, false, false, false, false, false] rfl rfl (by kernel_rfl) (fun _ _ _ h => h) (Or.inl ⟨by rfl, ?_⟩) ?_ ?_
      rotate_left
      · intro w'
        go_simp
        with_reducible rfl
      rotate_left
      · simp only [Act.put, List.setIfInBounds_toArray, List.set_cons_zero, List.set_cons_succ, i64_w, i32_w]
        rfl
      refine pure_ (i := 1) (N := some 44) (v := ?_) (a' := ?_) #[true, true, false, false, false, false, false, false] rfl rfl (by kernel_rfl) (fun _ _ _ h => h) (Or.inl ⟨by rfl, ?_⟩) ?_ ?_
      rotate_left
      · intro w'
        go_simp
        with_reducible rfl
      rotate_left
      · simp only [Act.put, List.setIfInBounds_toArray, List.set_cons_zero, List.set_cons_succ, i64_w, i32_w]
        rfl
      refine pure_ (i := 3) (N := some 46) (v := ?_) (a' := ?_) #[true, true, false, true, false, false, false, false] rfl rfl (by kernel_rfl) (fun _ _ _ h => h) (Or.inl ⟨by rfl, ?_⟩) ?_ ?_
      rotate_left
      · intro w'
        go_simp
        with_reducible rfl
      rotate_left
      · simp only [Act.put, List.setIfInBounds_toArray, List.set_cons_zero, List.set_cons_succ, i64_w, i32_w]
        rfl
      refine pure_ (i := 4) (N := some 47) (v := ?_) (a' := ?_) #[true, true, false, true, true, false, false, false] rfl rfl (by kernel_rfl) (fun _ _ _ h => h) (Or.inl ⟨by rfl, ?_⟩) ?_ ?_
      rotate_left
      · intro w'
        go_simp
        with_reducible rfl
      rotate_left
      · simp only [Act.put, List.setIfInBounds_toArray, List.set_cons_zero, List.set_cons_succ, i64_w, i32_w]
        rfl
      refine pure_ (i := 5) (N := some 48) (v := ?_) (a' := ?_) #[true, true, false, true, true, true, false, false] rfl rfl (by kernel_rfl) (fun _ _ _ h => h) (Or.inl ⟨by rfl, ?_⟩) ?_ ?_
      rotate_left
      · intro w'
        go_simp
        with_reducible rfl
      rotate_left
      · simp only [Act.put, List.setIfInBounds_toArray, List.set_cons_zero, List.set_cons_succ, i64_w, i32_w]
        rfl
      refine take_ (i := 6) (N := some 49) (v := ?_) (a' := ?_) #[true, true, false, true, true, true, true, false] rfl rfl (by kernel_rfl) (fun _ _ _ h => h) (Or.inl ⟨by rfl, ?_⟩) hHeld ?_ ?_
      rotate_left
      · intro w' s0
        go_simp
        with_reducible rfl
      rotate_left
      · simp only [Act.put, List.setIfInBounds_toArray, List.set_cons_zero, List.set_cons_succ, i64_w, i32_w]
        rfl
      refine one_ (i := 2) (N := some 45) #[true, true, true, true, true, true, true, false] rfl rfl (by kernel_rfl) (by decide) (fun K hK => ?_)
      refine goes_ Try.func31 (by kernel_rfl) rfl #[.pointer (some ⟨g, 0, none⟩), .int .u64 t] (by rfl) rfl rfl (by simp only [List.map_toArray, List.map_cons, List.map_nil]; rfl) ?_
      with_reducible refine (limit_others.calls HLd.out t HT.out).mono ?_
      rintro e w5 ⟨rfl, hb5⟩
      have HK5 := Aside0.mk (below_step (below_drew1 HK3.out) hb5)
      refine ⟨_, rfl, ?_⟩
      refine hK.out _ _ (pw_cell_below hb5 hHeld) (fun hHeld => ?_)
      clear hK K
      refine norm_ (a' := ?_) ?_ ?_
      rotate_left
      · show Act.put _ (some 45) _ = _
        simp only [Act.put, List.setIfInBounds_toArray, List.set_cons_zero, List.set_cons_succ, i64_w, i32_w]
        rfl
      refine pure_ (i := 7) (N := some 50) (v := ?_) (a' := ?_) #[true, true, true, true, true, true, true, true] rfl rfl (by kernel_rfl) (fun _ _ _ h => h) (Or.inl ⟨by rfl, ?_⟩) ?_ ?_
      rotate_left
      · intro w'
        go_simp
        with_reducible rfl
      rotate_left
      · simp only [Act.put, List.setIfInBounds_toArray, List.set_cons_zero, List.set_cons_succ, i64_w, i32_w]
        rfl
      refine done_ (by kernel_rfl) ?_
      go_wp2_with fail
      go_ret
      exact ⟨by rw [HE2.out]; rfl, HK5.out⟩
    · have b1 : decide (cntA sp t Es ≥ mo) = false := decide_eq_false hge
      have HE2 : Aside0 (leftI tr mo s (Es.filter (al sp t)) = tr) := ⟨by rw [HE.out]; exact if_neg hge⟩
      clear hge HE
      refine start_ (n := 8) (S := fun w' => w'.cell? ⟨g, 1, none⟩ = some (.int .i64 mo)) (ds := []) #[false, false, false, false, false, false, false, false] (by kernel_rfl) rfl rfl (c1) (fun hHeld => ?_)
      refine pure_ (i := 0) (N := some 43) (v := ?_) (a' := ?_) #[true, false, false, false, false, false, false, false] rfl rfl (by kernel_rfl) (fun _ _ _ h => h) (Or.inl ⟨by rfl, ?_⟩) ?_ ?_
      rotate_left
      · intro w'
        go_simp
        with_reducible rfl
      rotate_left
      · simp only [Act.put, List.setIfInBounds_toArray, List.set_cons_zero, List.set_cons_succ, i64_w, i32_w]
        rfl
      refine pure_ (i := 1) (N := some 44) (v := ?_) (a' := ?_) #[true, true, false, false, false, false, false, false] rfl rfl (by kernel_rfl) (fun _ _ _ h => h) (Or.inl ⟨by rfl, ?_⟩) ?_ ?_
      rotate_left
      · intro w'
        go_simp
        with_reducible rfl
      rotate_left
      · simp only [Act.put, List.setIfInBounds_toArray, List.set_cons_zero, List.set_cons_succ, i64_w, i32_w]
        rfl
      refine pure_ (i := 3) (N := some 46) (v := ?_) (a' := ?_) #[true, true, false, true, false, false, false, false] rfl rfl (by kernel_rfl) (fun _ _ _ h => h) (Or.inl ⟨by rfl, ?_⟩) ?_ ?_
      rotate_left
      · intro w'
        go_simp
        with_reducible rfl
      rotate_left
      · simp only [Act.put, List.setIfInBounds_toArray, List.set_cons_zero, List.set_cons_succ, i64_w, i32_w]
        rfl
      refine pure_ (i := 4) (N := some 47) (v := ?_) (a' := ?_) #[true, true, false, true, true, false, false, false] rfl rfl (by kernel_rfl) (fun _ _ _ h => h) (Or.inl ⟨by rfl, ?_⟩) ?_ ?_
      rotate_left
      · intro w'
        go_simp
        with_reducible rfl
      rotate_left
      · simp only [Act.put, List.setIfInBounds_toArray, List.set_cons_zero, List.set_cons_succ, i64_w, i32_w]
        rfl
      refine pure_ (i := 5) (N := some 48) (v := ?_) (a' := ?_) #[true, true, false, true, true, true, false, false] rfl rfl (by kernel_rfl) (fun _ _ _ h => h) (Or.inl ⟨by rfl, ?_⟩) ?_ ?_
      rotate_left
      · intro w'
        go_simp
        with_reducible rfl
      rotate_left
      · simp only [Act.put, List.setIfInBounds_toArray, List.set_cons_zero, List.set_cons_succ, i64_w, i32_w]
        rfl
      refine take_ (i := 6) (N := some 49) (v := ?_) (a' := ?_) #[true, true, false, true, true, true, true, false] rfl rfl (by kernel_rfl) (fun _ _ _ h => h) (Or.inl ⟨by rfl, ?_⟩) hHeld ?_ ?_
      rotate_left
      · intro w' s0
        go_simp
        with_reducible rfl
      rotate_left
      · simp only [Act.put, List.setIfInBounds_toArray, List.set_cons_zero, List.set_cons_succ, i64_w, i32_w]
        rfl
      refine one_ (i := 2) (N := some 45) #[true, true, true, true, true, true, true, false] rfl rfl (by kernel_rfl) (by decide) (fun K hK => ?_)
      refine goes_ Try.func31 (by kernel_rfl) rfl #[.pointer (some ⟨g, 0, none⟩), .int .u64 t] (by rfl) rfl rfl (by simp only [List.map_toArray, List.map_cons, List.map_nil]; rfl) ?_
      with_reducible refine (limit_others.calls HLd.out t HT.out).mono ?_
      rintro e w5 ⟨rfl, hb5⟩
      have HK5 := Aside0.mk (below_step (below_drew1 HK3.out) hb5)
      have HL5 := Aside0.mk (HLd.out.below hb5)
      refine ⟨_, rfl, ?_⟩
      refine hK.out _ _ (pw_cell_below hb5 hHeld) (fun hHeld => ?_)
      clear hK K
      refine norm_ (a' := ?_) ?_ ?_
      rotate_left
      · show Act.put _ (some 45) _ = _
        simp only [Act.put, List.setIfInBounds_toArray, List.set_cons_zero, List.set_cons_succ, i64_w, i32_w]
        rfl
      refine pure_ (i := 7) (N := some 50) (v := ?_) (a' := ?_) #[true, true, true, true, true, true, true, true] rfl rfl (by kernel_rfl) (fun _ _ _ h => h) (Or.inl ⟨by rfl, ?_⟩) ?_ ?_
      rotate_left
      · intro w'
        go_simp
        with_reducible rfl
      rotate_left
      · simp only [Act.put, List.setIfInBounds_toArray, List.set_cons_zero, List.set_cons_succ, i64_w, i32_w]
        rfl
      refine done_ (by kernel_rfl) ?_
      have c0 := (blk_cell HL5.out.lim 0).trans rfl
      go_wp2_with fail
      go_ret
      exact ⟨by rw [HE2.out]; rfl, HK5.out⟩
end Go.Proofs.Ytgdjoochbgeokaa.Hand
namespace Go.Proofs.Ytgdjoochbgeokaa.Hand
open Go.RowKit Go.Maps Go.Proofs.YtgdjoochbgeokaaW.PrintWords Go.Proofs.YtgdjoochbgeokaaW.PrintLast Go.Proofs.YtgdjoochbgeokaaW.PrintMore Go.Proofs.Ytgdjoochbgeokaa.Q
set_option linter.unusedVariables false
set_option linter.unusedSimpArgs false
theorem wait_long {tr mo sp t : Int} {s : ByteArray} {E : List Win} (hs : (s.size : Int) > 256) : waitI tr mo sp t s E = 0 := by
  unfold waitI whyI
  rw [if_pos hs, if_neg (by decide), if_neg (by decide)]
theorem wait_spent {tr mo sp t : Int} {s : ByteArray} {E : List Win} {x : Win} (hs : ¬ (s.size : Int) > 256) (hl : look E s = some x) (hu : x.2.2 ≥ tr) : waitI tr mo sp t s E = sp - (t - x.2.1) := by
  have hw : whyI tr mo s E = 80 := by
    unfold whyI
    rw [if_neg hs, hl]
    simp only
    rw [if_pos hu]
  unfold waitI
  rw [if_pos hw, hl]
theorem wait_room {tr mo sp t : Int} {s : ByteArray} {E : List Win} {x : Win} (hs : ¬ (s.size : Int) > 256) (hl : look E s = some x) (hu : ¬ x.2.2 ≥ tr) : waitI tr mo sp t s E = 0 := by
  have hw : whyI tr mo s E = 0 := by
    unfold whyI
    rw [if_neg hs, hl]
    simp only
    rw [if_neg hu]
  unfold waitI
  rw [if_neg (by rw [hw]; decide), if_neg (by rw [hw]; decide)]
theorem wait_full {tr mo sp t : Int} {s : ByteArray} {E : List Win} (hs : ¬ (s.size : Int) > 256) (hl : look E s = none) (hm : (E.length : Int) ≥ mo) (hmo : 1 ≤ mo) : waitI tr mo sp t s E = lwOf sp t E := by
  unfold waitI whyI
  rw [if_neg hs, hl]
  simp only
  rw [if_pos hm, if_neg (by decide), if_pos rfl]
  unfold leastW
  rw [if_neg (fun e => by rw [e] at hm; simp at hm; omega)]
theorem wait_none {tr mo sp t : Int} {s : ByteArray} {E : List Win} (hs : ¬ (s.size : Int) > 256) (hl : look E s = none) (hm : ¬ (E.length : Int) ≥ mo) : waitI tr mo sp t s E = 0 := by
  unfold waitI whyI
  rw [if_neg hs, hl]
  simp only
  rw [if_neg hm, if_neg (by decide), if_neg (by decide)]
def lwA (sp t : Int) (l : List Win) : Int := lwOf sp t (l.filter (al sp t))
theorem lwA_snoc (sp t : Int) (l : List Win) (x : Win) : lwA sp t (l ++ [x]) = if al sp t x = true then min (lwA sp t l) (sp - (t - x.2.1)) else lwA sp t l := by
  unfold lwA
  rw [List.filter_append]
  by_cases h : al sp t x = true
  · rw [if_pos h, List.filter_cons_of_pos h, List.filter_nil, lw_snoc]
  · rw [if_neg h, List.filter_cons_of_neg h, List.filter_nil, List.append_nil]
theorem lwA_perm {sp t : Int} {a b : List Win} (h : a.Perm b) : lwA sp t a = lwA sp t b := lw_perm (h.filter _)
set_option maxHeartbeats 2000000 in
set_option maxRecDepth 100000 in
theorem limit_Wait.calls {w : World} {g m : Nat} {tr mo sp ck : Int} {Es : List Win} (h : LSt w g m tr mo sp ck Es) (s : ByteArray) (now : Int) (hnow : 0 ≤ now ∧ now ≤ 18446744073709551615) (t : Int) (ht : t = max now ck) :
    Calls Try.prog 17 #[.pointer (some ⟨g, 0, none⟩), .string s, .int .u64 now] w fun e w' => e = .returned (.int .u64 (waitI tr mo sp t s (Es.filter (al sp t)))) ∧ Below w.heap.size w w' := by
  have HS := Aside0.mk h
  clear h
  go_enter Try.func17, Try.ntmps17
  by_cases hlong : (s.size : Int) > 256
  · rw [wait_long hlong]
    have hl1 : (s.size : Int) > 256 := hlong
    clear hlong
    go_wp2_with fail
    go_ret
    exact ⟨rfl, Below.refl _ _⟩
  have HSZ : Aside0 ((s.size : Int) ≤ 256) := ⟨by omega⟩
  have hl1 : ¬ (s.size : Int) > 256 := hlong
  clear hlong
  go_wp2_with fail
  refine (limit_at.calls g m tr mo sp ck now w HS.out.lim).mono ?_
  rintro x w1 ⟨rfl, rfl⟩
  rw [← ht]
  have HT : Aside0 (ck ≤ t ∧ t ≤ 18446744073709551615) := ⟨by have := HS.out.ckB; omega⟩
  clear ht hl1
  obtain ⟨n, D, hO, hM⟩ := HS.out.own
  have hkey := WideMaps.keyOf_string_mk (P := Try.prog) Try.underlying9 (s := s) (by have := HSZ.out; unfold maxLen; omega)
  obtain ⟨v, ps, hlook, hv⟩ := hO.look_ok lawS Try.underlying56 (zero54 _) (winElem_mk (b := 0) (u := 0) (by decide) (by decide)) hkey
  obtain ⟨⟨b, u⟩, rfl, hvd, hb, hu⟩ := winElem_inv hv
  have hvd1 : D.atKey (ks s) (wv 0 0) = wv b u := congrArg Prod.fst hvd
  simp only at hlook hb hu
  have hview := hM.look_ HS.out.nodup s
  have c4 := (blk_cell HS.out.lim 4).trans rfl
  have HLA : Aside0 (LSt (w1.alloc (.cells #[.int .u64 b, .int .i64 u] 54)) g m tr mo sp ck Es) := ⟨HS.out.below (below_alloc (Below.refl _ _) _)⟩
  have HKA : Aside0 (Below w1.heap.size w1 (w1.alloc (.cells #[.int .u64 b, .int .i64 u] 54))) := ⟨below_alloc (Below.refl _ _) _⟩
  have HBA : Aside0 ((w1.alloc (.cells #[.int .u64 b, .int .i64 u] 54)).heap[w1.heap.size]? = some (.cells #[.int .u64 b, .int .i64 u] 54 (0, 0))) := ⟨blk_new w1 _⟩
  have d0 := (blk_cell HBA.out 0).trans rfl
  have d1 := (blk_cell HBA.out 1).trans rfl
  clear hv hvd hkey
  cases hh : Maps.has D (ks s) with
  | true =>
    have hvw : view D (ks s) = some (wv b u) := by unfold view; rw [hh, hvd1]; rfl
    rw [hvw] at hview
    cases hl : look Es s with
    | none => rw [hl] at hview; cases hview
    | some x =>
      rw [hl] at hview
      obtain ⟨hx, hxs⟩ := look_some hl
      obtain ⟨e1, e2⟩ := wv_inj (Option.some.inj hview)
      have hxe : x = (s, b, u) := by rw [e1, e2, ← hxs]
      subst hxe
      have hal : aliveB t b sp = al sp t (s, b, u) := by
        obtain ⟨b0, b1⟩ := HS.out.beg _ hx
        simp only at b0 b1
        have := HT.out
        exact aliveB_al (x := (s, b, u)) b0 (by show b ≤ t; omega) this.2
      have huse := HS.out.use _ hx
      simp only at huse
      rw [show Maps.has D (Lit.string s.data.toList) = true from hh] at hlook
      have HX := Aside0.mk hx
      have HAL := Aside0.mk hal
      have HU := Aside0.mk huse
      clear hvw hview hvd1 hh hl hx hxs e1 e2 hal huse hM
      go_wp2_with fail
      obtain ⟨B, hB⟩ : ∃ B, B = w1.heap.size := ⟨_, rfl⟩
      obtain ⟨w2, hw2⟩ : ∃ w2, w2 = w1.alloc (.cells #[.int .u64 b, .int .i64 u] 54) := ⟨_, rfl⟩
      have hBg := Aside0.mk hB
      rw [← hB, ← hw2] at HBA
      rw [← hw2] at HLA HKA
      rw [← hB, ← hw2]
      clear hw2 d0 d1 c4 hlook
      clear hB
      refine (limit_is.calls g m tr mo sp ck b u t w2 HLA.out.lim).mono ?_
      rintro x w3 ⟨rfl, hb3⟩
      have HL3 := Aside0.mk (HLA.out.below hb3)
      have HK3 := Aside0.mk (below_step HKA.out hb3)
      have HB3 := Aside0.mk (blk_below HBA.out hb3)
      clear hb3 HLA HKA HBA
      cases ha : aliveB t b sp with
      | true =>
        have hpb := HS.out.beg _ HX.out
        simp only at hpb
        have hlt : t - b < sp := by
          have h1 := HAL.out.symm.trans ha
          unfold al at h1
          simpa using h1
        have HLK : Aside0 (look (Es.filter (al sp t)) s = some (s, b, u)) := ⟨look_alive (x := (s, b, u)) HS.out.nodup HX.out (HAL.out.symm.trans ha)⟩
        have c0 := (blk_cell HL3.out.lim 0).trans rfl
        have c2 := (blk_cell HL3.out.lim 2).trans rfl
        have d1 := (blk_cell HB3.out 1).trans rfl
        have d0 := (blk_cell HB3.out 0).trans rfl
        have hT := HT.out
        have n1 : IntKind.u64.wrap (t - b) = t - b := wrapU (by omega) (by omega)
        have n2 : IntKind.u64.wrap (sp - (t - b)) = sp - (t - b) := wrapU (by omega) (by have := HS.out.spB; omega)
        clear hpb hT hlt
        by_cases hroom : u < tr
        · have b1 : decide (u < tr) = true := decide_eq_true hroom
          have HE : Aside0 (waitI tr mo sp t s (Es.filter (al sp t)) = 0) := ⟨wait_room (by have := HSZ.out; omega) HLK.out (by show ¬ u ≥ tr; omega)⟩
          clear hroom
          go_wp2_with fail
          refine start_ (n := 7) (S := fun w' => w'.cell? ⟨B, 1, none⟩ = some (.int .i64 u) ∧ w'.cell? ⟨g, 0, none⟩ = some (.int .i64 tr)) (ds := []) #[false, false, false, false, false, false, false] (by kernel_rfl) rfl rfl ⟨d1, c0⟩ (fun hHeld => ?_)
          refine pure_ (i := 0) (N := some 39) (v := ?_) (a' := ?_) #[true, false, false, false, false, false, false] rfl rfl (by kernel_rfl) (fun _ _ _ h => h) (Or.inl ⟨by rfl, ?_⟩) ?_ ?_
          rotate_left
          · intro w'
            go_simp
            with_reducible rfl
          rotate_left
          · simp only [Act.put, List.setIfInBounds_toArray, List.set_cons_zero, List.set_cons_succ, i64_w, i32_w]
            rfl
          refine pure_ (i := 2) (N := some 41) (v := ?_) (a' := ?_) #[true, false, true, false, false, false, false] rfl rfl (by kernel_rfl) (fun _ _ _ h => h) (Or.inl ⟨by rfl, ?_⟩) ?_ ?_
          rotate_left
          · intro w'
            go_simp
            with_reducible rfl
          rotate_left
          · simp only [Act.put, List.setIfInBounds_toArray, List.set_cons_zero, List.set_cons_succ, i64_w, i32_w]
            rfl
          refine pure_ (i := 3) (N := some 42) (v := ?_) (a' := ?_) #[true, false, true, true, false, false, false] rfl rfl (by kernel_rfl) (fun _ _ _ h => h) (Or.inl ⟨by rfl, ?_⟩) ?_ ?_
          rotate_left
          · intro w'
            go_simp
            with_reducible rfl
          rotate_left
          · simp only [Act.put, List.setIfInBounds_toArray, List.set_cons_zero, List.set_cons_succ, i64_w, i32_w]
            rfl
          refine pure_ (i := 4) (N := some 43) (v := ?_) (a' := ?_) #[true, false, true, true, true, false, false] rfl rfl (by kernel_rfl) (fun _ _ _ h => h) (Or.inl ⟨by rfl, ?_⟩) ?_ ?_
          rotate_left
          · intro w'
            go_simp
            with_reducible rfl
          rotate_left
          · simp only [Act.put, List.setIfInBounds_toArray, List.set_cons_zero, List.set_cons_succ, i64_w, i32_w]
            rfl
          refine take_ (i := 1) (N := some 40) (v := ?_) (a' := ?_) #[true, true, true, true, true, false, false] rfl rfl (by kernel_rfl) (fun _ _ _ h => h) (Or.inl ⟨by rfl, ?_⟩) hHeld ?_ ?_
          rotate_left
          · rintro w' ⟨s0, s1⟩
            go_simp
            with_reducible rfl
          rotate_left
          · simp only [Act.put, List.setIfInBounds_toArray, List.set_cons_zero, List.set_cons_succ, i64_w, i32_w]
            rfl
          refine take_ (i := 5) (N := some 44) (v := ?_) (a' := ?_) #[true, true, true, true, true, true, false] rfl rfl (by kernel_rfl) (fun _ _ _ h => h) (Or.inl ⟨by rfl, ?_⟩) hHeld ?_ ?_
          rotate_left
          · rintro w' ⟨s0, s1⟩
            go_simp
            with_reducible rfl
          rotate_left
          · simp only [Act.put, List.setIfInBounds_toArray, List.set_cons_zero, List.set_cons_succ, i64_w, i32_w]
            rfl
          refine pure_ (i := 6) (N := some 45) (v := ?_) (a' := ?_) #[true, true, true, true, true, true, true] rfl rfl (by kernel_rfl) (fun _ _ _ h => h) (Or.inl ⟨by rfl, ?_⟩) ?_ ?_
          rotate_left
          · intro w'
            go_simp
            with_reducible rfl
          rotate_left
          · simp only [Act.put, List.setIfInBounds_toArray, List.set_cons_zero, List.set_cons_succ, i64_w, i32_w]
            rfl
          refine done_ (by kernel_rfl) ?_
          go_wp2_with fail
          go_ret
          exact ⟨by rw [HE.out]; rfl, below_drew1 HK3.out⟩
        · have b1 : decide (u < tr) = false := decide_eq_false hroom
          have HE : Aside0 (waitI tr mo sp t s (Es.filter (al sp t)) = sp - (t - b)) := ⟨wait_spent (by have := HSZ.out; omega) HLK.out (by show u ≥ tr; omega)⟩
          clear hroom
          go_wp2_with fail
          refine start_ (n := 7) (S := fun w' => w'.cell? ⟨B, 1, none⟩ = some (.int .i64 u) ∧ w'.cell? ⟨g, 0, none⟩ = some (.int .i64 tr)) (ds := []) #[false, false, false, false, false, false, false] (by kernel_rfl) rfl rfl ⟨d1, c0⟩ (fun hHeld => ?_)
          refine pure_ (i := 0) (N := some 39) (v := ?_) (a' := ?_) #[true, false, false, false, false, false, false] rfl rfl (by kernel_rfl) (fun _ _ _ h => h) (Or.inl ⟨by rfl, ?_⟩) ?_ ?_
          rotate_left
          · intro w'
            go_simp
            with_reducible rfl
          rotate_left
          · simp only [Act.put, List.setIfInBounds_toArray, List.set_cons_zero, List.set_cons_succ, i64_w, i32_w]
            rfl
          refine pure_ (i := 2) (N := some 41) (v := ?_) (a' := ?_) #[true, false, true, false, false, false, false] rfl rfl (by kernel_rfl) (fun _ _ _ h => h) (Or.inl ⟨by rfl, ?_⟩) ?_ ?_
          rotate_left
          · intro w'
            go_simp
            with_reducible rfl
          rotate_left
          · simp only [Act.put, List.setIfInBounds_toArray, List.set_cons_zero, List.set_cons_succ, i64_w, i32_w]
            rfl
          refine pure_ (i := 3) (N := some 42) (v := ?_) (a' := ?_) #[true, false, true, true, false, false, false] rfl rfl (by kernel_rfl) (fun _ _ _ h => h) (Or.inl ⟨by rfl, ?_⟩) ?_ ?_
          rotate_left
          · intro w'
            go_simp
            with_reducible rfl
          rotate_left
          · simp only [Act.put, List.setIfInBounds_toArray, List.set_cons_zero, List.set_cons_succ, i64_w, i32_w]
            rfl
          refine pure_ (i := 4) (N := some 43) (v := ?_) (a' := ?_) #[true, false, true, true, true, false, false] rfl rfl (by kernel_rfl) (fun _ _ _ h => h) (Or.inl ⟨by rfl, ?_⟩) ?_ ?_
          rotate_left
          · intro w'
            go_simp
            with_reducible rfl
          rotate_left
          · simp only [Act.put, List.setIfInBounds_toArray, List.set_cons_zero, List.set_cons_succ, i64_w, i32_w]
            rfl
          refine take_ (i := 1) (N := some 40) (v := ?_) (a' := ?_) #[true, true, true, true, true, false, false] rfl rfl (by kernel_rfl) (fun _ _ _ h => h) (Or.inl ⟨by rfl, ?_⟩) hHeld ?_ ?_
          rotate_left
          · rintro w' ⟨s0, s1⟩
            go_simp
            with_reducible rfl
          rotate_left
          · simp only [Act.put, List.setIfInBounds_toArray, List.set_cons_zero, List.set_cons_succ, i64_w, i32_w]
            rfl
          refine take_ (i := 5) (N := some 44) (v := ?_) (a' := ?_) #[true, true, true, true, true, true, false] rfl rfl (by kernel_rfl) (fun _ _ _ h => h) (Or.inl ⟨by rfl, ?_⟩) hHeld ?_ ?_
          rotate_left
          · rintro w' ⟨s0, s1⟩
            go_simp
            with_reducible rfl
          rotate_left
          · simp only [Act.put, List.setIfInBounds_toArray, List.set_cons_zero, List.set_cons_succ, i64_w, i32_w]
            rfl
          refine pure_ (i := 6) (N := some 45) (v := ?_) (a' := ?_) #[true, true, true, true, true, true, true] rfl rfl (by kernel_rfl) (fun _ _ _ h => h) (Or.inl ⟨by rfl, ?_⟩) ?_ ?_
          rotate_left
          · intro w'
            go_simp
            with_reducible rfl
          rotate_left
          · simp only [Act.put, List.setIfInBounds_toArray, List.set_cons_zero, List.set_cons_succ, i64_w, i32_w]
            rfl
          refine done_ (by kernel_rfl) ?_
          go_wp2_with fail
          refine start_ (n := 10) (S := fun w' => w'.cell? ⟨g, 2, none⟩ = some (.int .u64 sp) ∧ w'.cell? ⟨B, 0, none⟩ = some (.int .u64 b)) (ds := []) #[false, false, false, false, false, false, false, false, false, false] (by kernel_rfl) rfl rfl ⟨c2, d0⟩ (fun hHeld => ?_)
          refine pure_ (i := 0) (N := some 46) (v := ?_) (a' := ?_) #[true, false, false, false, false, false, false, false, false, false] rfl rfl (by kernel_rfl) (fun _ _ _ h => h) (Or.inl ⟨by rfl, ?_⟩) ?_ ?_
          rotate_left
          · intro w'
            go_simp
            with_reducible rfl
          rotate_left
          · simp only [Act.put, List.setIfInBounds_toArray, List.set_cons_zero, List.set_cons_succ, i64_w, i32_w]
            rfl
          refine pure_ (i := 1) (N := some 47) (v := ?_) (a' := ?_) #[true, true, false, false, false, false, false, false, false, false] rfl rfl (by kernel_rfl) (fun _ _ _ h => h) (Or.inl ⟨by rfl, ?_⟩) ?_ ?_
          rotate_left
          · intro w'
            go_simp
            with_reducible rfl
          rotate_left
          · simp only [Act.put, List.setIfInBounds_toArray, List.set_cons_zero, List.set_cons_succ, i64_w, i32_w]
            rfl
          refine pure_ (i := 2) (N := some 48) (v := ?_) (a' := ?_) #[true, true, true, false, false, false, false, false, false, false] rfl rfl (by kernel_rfl) (fun _ _ _ h => h) (Or.inl ⟨by rfl, ?_⟩) ?_ ?_
          rotate_left
          · intro w'
            go_simp
            with_reducible rfl
          rotate_left
          · simp only [Act.put, List.setIfInBounds_toArray, List.set_cons_zero, List.set_cons_succ, i64_w, i32_w]
            rfl
          refine pure_ (i := 4) (N := some 50) (v := ?_) (a' := ?_) #[true, true, true, false, true, false, false, false, false, false] rfl rfl (by kernel_rfl) (fun _ _ _ h => h) (Or.inl ⟨by rfl, ?_⟩) ?_ ?_
          rotate_left
          · intro w'
            go_simp
            with_reducible rfl
          rotate_left
          · simp only [Act.put, List.setIfInBounds_toArray, List.set_cons_zero, List.set_cons_succ, i64_w, i32_w]
            rfl
          refine pure_ (i := 5) (N := some 51) (v := ?_) (a' := ?_) #[true, true, true, false, true, true, false, false, false, false] rfl rfl (by kernel_rfl) (fun _ _ _ h => h) (Or.inl ⟨by rfl, ?_⟩) ?_ ?_
          rotate_left
          · intro w'
            go_simp
            with_reducible rfl
          rotate_left
          · simp only [Act.put, List.setIfInBounds_toArray, List.set_cons_zero, List.set_cons_succ, i64_w, i32_w]
            rfl
          refine take_ (i := 3) (N := some 49) (v := ?_) (a' := ?_) #[true, true, true, true, true, true, false, false, false, false] rfl rfl (by kernel_rfl) (fun _ _ _ h => h) (Or.inl ⟨by rfl, ?_⟩) hHeld ?_ ?_
          rotate_left
          · rintro w' ⟨s0, s1⟩
            go_simp
            with_reducible rfl
          rotate_left
          · simp only [Act.put, List.setIfInBounds_toArray, List.set_cons_zero, List.set_cons_succ, i64_w, i32_w]
            rfl
          refine take_ (i := 6) (N := some 52) (v := ?_) (a' := ?_) #[true, true, true, true, true, true, true, false, false, false] rfl rfl (by kernel_rfl) (fun _ _ _ h => h) (Or.inl ⟨by rfl, ?_⟩) hHeld ?_ ?_
          rotate_left
          · rintro w' ⟨s0, s1⟩
            go_simp
            with_reducible rfl
          rotate_left
          · simp only [Act.put, List.setIfInBounds_toArray, List.set_cons_zero, List.set_cons_succ, i64_w, i32_w]
            rfl
          refine pure_ (i := 7) (N := some 53) (v := ?_) (a' := ?_) #[true, true, true, true, true, true, true, true, false, false] rfl rfl (by kernel_rfl) (fun _ _ _ h => h) (Or.inl ⟨by rfl, ?_⟩) ?_ ?_
          rotate_left
          · intro w'
            go_simp
            with_reducible rfl
          rotate_left
          · simp only [Act.put, List.setIfInBounds_toArray, List.set_cons_zero, List.set_cons_succ, i64_w, i32_w]
            rfl
          refine pure_ (i := 8) (N := some 54) (v := ?_) (a' := ?_) #[true, true, true, true, true, true, true, true, true, false] rfl rfl (by kernel_rfl) (fun _ _ _ h => h) (Or.inl ⟨by rfl, ?_⟩) ?_ ?_
          rotate_left
          · intro w'
            go_simp
            with_reducible rfl
          rotate_left
          · simp only [Act.put, List.setIfInBounds_toArray, List.set_cons_zero, List.set_cons_succ, i64_w, i32_w]
            rfl
          refine pure_ (i := 9) (N := some 6) (v := ?_) (a' := ?_) #[true, true, true, true, true, true, true, true, true, true] rfl rfl (by kernel_rfl) (fun _ _ _ h => h) (Or.inl ⟨by rfl, ?_⟩) ?_ ?_
          rotate_left
          · intro w'
            go_simp
            with_reducible rfl
          rotate_left
          · simp only [Act.put, List.setIfInBounds_toArray, List.set_cons_zero, List.set_cons_succ, i64_w, i32_w]
            rfl
          refine done_ (by kernel_rfl) ?_
          go_wp2_with fail
          go_ret
          exact ⟨by rw [HE.out]; rfl, below_drew1 (below_drew1 HK3.out)⟩
      | false =>
        have HNO : Aside0 (look (Es.filter (al sp t)) s = none) := ⟨look_over (x := (s, b, u)) HS.out.nodup HX.out (HAL.out.symm.trans ha)⟩
        clear HB3 HX HAL HU
        go_wp2_with fail
        have HLd : Aside0 (LSt w3.drew g m tr mo sp ck Es) := ⟨HL3.out.below (below_drew1 (Below.refl _ _))⟩
        have c1 := (blk_cell HL3.out.lim 1).trans rfl
        by_cases hge : cntA sp t Es < mo
        · have b1 : decide (cntA sp t Es < mo) = true := decide_eq_true hge
          have HE2 : Aside0 (waitI tr mo sp t s (Es.filter (al sp t)) = 0) := ⟨wait_none (by have := HSZ.out; omega) HNO.out (by unfold cntA at hge; omega)⟩
          clear hge
          refine start_ (n := 8) (S := fun w' => w'.cell? ⟨g, 1, none⟩ = some (.int .i64 mo)) (ds := []) #[false, false, false, false, false, false, false, false] (by kernel_rfl) rfl rfl (c1) (fun hHeld => ?_)
          refine pure_ (i := 0) (N := some 55) (v := ?_) (a' := ?_) #[true, false, false, false, false, false, false, false] rfl rfl (by kernel_rfl) (fun _ _ _ h => h) (Or.inl ⟨by rfl, ?_⟩) ?_ ?_
          rotate_left
          · intro w'
            go_simp
            with_reducible rfl
          rotate_left
          · simp only [Act.put, List.setIfInBounds_toArray, List.set_cons_zero, List.set_cons_succ, i64_w, i32_w]
            rfl
          refine pure_ (i := 1) (N := some 56) (v := ?_) (a' := ?_) #[true, true, false, false, false, false, false, false] rfl rfl (by kernel_rfl) (fun _ _ _ h => h) (Or.inl ⟨by rfl, ?_⟩) ?_ ?_
          rotate_left
          · intro w'
            go_simp
            with_reducible rfl
          rotate_left
          · simp only [Act.put, List.setIfInBounds_toArray, List.set_cons_zero, List.set_cons_succ, i64_w, i32_w]
            rfl
          refine pure_ (i := 3) (N := some 58) (v := ?_) (a' := ?_) #[true, true, false, true, false, false, false, false] rfl rfl (by kernel_rfl) (fun _ _ _ h => h) (Or.inl ⟨by rfl, ?_⟩) ?_ ?_
          rotate_left
          · intro w'
            go_simp
            with_reducible rfl
          rotate_left
          · simp only [Act.put, List.setIfInBounds_toArray, List.set_cons_zero, List.set_cons_succ, i64_w, i32_w]
            rfl
          refine pure_ (i := 4) (N := some 59) (v := ?_) (a' := ?_) #[true, true, false, true, true, false, false, false] rfl rfl (by kernel_rfl) (fun _ _ _ h => h) (Or.inl ⟨by rfl, ?_⟩) ?_ ?_
          rotate_left
          · intro w'
            go_simp
            with_reducible rfl
          rotate_left
          · simp only [Act.put, List.setIfInBounds_toArray, List.set_cons_zero, List.set_cons_succ, i64_w, i32_w]
            rfl
          refine pure_ (i := 5) (N := some 60) (v := ?_) (a' := ?_) #[true, true, false, true, true, true, false, false] rfl rfl (by kernel_rfl) (fun _ _ _ h => h) (Or.inl ⟨by rfl, ?_⟩) ?_ ?_
          rotate_left
          · intro w'
            go_simp
            with_reducible rfl
          rotate_left
          · simp only [Act.put, List.setIfInBounds_toArray, List.set_cons_zero, List.set_cons_succ, i64_w, i32_w]
            rfl
          refine take_ (i := 6) (N := some 61) (v := ?_) (a' := ?_) #[true, true, false, true, true, true, true, false] rfl rfl (by kernel_rfl) (fun _ _ _ h => h) (Or.inl ⟨by rfl, ?_⟩) hHeld ?_ ?_
          rotate_left
          · intro w' s0
            go_simp
            with_reducible rfl
          rotate_left
          · simp only [Act.put, List.setIfInBounds_toArray, List.set_cons_zero, List.set_cons_succ, i64_w, i32_w]
            rfl
          refine one_ (i := 2) (N := some 57) #[true, true, true, true, true, true, true, false] rfl rfl (by kernel_rfl) (by decide) (fun K hK => ?_)
          refine goes_ Try.func31 (by kernel_rfl) rfl #[.pointer (some ⟨g, 0, none⟩), .int .u64 t] (by rfl) rfl rfl (by simp only [List.map_toArray, List.map_cons, List.map_nil]; rfl) ?_
          with_reducible refine (limit_others.calls HLd.out t HT.out).mono ?_
          rintro e w5 ⟨rfl, hb5⟩
          have HK5 := Aside0.mk (below_step (below_drew1 HK3.out) hb5)
          refine ⟨_, rfl, ?_⟩
          refine hK.out _ _ (pw_cell_below hb5 hHeld) (fun hHeld => ?_)
          clear hK K
          refine norm_ (a' := ?_) ?_ ?_
          rotate_left
          · show Act.put _ (some 57) _ = _
            simp only [Act.put, List.setIfInBounds_toArray, List.set_cons_zero, List.set_cons_succ, i64_w, i32_w]
            rfl
          refine pure_ (i := 7) (N := some 62) (v := ?_) (a' := ?_) #[true, true, true, true, true, true, true, true] rfl rfl (by kernel_rfl) (fun _ _ _ h => h) (Or.inl ⟨by rfl, ?_⟩) ?_ ?_
          rotate_left
          · intro w'
            go_simp
            with_reducible rfl
          rotate_left
          · simp only [Act.put, List.setIfInBounds_toArray, List.set_cons_zero, List.set_cons_succ, i64_w, i32_w]
            rfl
          refine done_ (by kernel_rfl) ?_
          go_wp2_with fail
          go_ret
          exact ⟨by rw [HE2.out]; rfl, HK5.out⟩
        · have b1 : decide (cntA sp t Es < mo) = false := decide_eq_false hge
          have HE2 : Aside0 (waitI tr mo sp t s (Es.filter (al sp t)) = lwA sp t Es) := ⟨wait_full (by have := HSZ.out; omega) HNO.out (by unfold cntA at hge; omega) HS.out.moB.1⟩
          clear hge
          refine start_ (n := 8) (S := fun w' => w'.cell? ⟨g, 1, none⟩ = some (.int .i64 mo)) (ds := []) #[false, false, false, false, false, false, false, false] (by kernel_rfl) rfl rfl (c1) (fun hHeld => ?_)
          refine pure_ (i := 0) (N := some 55) (v := ?_) (a' := ?_) #[true, false, false, false, false, false, false, false] rfl rfl (by kernel_rfl) (fun _ _ _ h => h) (Or.inl ⟨by rfl, ?_⟩) ?_ ?_
          rotate_left
          · intro w'
            go_simp
            with_reducible rfl
          rotate_left
          · simp only [Act.put, List.setIfInBounds_toArray, List.set_cons_zero, List.set_cons_succ, i64_w, i32_w]
            rfl
          refine pure_ (i := 1) (N := some 56) (v := ?_) (a' := ?_) #[true, true, false, false, false, false, false, false] rfl rfl (by kernel_rfl) (fun _ _ _ h => h) (Or.inl ⟨by rfl, ?_⟩) ?_ ?_
          rotate_left
          · intro w'
            go_simp
            with_reducible rfl
          rotate_left
          · simp only [Act.put, List.setIfInBounds_toArray, List.set_cons_zero, List.set_cons_succ, i64_w, i32_w]
            rfl
          refine pure_ (i := 3) (N := some 58) (v := ?_) (a' := ?_) #[true, true, false, true, false, false, false, false] rfl rfl (by kernel_rfl) (fun _ _ _ h => h) (Or.inl ⟨by rfl, ?_⟩) ?_ ?_
          rotate_left
          · intro w'
            go_simp
            with_reducible rfl
          rotate_left
          · simp only [Act.put, List.setIfInBounds_toArray, List.set_cons_zero, List.set_cons_succ, i64_w, i32_w]
            rfl
          refine pure_ (i := 4) (N := some 59) (v := ?_) (a' := ?_) #[true, true, false, true, true, false, false, false] rfl rfl (by kernel_rfl) (fun _ _ _ h => h) (Or.inl ⟨by rfl, ?_⟩) ?_ ?_
          rotate_left
          · intro w'
            go_simp
            with_reducible rfl
          rotate_left
          · simp only [Act.put, List.setIfInBounds_toArray, List.set_cons_zero, List.set_cons_succ, i64_w, i32_w]
            rfl
          refine pure_ (i := 5) (N := some 60) (v := ?_) (a' := ?_) #[true, true, false, true, true, true, false, false] rfl rfl (by kernel_rfl) (fun _ _ _ h => h) (Or.inl ⟨by rfl, ?_⟩) ?_ ?_
          rotate_left
          · intro w'
            go_simp
            with_reducible rfl
          rotate_left
          · simp only [Act.put, List.setIfInBounds_toArray, List.set_cons_zero, List.set_cons_succ, i64_w, i32_w]
            rfl
          refine take_ (i := 6) (N := some 61) (v := ?_) (a' := ?_) #[true, true, false, true, true, true, true, false] rfl rfl (by kernel_rfl) (fun _ _ _ h => h) (Or.inl ⟨by rfl, ?_⟩) hHeld ?_ ?_
          rotate_left
          · intro w' s0
            go_simp
            with_reducible rfl
          rotate_left
          · simp only [Act.put, List.setIfInBounds_toArray, List.set_cons_zero, List.set_cons_succ, i64_w, i32_w]
            rfl
          refine one_ (i := 2) (N := some 57) #[true, true, true, true, true, true, true, false] rfl rfl (by kernel_rfl) (by decide) (fun K hK => ?_)
          refine goes_ Try.func31 (by kernel_rfl) rfl #[.pointer (some ⟨g, 0, none⟩), .int .u64 t] (by rfl) rfl rfl (by simp only [List.map_toArray, List.map_cons, List.map_nil]; rfl) ?_
          with_reducible refine (limit_others.calls HLd.out t HT.out).mono ?_
          rintro e w5 ⟨rfl, hb5⟩
          have HK5 := Aside0.mk (below_step (below_drew1 HK3.out) hb5)
          have HL5 := Aside0.mk (HLd.out.below hb5)
          refine ⟨_, rfl, ?_⟩
          refine hK.out _ _ (pw_cell_below hb5 hHeld) (fun hHeld => ?_)
          clear hK K
          refine norm_ (a' := ?_) ?_ ?_
          rotate_left
          · show Act.put _ (some 57) _ = _
            simp only [Act.put, List.setIfInBounds_toArray, List.set_cons_zero, List.set_cons_succ, i64_w, i32_w]
            rfl
          refine pure_ (i := 7) (N := some 62) (v := ?_) (a' := ?_) #[true, true, true, true, true, true, true, true] rfl rfl (by kernel_rfl) (fun _ _ _ h => h) (Or.inl ⟨by rfl, ?_⟩) ?_ ?_
          rotate_left
          · intro w'
            go_simp
            with_reducible rfl
          rotate_left
          · simp only [Act.put, List.setIfInBounds_toArray, List.set_cons_zero, List.set_cons_succ, i64_w, i32_w]
            rfl
          refine done_ (by kernel_rfl) ?_
          clear c1 HL3 HK3 HLd b1
          have HOW := Aside0.mk HL5.out.own
          obtain ⟨n5, D5, hO5, hM5⟩ := HOW.out
          have HM5 := Aside0.mk hM5
          have HC0 : Aside0 (CameW Es (Maps.has D5) []) := ⟨CameW.start hM5⟩
          have HO5 := Aside0.mk hO5
          have c4 := (blk_cell HL5.out.lim 4).trans rfl
          have c2 := (blk_cell HL5.out.lim 2).trans rfl
          clear hO5 hM5 HOW
          go_wp2_with (first
            | (at_range; refine wpList_range_own _ rfl _ 56 rfl 9 54 lawS Try.underlying56 winElem m n5 D5 rfl HO5.out ?_; intro w6 hrg0 hg0 hs0; have HR0 := Aside0.mk hrg0; have HK0 : Aside0 (Below w5.heap.size w5 w6) := ⟨⟨hg0.os, hg0.tape, hg0.output, hg0.size, fun k hk => hg0.block k hk (by simp)⟩⟩; clear hrg0 hg0 hs0)
            | go_in)
          go_frame
          clear c4 c2
          obtain ⟨r, hr⟩ : ∃ r, r = w5.heap.size := ⟨_, rfl⟩
          have HSR := Aside0.mk hr
          rw [← hr] at HR0 ⊢
          clear hr
          go_loopw [10] (fun v10 wr => ∃ (cn : Int) (left : Lit → Bool) (cnt : Nat), v10 = .int .u64 cn ∧ Aside0 (wr.ranges Try.prog 9 winElem m r n5 D5 left cnt) ∧ Aside0 (∃ Xs, CameW Es left Xs ∧ cn = lwA sp t Xs) ∧ Aside0 (Below w5.heap.size w5 wr)) (fun _ wr => wr.rangeLeft m r)
          case atStart => exact ⟨sp, _, _, rfl, HR0, ⟨[], HC0.out, rfl⟩, HK0⟩
          case round =>
            clear HR0 HC0 HK0
            obtain ⟨cn, left, cnt, rfl, HR, HX, HK⟩ := hrel
            rcases HR.out.next lawS 0 with ⟨h0, hl0, hrun⟩ | ⟨key, v, kl, y, w3, cnt3, hkey, hlk, hv, hat, hrun, hrg1, hlt, hg1, hs1, hen⟩
            · have HE3 : Aside0 (waitI tr mo sp t s (Es.filter (al sp t)) = cn) := ⟨by obtain ⟨Xs, h1, h2⟩ := HX.out; rw [HE2.out, h2]; exact (lwA_perm (h1.fin hl0)).symm⟩
              go_wp2_with fail
              go_ret
              exact ⟨by rw [HE3.out]; rfl, below_step HK5.out HK.out⟩
            · obtain ⟨s', rfl, rfl, hsz2⟩ := Go.WideMaps.string_of_keyOf Try.underlying9 hkey
              obtain ⟨p, rfl, rfl, hp1, hp2⟩ := winElem_inv hv
              obtain ⟨pb, pu⟩ := p
              simp only at hat hrun hen hp1 hp2
              have HR3 := Aside0.mk hrg1
              have HLT := Aside0.mk hlt
              have HK3 : Aside0 (Below w5.heap.size w5 w3) := ⟨⟨hg1.os.trans HK.out.os, hg1.tape.trans HK.out.tape, hg1.output.trans HK.out.output, Nat.le_trans HK.out.size hg1.size, fun k hk => (hg1.block k (Nat.lt_of_lt_of_le hk HK.out.size) (fun e => by injection e with e; have := HSR.out; omega)).trans (HK.out.block k hk)⟩⟩
              obtain ⟨Xs, hx1, hx2⟩ := HX.out
              obtain ⟨hx3, hx4⟩ := CameW.entry HM5.out HL5.out.nodup hx1 hlk (view_some hat)
              obtain ⟨b0, b1⟩ := HL5.out.beg _ hx4
              simp only at b0 b1
              have hal : aliveB t pb sp = al sp t (s', pb, pu) := by
                have := HT.out
                exact aliveB_al (x := (s', pb, pu)) b0 (by show pb ≤ t; omega) this.2
              have HPB : Aside0 (0 ≤ pb ∧ pb ≤ ck ∧ (aliveB t pb sp = true → t - pb < sp)) := ⟨b0, b1, fun ha => by rw [hal] at ha; unfold al at ha; simpa using ha⟩
              have HX3 : Aside0 (∃ Xs, CameW Es (fun z => left z && !z.sameKey (ks s')) Xs ∧ (if aliveB t pb sp = true then min cn (sp - (t - pb)) else cn) = lwA sp t Xs) := ⟨_, hx3, by rw [lwA_snoc, hal, hx2]⟩
              clear hrg1 hlt hat hlk hkey hv hg1 hs1 HX HK hx1 hx2 hx3 hx4 hal b0 b1
              have HL4 : Aside0 (LSt (w3.alloc (.cells #[.int .u64 pb, .int .i64 pu] 54)) g m tr mo sp ck Es) := ⟨HL5.out.below (below_alloc HK3.out _)⟩
              have HR4 := Aside0.mk (HR3.out.alloc (.cells #[.int .u64 pb, .int .i64 pu] 54))
              have HK4 : Aside0 (Below w5.heap.size w5 (w3.alloc (.cells #[.int .u64 pb, .int .i64 pu] 54))) := ⟨below_alloc HK3.out _⟩
              have HB4 := Aside0.mk (blk_new w3 (.cells #[.int .u64 pb, .int .i64 pu] 54 (0, 0)))
              have d0 := (blk_cell HB4.out 0).trans rfl
              have d1 := (blk_cell HB4.out 1).trans rfl
              clear HK3 HR3
              go_wp2_with fail
              obtain ⟨B4, hB4⟩ : ∃ B4, B4 = w3.heap.size := ⟨_, rfl⟩
              obtain ⟨w4, hw4⟩ : ∃ w4, w4 = w3.alloc (.cells #[.int .u64 pb, .int .i64 pu] 54) := ⟨_, rfl⟩
              rw [← hw4] at HL4 HR4 HK4
              rw [← hB4, ← hw4] at HB4
              rw [← hB4, ← hw4]
              clear d0 d1 hw4 hB4
              refine (limit_is.calls g m tr mo sp ck pb pu t w4 HL4.out.lim).mono ?_
              rintro x w7 ⟨rfl, hb7⟩
              have HR7 := Aside0.mk (ranges_below HR4.out hb7)
              have HK7 : Aside0 (Below w5.heap.size w5 w7) := ⟨below_step HK4.out hb7⟩
              have HB7 := Aside0.mk (blk_below HB4.out hb7)
              have HL7 := Aside0.mk (HL4.out.below hb7)
              clear hb7 HL4 HR4 HK4 HB4
              cases ha : aliveB t pb sp with
              | true =>
                rw [ha, if_pos rfl] at HX3
                have hpb := HPB.out
                have hT := HT.out
                have n1 : IntKind.u64.wrap (t - pb) = t - pb := wrapU (by omega) (by omega)
                have n2 : IntKind.u64.wrap (sp - (t - pb)) = sp - (t - pb) := wrapU (by have := hpb.2.2 ha; omega) (by have := hpb.2.2 ha; have := HL7.out.spB; omega)
                have c2 := (blk_cell HL7.out.lim 2).trans rfl
                have d0 := (blk_cell HB7.out 0).trans rfl
                have HN1 := Aside0.mk n1
                have HN2 := Aside0.mk n2
                clear hpb hT
                go_wp2_with fail
                refine start_ (n := 12) (S := fun w' => w'.cell? ⟨g, 2, none⟩ = some (.int .u64 sp) ∧ w'.cell? ⟨B4, 0, none⟩ = some (.int .u64 pb)) (ds := []) #[false, false, false, false, false, false, false, false, false, false, false, false] (by kernel_rfl) rfl rfl ⟨c2, d0⟩ (fun hHeld => ?_)
                refine pure_ (i := 0) (N := some 80) (v := ?_) (a' := ?_) #[true, false, false, false, false, false, false, false, false, false, false, false] rfl rfl (by kernel_rfl) (fun _ _ _ h => h) (Or.inl ⟨by rfl, ?_⟩) ?_ ?_
                rotate_left
                · intro w'
                  go_simp
                  with_reducible rfl
                rotate_left
                · simp only [Act.put, List.setIfInBounds_toArray, List.set_cons_zero, List.set_cons_succ, i64_w, i32_w]
                  rfl
                refine pure_ (i := 1) (N := some 81) (v := ?_) (a' := ?_) #[true, true, false, false, false, false, false, false, false, false, false, false] rfl rfl (by kernel_rfl) (fun _ _ _ h => h) (Or.inl ⟨by rfl, ?_⟩) ?_ ?_
                rotate_left
                · intro w'
                  go_simp
                  with_reducible rfl
                rotate_left
                · simp only [Act.put, List.setIfInBounds_toArray, List.set_cons_zero, List.set_cons_succ, i64_w, i32_w]
                  rfl
                refine pure_ (i := 2) (N := some 82) (v := ?_) (a' := ?_) #[true, true, true, false, false, false, false, false, false, false, false, false] rfl rfl (by kernel_rfl) (fun _ _ _ h => h) (Or.inl ⟨by rfl, ?_⟩) ?_ ?_
                rotate_left
                · intro w'
                  go_simp
                  with_reducible rfl
                rotate_left
                · simp only [Act.put, List.setIfInBounds_toArray, List.set_cons_zero, List.set_cons_succ, i64_w, i32_w]
                  rfl
                refine pure_ (i := 3) (N := some 83) (v := ?_) (a' := ?_) #[true, true, true, true, false, false, false, false, false, false, false, false] rfl rfl (by kernel_rfl) (fun _ _ _ h => h) (Or.inl ⟨by rfl, ?_⟩) ?_ ?_
                rotate_left
                · intro w'
                  go_simp
                  with_reducible rfl
                rotate_left
                · simp only [Act.put, List.setIfInBounds_toArray, List.set_cons_zero, List.set_cons_succ, i64_w, i32_w]
                  rfl
                refine pure_ (i := 5) (N := some 85) (v := ?_) (a' := ?_) #[true, true, true, true, false, true, false, false, false, false, false, false] rfl rfl (by kernel_rfl) (fun _ _ _ h => h) (Or.inl ⟨by rfl, ?_⟩) ?_ ?_
                rotate_left
                · intro w'
                  go_simp
                  with_reducible rfl
                rotate_left
                · simp only [Act.put, List.setIfInBounds_toArray, List.set_cons_zero, List.set_cons_succ, i64_w, i32_w]
                  rfl
                refine pure_ (i := 6) (N := some 86) (v := ?_) (a' := ?_) #[true, true, true, true, false, true, true, false, false, false, false, false] rfl rfl (by kernel_rfl) (fun _ _ _ h => h) (Or.inl ⟨by rfl, ?_⟩) ?_ ?_
                rotate_left
                · intro w'
                  go_simp
                  with_reducible rfl
                rotate_left
                · simp only [Act.put, List.setIfInBounds_toArray, List.set_cons_zero, List.set_cons_succ, i64_w, i32_w]
                  rfl
                refine take_ (i := 4) (N := some 84) (v := ?_) (a' := ?_) #[true, true, true, true, true, true, true, false, false, false, false, false] rfl rfl (by kernel_rfl) (fun _ _ _ h => h) (Or.inl ⟨by rfl, ?_⟩) hHeld ?_ ?_
                rotate_left
                · rintro w' ⟨s0, s1⟩
                  go_simp
                  with_reducible rfl
                rotate_left
                · simp only [Act.put, List.setIfInBounds_toArray, List.set_cons_zero, List.set_cons_succ, i64_w, i32_w]
                  rfl
                refine take_ (i := 7) (N := some 87) (v := ?_) (a' := ?_) #[true, true, true, true, true, true, true, true, false, false, false, false] rfl rfl (by kernel_rfl) (fun _ _ _ h => h) (Or.inl ⟨by rfl, ?_⟩) hHeld ?_ ?_
                rotate_left
                · rintro w' ⟨s0, s1⟩
                  go_simp
                  with_reducible rfl
                rotate_left
                · simp only [Act.put, List.setIfInBounds_toArray, List.set_cons_zero, List.set_cons_succ, i64_w, i32_w]
                  rfl
                refine pure_ (i := 8) (N := some 88) (v := ?_) (a' := ?_) #[true, true, true, true, true, true, true, true, true, false, false, false] rfl rfl (by kernel_rfl) (fun _ _ _ h => h) (Or.inl ⟨by rfl, ?_⟩) ?_ ?_
                rotate_left
                · intro w'
                  go_simp
                  with_reducible rfl
                rotate_left
                · simp only [Act.put, List.setIfInBounds_toArray, List.set_cons_zero, List.set_cons_succ, i64_w, i32_w]
                  rfl
                refine pure_ (i := 9) (N := some 89) (v := ?_) (a' := ?_) #[true, true, true, true, true, true, true, true, true, true, false, false] rfl rfl (by kernel_rfl) (fun _ _ _ h => h) (Or.inl ⟨by rfl, ?_⟩) ?_ ?_
                rotate_left
                · intro w'
                  go_simp
                  with_reducible rfl
                rotate_left
                · simp only [Act.put, List.setIfInBounds_toArray, List.set_cons_zero, List.set_cons_succ, i64_w, i32_w]
                  rfl
                refine pure_ (i := 10) (N := some 90) (v := ?_) (a' := ?_) #[true, true, true, true, true, true, true, true, true, true, true, false] rfl rfl (by kernel_rfl) (fun _ _ _ h => h) (Or.inl ⟨by rfl, ?_⟩) ?_ ?_
                rotate_left
                · intro w'
                  go_simp
                  with_reducible rfl
                rotate_left
                · simp only [Act.put, List.setIfInBounds_toArray, List.set_cons_zero, List.set_cons_succ, i64_w, i32_w]
                  rfl
                refine pure_ (i := 11) (N := some 10) (v := ?_) (a' := ?_) #[true, true, true, true, true, true, true, true, true, true, true, true] rfl rfl (by kernel_rfl) (fun _ _ _ h => h) (Or.inl ⟨by rfl, ?_⟩) ?_ ?_
                rotate_left
                · intro w'
                  go_simp
                  with_reducible rfl
                rotate_left
                · simp only [Act.put, List.setIfInBounds_toArray, List.set_cons_zero, List.set_cons_succ, i64_w, i32_w]
                  rfl
                refine done_ (by kernel_rfl) ?_
                go_wp2_with fail
                go_roundw
                case rel => exact ⟨_, _, cnt3, rfl, ⟨ranges_below HR7.out (below_drew1 (Below.refl _ _))⟩, by first | exact HX3 | (rw [HN1.out, HN2.out]; exact HX3), ⟨below_drew1 HK7.out⟩⟩
                case measure => rw [(ranges_below HR7.out (below_drew1 (Below.refl _ _))).left_eq, HR.out.left_eq]; exact HLT.out
              | false =>
                rw [ha, if_neg (by decide)] at HX3
                go_wp2_with fail
                go_roundw
                case rel => exact ⟨_, _, cnt3, rfl, HR7, HX3, HK7⟩
                case measure => rw [HR7.out.left_eq, HR.out.left_eq]; exact HLT.out
  | false =>
    have hvw : view D (ks s) = none := view_none hh
    rw [hvw] at hview
    have hl : look Es s = none := by
      cases hl : look Es s with
      | none => rfl
      | some x => rw [hl] at hview; cases hview
    rw [show Maps.has D (Lit.string s.data.toList) = false from hh] at hlook
    have HNO : Aside0 (look (Es.filter (al sp t)) s = none) := ⟨look_gone hl⟩
    clear hvw hview hvd1 hh hl hM
    go_wp2_with fail
    obtain ⟨B, hB⟩ : ∃ B, B = w1.heap.size := ⟨_, rfl⟩
    obtain ⟨w3, hw3⟩ : ∃ w3, w3 = w1.alloc (.cells #[.int .u64 b, .int .i64 u] 54) := ⟨_, rfl⟩
    have HL3 := Aside0.mk HLA.out
    have HK3 := Aside0.mk HKA.out
    rw [← hw3] at HL3 HK3
    rw [← hB, ← hw3]
    clear hw3 d0 d1 c4 hlook HLA HKA HBA hB
    go_wp2_with fail
    have HLd : Aside0 (LSt w3.drew g m tr mo sp ck Es) := ⟨HL3.out.below (below_drew1 (Below.refl _ _))⟩
    have c1 := (blk_cell HL3.out.lim 1).trans rfl
    by_cases hge : cntA sp t Es < mo
    · have b1 : decide (cntA sp t Es < mo) = true := decide_eq_true hge
      have HE2 : Aside0 (waitI tr mo sp t s (Es.filter (al sp t)) = 0) := ⟨wait_none (by have := HSZ.out; omega) HNO.out (by unfold cntA at hge; omega)⟩
      clear hge
      refine start_ (n := 8) (S := fun w' => w'.cell? ⟨g, 1, none⟩ = some (.int .i64 mo)) (ds := []) #[false, false, false, false, false, false, false, false] (by kernel_rfl) rfl rfl (c1) (fun hHeld => ?_)
      refine pure_ (i := 0) (N := some 55) (v := ?_) (a' := ?_) #[true, false, false, false, false, false, false, false] rfl rfl (by kernel_rfl) (fun _ _ _ h => h) (Or.inl ⟨by rfl, ?_⟩) ?_ ?_
      rotate_left
      · intro w'
        go_simp
        with_reducible rfl
      rotate_left
      · simp only [Act.put, List.setIfInBounds_toArray, List.set_cons_zero, List.set_cons_succ, i64_w, i32_w]
        rfl
      refine pure_ (i := 1) (N := some 56) (v := ?_) (a' := ?_) #[true, true, false, false, false, false, false, false] rfl rfl (by kernel_rfl) (fun _ _ _ h => h) (Or.inl ⟨by rfl, ?_⟩) ?_ ?_
      rotate_left
      · intro w'
        go_simp
        with_reducible rfl
      rotate_left
      · simp only [Act.put, List.setIfInBounds_toArray, List.set_cons_zero, List.set_cons_succ, i64_w, i32_w]
        rfl
      refine pure_ (i := 3) (N := some 58) (v := ?_) (a' := ?_) #[true, true, false, true, false, false, false, false] rfl rfl (by kernel_rfl) (fun _ _ _ h => h) (Or.inl ⟨by rfl, ?_⟩) ?_ ?_
      rotate_left
      · intro w'
        go_simp
        with_reducible rfl
      rotate_left
      · simp only [Act.put, List.setIfInBounds_toArray, List.set_cons_zero, List.set_cons_succ, i64_w, i32_w]
        rfl
      refine pure_ (i := 4) (N := some 59) (v := ?_) (a' := ?_) #[true, true, false, true, true, false, false, false] rfl rfl (by kernel_rfl) (fun _ _ _ h => h) (Or.inl ⟨by rfl, ?_⟩) ?_ ?_
      rotate_left
      · intro w'
        go_simp
        with_reducible rfl
      rotate_left
      · simp only [Act.put, List.setIfInBounds_toArray, List.set_cons_zero, List.set_cons_succ, i64_w, i32_w]
        rfl
      refine pure_ (i := 5) (N := some 60) (v := ?_) (a' := ?_) #[true, true, false, true, true, true, false, false] rfl rfl (by kernel_rfl) (fun _ _ _ h => h) (Or.inl ⟨by rfl, ?_⟩) ?_ ?_
      rotate_left
      · intro w'
        go_simp
        with_reducible rfl
      rotate_left
      · simp only [Act.put, List.setIfInBounds_toArray, List.set_cons_zero, List.set_cons_succ, i64_w, i32_w]
        rfl
      refine take_ (i := 6) (N := some 61) (v := ?_) (a' := ?_) #[true, true, false, true, true, true, true, false] rfl rfl (by kernel_rfl) (fun _ _ _ h => h) (Or.inl ⟨by rfl, ?_⟩) hHeld ?_ ?_
      rotate_left
      · intro w' s0
        go_simp
        with_reducible rfl
      rotate_left
      · simp only [Act.put, List.setIfInBounds_toArray, List.set_cons_zero, List.set_cons_succ, i64_w, i32_w]
        rfl
      refine one_ (i := 2) (N := some 57) #[true, true, true, true, true, true, true, false] rfl rfl (by kernel_rfl) (by decide) (fun K hK => ?_)
      refine goes_ Try.func31 (by kernel_rfl) rfl #[.pointer (some ⟨g, 0, none⟩), .int .u64 t] (by rfl) rfl rfl (by simp only [List.map_toArray, List.map_cons, List.map_nil]; rfl) ?_
      with_reducible refine (limit_others.calls HLd.out t HT.out).mono ?_
      rintro e w5 ⟨rfl, hb5⟩
      have HK5 := Aside0.mk (below_step (below_drew1 HK3.out) hb5)
      refine ⟨_, rfl, ?_⟩
      refine hK.out _ _ (pw_cell_below hb5 hHeld) (fun hHeld => ?_)
      clear hK K
      refine norm_ (a' := ?_) ?_ ?_
      rotate_left
      · show Act.put _ (some 57) _ = _
        simp only [Act.put, List.setIfInBounds_toArray, List.set_cons_zero, List.set_cons_succ, i64_w, i32_w]
        rfl
      refine pure_ (i := 7) (N := some 62) (v := ?_) (a' := ?_) #[true, true, true, true, true, true, true, true] rfl rfl (by kernel_rfl) (fun _ _ _ h => h) (Or.inl ⟨by rfl, ?_⟩) ?_ ?_
      rotate_left
      · intro w'
        go_simp
        with_reducible rfl
      rotate_left
      · simp only [Act.put, List.setIfInBounds_toArray, List.set_cons_zero, List.set_cons_succ, i64_w, i32_w]
        rfl
      refine done_ (by kernel_rfl) ?_
      go_wp2_with fail
      go_ret
      exact ⟨by rw [HE2.out]; rfl, HK5.out⟩
    · have b1 : decide (cntA sp t Es < mo) = false := decide_eq_false hge
      have HE2 : Aside0 (waitI tr mo sp t s (Es.filter (al sp t)) = lwA sp t Es) := ⟨wait_full (by have := HSZ.out; omega) HNO.out (by unfold cntA at hge; omega) HS.out.moB.1⟩
      clear hge
      refine start_ (n := 8) (S := fun w' => w'.cell? ⟨g, 1, none⟩ = some (.int .i64 mo)) (ds := []) #[false, false, false, false, false, false, false, false] (by kernel_rfl) rfl rfl (c1) (fun hHeld => ?_)
      refine pure_ (i := 0) (N := some 55) (v := ?_) (a' := ?_) #[true, false, false, false, false, false, false, false] rfl rfl (by kernel_rfl) (fun _ _ _ h => h) (Or.inl ⟨by rfl, ?_⟩) ?_ ?_
      rotate_left
      · intro w'
        go_simp
        with_reducible rfl
      rotate_left
      · simp only [Act.put, List.setIfInBounds_toArray, List.set_cons_zero, List.set_cons_succ, i64_w, i32_w]
        rfl
      refine pure_ (i := 1) (N := some 56) (v := ?_) (a' := ?_) #[true, true, false, false, false, false, false, false] rfl rfl (by kernel_rfl) (fun _ _ _ h => h) (Or.inl ⟨by rfl, ?_⟩) ?_ ?_
      rotate_left
      · intro w'
        go_simp
        with_reducible rfl
      rotate_left
      · simp only [Act.put, List.setIfInBounds_toArray, List.set_cons_zero, List.set_cons_succ, i64_w, i32_w]
        rfl
      refine pure_ (i := 3) (N := some 58) (v := ?_) (a' := ?_) #[true, true, false, true, false, false, false, false] rfl rfl (by kernel_rfl) (fun _ _ _ h => h) (Or.inl ⟨by rfl, ?_⟩) ?_ ?_
      rotate_left
      · intro w'
        go_simp
        with_reducible rfl
      rotate_left
      · simp only [Act.put, List.setIfInBounds_toArray, List.set_cons_zero, List.set_cons_succ, i64_w, i32_w]
        rfl
      refine pure_ (i := 4) (N := some 59) (v := ?_) (a' := ?_) #[true, true, false, true, true, false, false, false] rfl rfl (by kernel_rfl) (fun _ _ _ h => h) (Or.inl ⟨by rfl, ?_⟩) ?_ ?_
      rotate_left
      · intro w'
        go_simp
        with_reducible rfl
      rotate_left
      · simp only [Act.put, List.setIfInBounds_toArray, List.set_cons_zero, List.set_cons_succ, i64_w, i32_w]
        rfl
      refine pure_ (i := 5) (N := some 60) (v := ?_) (a' := ?_) #[true, true, false, true, true, true, false, false] rfl rfl (by kernel_rfl) (fun _ _ _ h => h) (Or.inl ⟨by rfl, ?_⟩) ?_ ?_
      rotate_left
      · intro w'
        go_simp
        with_reducible rfl
      rotate_left
      · simp only [Act.put, List.setIfInBounds_toArray, List.set_cons_zero, List.set_cons_succ, i64_w, i32_w]
        rfl
      refine take_ (i := 6) (N := some 61) (v := ?_) (a' := ?_) #[true, true, false, true, true, true, true, false] rfl rfl (by kernel_rfl) (fun _ _ _ h => h) (Or.inl ⟨by rfl, ?_⟩) hHeld ?_ ?_
      rotate_left
      · intro w' s0
        go_simp
        with_reducible rfl
      rotate_left
      · simp only [Act.put, List.setIfInBounds_toArray, List.set_cons_zero, List.set_cons_succ, i64_w, i32_w]
        rfl
      refine one_ (i := 2) (N := some 57) #[true, true, true, true, true, true, true, false] rfl rfl (by kernel_rfl) (by decide) (fun K hK => ?_)
      refine goes_ Try.func31 (by kernel_rfl) rfl #[.pointer (some ⟨g, 0, none⟩), .int .u64 t] (by rfl) rfl rfl (by simp only [List.map_toArray, List.map_cons, List.map_nil]; rfl) ?_
      with_reducible refine (limit_others.calls HLd.out t HT.out).mono ?_
      rintro e w5 ⟨rfl, hb5⟩
      have HK5 := Aside0.mk (below_step (below_drew1 HK3.out) hb5)
      have HL5 := Aside0.mk (HLd.out.below hb5)
      refine ⟨_, rfl, ?_⟩
      refine hK.out _ _ (pw_cell_below hb5 hHeld) (fun hHeld => ?_)
      clear hK K
      refine norm_ (a' := ?_) ?_ ?_
      rotate_left
      · show Act.put _ (some 57) _ = _
        simp only [Act.put, List.setIfInBounds_toArray, List.set_cons_zero, List.set_cons_succ, i64_w, i32_w]
        rfl
      refine pure_ (i := 7) (N := some 62) (v := ?_) (a' := ?_) #[true, true, true, true, true, true, true, true] rfl rfl (by kernel_rfl) (fun _ _ _ h => h) (Or.inl ⟨by rfl, ?_⟩) ?_ ?_
      rotate_left
      · intro w'
        go_simp
        with_reducible rfl
      rotate_left
      · simp only [Act.put, List.setIfInBounds_toArray, List.set_cons_zero, List.set_cons_succ, i64_w, i32_w]
        rfl
      refine done_ (by kernel_rfl) ?_
      clear c1 HL3 HK3 HLd b1
      have HOW := Aside0.mk HL5.out.own
      obtain ⟨n5, D5, hO5, hM5⟩ := HOW.out
      have HM5 := Aside0.mk hM5
      have HC0 : Aside0 (CameW Es (Maps.has D5) []) := ⟨CameW.start hM5⟩
      have HO5 := Aside0.mk hO5
      have c4 := (blk_cell HL5.out.lim 4).trans rfl
      have c2 := (blk_cell HL5.out.lim 2).trans rfl
      clear hO5 hM5 HOW
      go_wp2_with (first
        | (at_range; refine wpList_range_own _ rfl _ 56 rfl 9 54 lawS Try.underlying56 winElem m n5 D5 rfl HO5.out ?_; intro w6 hrg0 hg0 hs0; have HR0 := Aside0.mk hrg0; have HK0 : Aside0 (Below w5.heap.size w5 w6) := ⟨⟨hg0.os, hg0.tape, hg0.output, hg0.size, fun k hk => hg0.block k hk (by simp)⟩⟩; clear hrg0 hg0 hs0)
        | go_in)
      go_frame
      clear c4 c2
      obtain ⟨r, hr⟩ : ∃ r, r = w5.heap.size := ⟨_, rfl⟩
      have HSR := Aside0.mk hr
      rw [← hr] at HR0 ⊢
      clear hr
      go_loopw [10] (fun v10 wr => ∃ (cn : Int) (left : Lit → Bool) (cnt : Nat), v10 = .int .u64 cn ∧ Aside0 (wr.ranges Try.prog 9 winElem m r n5 D5 left cnt) ∧ Aside0 (∃ Xs, CameW Es left Xs ∧ cn = lwA sp t Xs) ∧ Aside0 (Below w5.heap.size w5 wr)) (fun _ wr => wr.rangeLeft m r)
      case atStart => exact ⟨sp, _, _, rfl, HR0, ⟨[], HC0.out, rfl⟩, HK0⟩
      case round =>
        clear HR0 HC0 HK0
        obtain ⟨cn, left, cnt, rfl, HR, HX, HK⟩ := hrel
        rcases HR.out.next lawS 0 with ⟨h0, hl0, hrun⟩ | ⟨key, v, kl, y, w3, cnt3, hkey, hlk, hv, hat, hrun, hrg1, hlt, hg1, hs1, hen⟩
        · have HE3 : Aside0 (waitI tr mo sp t s (Es.filter (al sp t)) = cn) := ⟨by obtain ⟨Xs, h1, h2⟩ := HX.out; rw [HE2.out, h2]; exact (lwA_perm (h1.fin hl0)).symm⟩
          go_wp2_with fail
          go_ret
          exact ⟨by rw [HE3.out]; rfl, below_step HK5.out HK.out⟩
        · obtain ⟨s', rfl, rfl, hsz2⟩ := Go.WideMaps.string_of_keyOf Try.underlying9 hkey
          obtain ⟨p, rfl, rfl, hp1, hp2⟩ := winElem_inv hv
          obtain ⟨pb, pu⟩ := p
          simp only at hat hrun hen hp1 hp2
          have HR3 := Aside0.mk hrg1
          have HLT := Aside0.mk hlt
          have HK3 : Aside0 (Below w5.heap.size w5 w3) := ⟨⟨hg1.os.trans HK.out.os, hg1.tape.trans HK.out.tape, hg1.output.trans HK.out.output, Nat.le_trans HK.out.size hg1.size, fun k hk => (hg1.block k (Nat.lt_of_lt_of_le hk HK.out.size) (fun e => by injection e with e; have := HSR.out; omega)).trans (HK.out.block k hk)⟩⟩
          obtain ⟨Xs, hx1, hx2⟩ := HX.out
          obtain ⟨hx3, hx4⟩ := CameW.entry HM5.out HL5.out.nodup hx1 hlk (view_some hat)
          obtain ⟨b0, b1⟩ := HL5.out.beg _ hx4
          simp only at b0 b1
          have hal : aliveB t pb sp = al sp t (s', pb, pu) := by
            have := HT.out
            exact aliveB_al (x := (s', pb, pu)) b0 (by show pb ≤ t; omega) this.2
          have HPB : Aside0 (0 ≤ pb ∧ pb ≤ ck ∧ (aliveB t pb sp = true → t - pb < sp)) := ⟨b0, b1, fun ha => by rw [hal] at ha; unfold al at ha; simpa using ha⟩
          have HX3 : Aside0 (∃ Xs, CameW Es (fun z => left z && !z.sameKey (ks s')) Xs ∧ (if aliveB t pb sp = true then min cn (sp - (t - pb)) else cn) = lwA sp t Xs) := ⟨_, hx3, by rw [lwA_snoc, hal, hx2]⟩
          clear hrg1 hlt hat hlk hkey hv hg1 hs1 HX HK hx1 hx2 hx3 hx4 hal b0 b1
          have HL4 : Aside0 (LSt (w3.alloc (.cells #[.int .u64 pb, .int .i64 pu] 54)) g m tr mo sp ck Es) := ⟨HL5.out.below (below_alloc HK3.out _)⟩
          have HR4 := Aside0.mk (HR3.out.alloc (.cells #[.int .u64 pb, .int .i64 pu] 54))
          have HK4 : Aside0 (Below w5.heap.size w5 (w3.alloc (.cells #[.int .u64 pb, .int .i64 pu] 54))) := ⟨below_alloc HK3.out _⟩
          have HB4 := Aside0.mk (blk_new w3 (.cells #[.int .u64 pb, .int .i64 pu] 54 (0, 0)))
          have d0 := (blk_cell HB4.out 0).trans rfl
          have d1 := (blk_cell HB4.out 1).trans rfl
          clear HK3 HR3
          go_wp2_with fail
          obtain ⟨B4, hB4⟩ : ∃ B4, B4 = w3.heap.size := ⟨_, rfl⟩
          obtain ⟨w4, hw4⟩ : ∃ w4, w4 = w3.alloc (.cells #[.int .u64 pb, .int .i64 pu] 54) := ⟨_, rfl⟩
          rw [← hw4] at HL4 HR4 HK4
          rw [← hB4, ← hw4] at HB4
          rw [← hB4, ← hw4]
          clear d0 d1 hw4 hB4
          refine (limit_is.calls g m tr mo sp ck pb pu t w4 HL4.out.lim).mono ?_
          rintro x w7 ⟨rfl, hb7⟩
          have HR7 := Aside0.mk (ranges_below HR4.out hb7)
          have HK7 : Aside0 (Below w5.heap.size w5 w7) := ⟨below_step HK4.out hb7⟩
          have HB7 := Aside0.mk (blk_below HB4.out hb7)
          have HL7 := Aside0.mk (HL4.out.below hb7)
          clear hb7 HL4 HR4 HK4 HB4
          cases ha : aliveB t pb sp with
          | true =>
            rw [ha, if_pos rfl] at HX3
            have hpb := HPB.out
            have hT := HT.out
            have n1 : IntKind.u64.wrap (t - pb) = t - pb := wrapU (by omega) (by omega)
            have n2 : IntKind.u64.wrap (sp - (t - pb)) = sp - (t - pb) := wrapU (by have := hpb.2.2 ha; omega) (by have := hpb.2.2 ha; have := HL7.out.spB; omega)
            have c2 := (blk_cell HL7.out.lim 2).trans rfl
            have d0 := (blk_cell HB7.out 0).trans rfl
            have HN1 := Aside0.mk n1
            have HN2 := Aside0.mk n2
            clear hpb hT
            go_wp2_with fail
            refine start_ (n := 12) (S := fun w' => w'.cell? ⟨g, 2, none⟩ = some (.int .u64 sp) ∧ w'.cell? ⟨B4, 0, none⟩ = some (.int .u64 pb)) (ds := []) #[false, false, false, false, false, false, false, false, false, false, false, false] (by kernel_rfl) rfl rfl ⟨c2, d0⟩ (fun hHeld => ?_)
            refine pure_ (i := 0) (N := some 80) (v := ?_) (a' := ?_) #[true, false, false, false, false, false, false, false, false, false, false, false] rfl rfl (by kernel_rfl) (fun _ _ _ h => h) (Or.inl ⟨by rfl, ?_⟩) ?_ ?_
            rotate_left
            · intro w'
              go_simp
              with_reducible rfl
            rotate_left
            · simp only [Act.put, List.setIfInBounds_toArray, List.set_cons_zero, List.set_cons_succ, i64_w, i32_w]
              rfl
            refine pure_ (i := 1) (N := some 81) (v := ?_) (a' := ?_) #[true, true, false, false, false, false, false, false, false, false, false, false] rfl rfl (by kernel_rfl) (fun _ _ _ h => h) (Or.inl ⟨by rfl, ?_⟩) ?_ ?_
            rotate_left
            · intro w'
              go_simp
              with_reducible rfl
            rotate_left
            · simp only [Act.put, List.setIfInBounds_toArray, List.set_cons_zero, List.set_cons_succ, i64_w, i32_w]
              rfl
            refine pure_ (i := 2) (N := some 82) (v := ?_) (a' := ?_) #[true, true, true, false, false, false, false, false, false, false, false, false] rfl rfl (by kernel_rfl) (fun _ _ _ h => h) (Or.inl ⟨by rfl, ?_⟩) ?_ ?_
            rotate_left
            · intro w'
              go_simp
              with_reducible rfl
            rotate_left
            · simp only [Act.put, List.setIfInBounds_toArray, List.set_cons_zero, List.set_cons_succ, i64_w, i32_w]
              rfl
            refine pure_ (i := 3) (N := some 83) (v := ?_) (a' := ?_) #[true, true, true, true, false, false, false, false, false, false, false, false] rfl rfl (by kernel_rfl) (fun _ _ _ h => h) (Or.inl ⟨by rfl, ?_⟩) ?_ ?_
            rotate_left
            · intro w'
              go_simp
              with_reducible rfl
            rotate_left
            · simp only [Act.put, List.setIfInBounds_toArray, List.set_cons_zero, List.set_cons_succ, i64_w, i32_w]
              rfl
            refine pure_ (i := 5) (N := some 85) (v := ?_) (a' := ?_) #[true, true, true, true, false, true, false, false, false, false, false, false] rfl rfl (by kernel_rfl) (fun _ _ _ h => h) (Or.inl ⟨by rfl, ?_⟩) ?_ ?_
            rotate_left
            · intro w'
              go_simp
              with_reducible rfl
            rotate_left
            · simp only [Act.put, List.setIfInBounds_toArray, List.set_cons_zero, List.set_cons_succ, i64_w, i32_w]
              rfl
            refine pure_ (i := 6) (N := some 86) (v := ?_) (a' := ?_) #[true, true, true, true, false, true, true, false, false, false, false, false] rfl rfl (by kernel_rfl) (fun _ _ _ h => h) (Or.inl ⟨by rfl, ?_⟩) ?_ ?_
            rotate_left
            · intro w'
              go_simp
              with_reducible rfl
            rotate_left
            · simp only [Act.put, List.setIfInBounds_toArray, List.set_cons_zero, List.set_cons_succ, i64_w, i32_w]
              rfl
            refine take_ (i := 4) (N := some 84) (v := ?_) (a' := ?_) #[true, true, true, true, true, true, true, false, false, false, false, false] rfl rfl (by kernel_rfl) (fun _ _ _ h => h) (Or.inl ⟨by rfl, ?_⟩) hHeld ?_ ?_
            rotate_left
            · rintro w' ⟨s0, s1⟩
              go_simp
              with_reducible rfl
            rotate_left
            · simp only [Act.put, List.setIfInBounds_toArray, List.set_cons_zero, List.set_cons_succ, i64_w, i32_w]
              rfl
            refine take_ (i := 7) (N := some 87) (v := ?_) (a' := ?_) #[true, true, true, true, true, true, true, true, false, false, false, false] rfl rfl (by kernel_rfl) (fun _ _ _ h => h) (Or.inl ⟨by rfl, ?_⟩) hHeld ?_ ?_
            rotate_left
            · rintro w' ⟨s0, s1⟩
              go_simp
              with_reducible rfl
            rotate_left
            · simp only [Act.put, List.setIfInBounds_toArray, List.set_cons_zero, List.set_cons_succ, i64_w, i32_w]
              rfl
            refine pure_ (i := 8) (N := some 88) (v := ?_) (a' := ?_) #[true, true, true, true, true, true, true, true, true, false, false, false] rfl rfl (by kernel_rfl) (fun _ _ _ h => h) (Or.inl ⟨by rfl, ?_⟩) ?_ ?_
            rotate_left
            · intro w'
              go_simp
              with_reducible rfl
            rotate_left
            · simp only [Act.put, List.setIfInBounds_toArray, List.set_cons_zero, List.set_cons_succ, i64_w, i32_w]
              rfl
            refine pure_ (i := 9) (N := some 89) (v := ?_) (a' := ?_) #[true, true, true, true, true, true, true, true, true, true, false, false] rfl rfl (by kernel_rfl) (fun _ _ _ h => h) (Or.inl ⟨by rfl, ?_⟩) ?_ ?_
            rotate_left
            · intro w'
              go_simp
              with_reducible rfl
            rotate_left
            · simp only [Act.put, List.setIfInBounds_toArray, List.set_cons_zero, List.set_cons_succ, i64_w, i32_w]
              rfl
            refine pure_ (i := 10) (N := some 90) (v := ?_) (a' := ?_) #[true, true, true, true, true, true, true, true, true, true, true, false] rfl rfl (by kernel_rfl) (fun _ _ _ h => h) (Or.inl ⟨by rfl, ?_⟩) ?_ ?_
            rotate_left
            · intro w'
              go_simp
              with_reducible rfl
            rotate_left
            · simp only [Act.put, List.setIfInBounds_toArray, List.set_cons_zero, List.set_cons_succ, i64_w, i32_w]
              rfl
            refine pure_ (i := 11) (N := some 10) (v := ?_) (a' := ?_) #[true, true, true, true, true, true, true, true, true, true, true, true] rfl rfl (by kernel_rfl) (fun _ _ _ h => h) (Or.inl ⟨by rfl, ?_⟩) ?_ ?_
            rotate_left
            · intro w'
              go_simp
              with_reducible rfl
            rotate_left
            · simp only [Act.put, List.setIfInBounds_toArray, List.set_cons_zero, List.set_cons_succ, i64_w, i32_w]
              rfl
            refine done_ (by kernel_rfl) ?_
            go_wp2_with fail
            go_roundw
            case rel => exact ⟨_, _, cnt3, rfl, ⟨ranges_below HR7.out (below_drew1 (Below.refl _ _))⟩, by first | exact HX3 | (rw [HN1.out, HN2.out]; exact HX3), ⟨below_drew1 HK7.out⟩⟩
            case measure => rw [(ranges_below HR7.out (below_drew1 (Below.refl _ _))).left_eq, HR.out.left_eq]; exact HLT.out
          | false =>
            rw [ha, if_neg (by decide)] at HX3
            go_wp2_with fail
            go_roundw
            case rel => exact ⟨_, _, cnt3, rfl, HR7, HX3, HK7⟩
            case measure => rw [HR7.out.left_eq, HR.out.left_eq]; exact HLT.out
end Go.Proofs.Ytgdjoochbgeokaa.Hand
