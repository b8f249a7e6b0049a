/- Disk: what the printed functions answer: names, find, without, with. -/
import Derived.Test.YtdekcjopgnfmdaaDskP
import Derived.Test.YtdekcjopgnfmdaaQx
namespace Go.Proofs.Ytdekcjopgnfmdaa.Hand
open Go.RowKit Go.Proofs.YtdekcjopgnfmdaaW.PrintWords Go.Proofs.YtdekcjopgnfmdaaW.PrintLast Go.Proofs.YtdekcjopgnfmdaaW.PrintMore Go.Proofs.Ytdekcjopgnfmdaa.Q
set_option linter.unusedVariables false
set_option linter.unusedSimpArgs false
theorem w64L {x : Int} (h0 : -9223372036854775808 ≤ x) (h1 : x ≤ 9223372036854775807) : Go.RowKit.wrap64 x = x := by
  unfold Go.RowKit.wrap64; omega
theorem wf_i64 {x : Int} (h0 : -9223372036854775808 ≤ x) (h1 : x ≤ 9223372036854775807) : (Lit.int .i64 x).wf = true := by
  simp only [Lit.wf, Bool.and_eq_true, decide_eq_true_eq, show IntKind.i64.min = -9223372036854775808 by decide, show IntKind.i64.max = 9223372036854775807 by decide]; exact ⟨h0, h1⟩
theorem w64D {x : Int} (h0 : 0 ≤ x) (h1 : x ≤ 9223372036854775807) : wrap64 x = x := w64L (by omega) (by omega)
abbrev EntD := S115
def mkE (e : Ent) : EntD := ⟨e.1, e.2⟩
theorem rdE {l : List Ent} {i : Nat} (h : i < l.length) : rd_T115 (l.map mkE) (i : Int) = mkE l[i] := by
  show (l.map mkE).getD (i : Int).toNat _ = _; rw [Int.toNat_natCast, List.getD_eq_getElem?_getD, List.getElem?_map, List.getElem?_eq_getElem h]; rfl
theorem has_at {l : List Ent} {n : ByteArray} {i : Nat} (h : i < l.length) (hb : ∀ e, e ∈ l.take i → e.1 ≠ n) (he : l[i].1 = n) : has l n = some l[i] := by
  have hs : l = l.take i ++ l[i] :: l.drop (i + 1) := by rw [← List.drop_eq_getElem_cons h, List.take_append_drop]
  unfold has
  conv => lhs; rw [hs]
  rw [List.find?_append, List.find?_eq_none.2 (fun e he => by simpa using hb e he), List.find?_cons, he]
  simp
theorem find_from {l : List Ent} {n : ByteArray} (hl : (l.length : Int) ≤ 4398046511104) (d : Nat) : ∀ i : Nat, i + d = l.length → (∀ e, e ∈ l.take i → e.1 ≠ n) →
    ∃ r : Int, Ev (fun k => wicketref05_find.l0 k (l.map mkE) n (i : Int)) r ∧ ((r = -1 ∧ has l n = none) ∨ ∃ (j : Nat) (hj : j < l.length), r = j ∧ has l n = some l[j]) := by
  induction d with
  | zero =>
    intro i hi hno; rw [List.take_of_length_le (by omega)] at hno; refine ⟨-1, Ev.step (f := fun _ => some (-1)) (fun k => ?_) (Ev.now _), .inl ⟨rfl, has_none.2 hno⟩⟩; rw [wicketref05_find.l0, List.length_map, if_neg (by omega)]
  | succ d ih =>
    intro i hi hno; have hlt : i < l.length := by omega
    have hn : wrap64 ((i : Int) + 1) = ((i + 1 : Nat) : Int) := by rw [w64D (by omega) (by omega)]; omega
    by_cases e1 : l[i].1 = n
    · refine ⟨i, Ev.step (f := fun _ => some (i : Int)) (fun k => ?_) (Ev.now _), .inr ⟨i, hlt, rfl, has_at hlt hno e1⟩⟩; rw [wicketref05_find.l0, List.length_map, if_pos (by omega), if_pos (by omega), rdE hlt, if_pos (by show l[i].1.toList = n.toList; rw [e1])]
    · obtain ⟨r, h1, h2⟩ := ih (i + 1) (by omega) (fun e he => by
        rw [List.take_succ_eq_append_getElem hlt, List.mem_append] at he; rcases he with he | he
        · exact hno e he
        · rw [List.mem_singleton] at he; rw [he]; exact e1)
      refine ⟨r, Ev.step (fun k => ?_) h1, h2⟩; rw [wicketref05_find.l0, List.length_map, if_pos (by omega), if_pos (by omega), rdE hlt, if_neg (by show ¬ l[i].1.toList = n.toList; exact fun h => e1 (bytes_eqD.1 h)), hn]
theorem find_ev {l : List Ent} (hl : (l.length : Int) ≤ 4398046511104) (n : ByteArray) : ∃ r : Int, Ev (fun k => wicketref05_find.f k (l.map mkE) n) r ∧ ((r = -1 ∧ has l n = none) ∨ ∃ (j : Nat) (hj : j < l.length), r = j ∧ has l n = some l[j]) :=
  find_from hl l.length 0 (by omega) (fun e he => by simp at he)
theorem without_snoc {l : List Ent} {n : ByteArray} {i : Nat} (h : i < l.length) : without (l.take (i + 1)) n = if l[i].1 = n then without (l.take i) n else without (l.take i) n ++ [l[i]] := by
  unfold without; rw [List.take_succ_eq_append_getElem h, List.filter_append]; by_cases e : l[i].1 = n
  · rw [if_pos e, List.filter_cons_of_neg (by simp [e])]; simp
  · rw [if_neg e, List.filter_cons_of_pos (by simp [e])]; simp
theorem without_from {l : List Ent} {n : ByteArray} (hl : (l.length : Int) ≤ 4398046511104) (d : Nat) : ∀ i : Nat, i + d = l.length →
    Ev (fun k => wicketref05_without.l0 k (l.map mkE) n ((without (l.take i) n).map mkE) (i : Int)) ((without l n).map mkE) := by
  induction d with
  | zero =>
    intro i hi; rw [List.take_of_length_le (by omega)]; refine Ev.step (f := fun _ => some ((without l n).map mkE)) (fun k => ?_) (Ev.now _); rw [wicketref05_without.l0, List.length_map, if_neg (by omega)]
  | succ d ih =>
    intro i hi; have hlt : i < l.length := by omega
    have hn : wrap64 ((i : Int) + 1) = ((i + 1 : Nat) : Int) := by rw [w64D (by omega) (by omega)]; omega
    have hi2 := ih (i + 1) (by omega); rw [without_snoc hlt] at hi2; have hw : (without (l.take i) n).length ≤ i := Nat.le_trans (without_len _ _) (by rw [List.length_take]; omega); by_cases e1 : l[i].1 = n
    · rw [if_pos e1] at hi2; refine Ev.step (fun k => ?_) hi2; rw [wicketref05_without.l0, List.length_map, if_pos (by omega), if_pos (by omega), rdE hlt, if_pos (by show l[i].1.toList = n.toList; rw [e1]), hn]
    · rw [if_neg e1, List.map_append] at hi2; refine Ev.step (fun k => ?_) hi2; rw [wicketref05_without.l0, List.length_map, if_pos (by omega), if_pos (by omega), rdE hlt, if_neg (by show ¬ l[i].1.toList = n.toList; exact fun h => e1 (bytes_eqD.1 h)), if_pos (by rw [List.length_map]; omega), hn]; rfl
theorem without_ev {l : List Ent} (hl : (l.length : Int) ≤ 4398046511104) (n : ByteArray) : Ev (fun k => wicketref05_without.f k (l.map mkE) n) ((without l n).map mkE) := without_from hl l.length 0 (by omega)
theorem ins_app {n : ByteArray} {f : Int} : ∀ {a b : List Ent}, (∀ e, e ∈ a → ¬ nm n < nm e.1) → ins n f (a ++ b) = a ++ ins n f b
  | [], b, _ => rfl
  | x :: a, b, h => by
    show ins n f (x :: (a ++ b)) = x :: (a ++ ins n f b); rw [ins, if_neg (h x List.mem_cons_self), ins_app (fun e he => h e (List.mem_cons_of_mem _ he))]
theorem with_done {l : List Ent} {n : ByteArray} {f : Int} (hl : (l.length : Int) ≤ 4398046511104) (d : Nat) : ∀ (i : Nat) (P : List Ent), i + d = l.length → P.length ≤ i + 1 →
    Ev (fun k => wicketref05_with.l0 k (l.map mkE) n f (P.map mkE) true (i : Int)) ((P ++ l.drop i).map mkE) := by
  induction d with
  | zero =>
    intro i P hi hP; rw [List.drop_eq_nil_of_le (by omega), List.append_nil]; refine Ev.step (f := fun _ => some (P.map mkE)) (fun k => ?_) (Ev.now _); rw [wicketref05_with.l0, List.length_map, if_neg (by omega), if_pos rfl]
  | succ d ih =>
    intro i P hi hP; have hlt : i < l.length := by omega
    have hn : wrap64 ((i : Int) + 1) = ((i + 1 : Nat) : Int) := by rw [w64D (by omega) (by omega)]; omega
    have hi2 := ih (i + 1) (P ++ [l[i]]) (by omega) (by rw [List.length_append, List.length_singleton]; omega); rw [List.append_assoc, List.singleton_append, ← List.drop_eq_getElem_cons hlt, List.map_append] at hi2; refine Ev.step (fun k => ?_) hi2; rw [wicketref05_with.l0, List.length_map, if_pos (by omega), if_pos rfl, if_pos (by omega), if_pos (by rw [List.length_map]; omega), rdE hlt, hn]; rfl
theorem less_iff (a b : ByteArray) : (Op.bytesLess a.toList b.toList = true) = (nm a < nm b) := by rw [bytesLess_eq]; simp [nm]
theorem with_from {l : List Ent} {n : ByteArray} {f : Int} (hl : (l.length : Int) ≤ 4398046511104) (d : Nat) : ∀ (i : Nat), i + d = l.length → (∀ e, e ∈ l.take i → ¬ nm n < nm e.1) →
    Ev (fun k => wicketref05_with.l0 k (l.map mkE) n f ((l.take i).map mkE) false (i : Int)) ((ins n f l).map mkE) := by
  induction d with
  | zero =>
    intro i hi hno; have ht : l.take i = l := List.take_of_length_le (by omega); rw [ht] at hno ⊢
    have e : ins n f l = l ++ [(n, f)] := by
      have := ins_app (n := n) (f := f) (a := l) (b := []) hno; rw [List.append_nil] at this; exact this
    rw [e, List.map_append]; refine Ev.step (f := fun _ => some (l.map mkE ++ [(n, f)].map mkE)) (fun k => ?_) (Ev.now _); rw [wicketref05_with.l0, List.length_map, if_neg (by omega), if_neg (by decide), if_pos (by omega)]; rfl
  | succ d ih =>
    intro i hi hno; have hlt : i < l.length := by omega
    have hn : wrap64 ((i : Int) + 1) = ((i + 1 : Nat) : Int) := by rw [w64D (by omega) (by omega)]; omega
    have hs : l = l.take i ++ l[i] :: l.drop (i + 1) := by rw [← List.drop_eq_getElem_cons hlt, List.take_append_drop]
    by_cases e1 : nm n < nm l[i].1
    · have e : ins n f l = (l.take i ++ [(n, f), l[i]]) ++ l.drop (i + 1) := by
        conv => lhs; rw [hs]
        rw [ins_app hno, ins, if_pos e1]
        simp
      rw [e]; have hd := with_done (n := n) (f := f) hl d (i + 1) (l.take i ++ [(n, f), l[i]]) (by omega) (by rw [List.length_append, List.length_take]; simp; omega); refine Ev.step (fun k => ?_) hd; rw [wicketref05_with.l0, List.length_map, if_pos (by omega), if_neg (by decide), if_pos (by omega), rdE hlt, if_pos (by rw [less_iff]; exact e1), if_pos (by rw [List.length_map, List.length_take]; omega), Option.bind_some, if_pos (by rw [List.length_append, List.length_map, List.length_take, List.length_singleton]; omega), hn, List.map_append]; simp only [List.map_cons, List.map_nil, List.append_assoc, List.singleton_append]; rfl
    · have hi2 := ih (i + 1) (by omega) (fun e he => by
        rw [List.take_succ_eq_append_getElem hlt, List.mem_append] at he; rcases he with he | he
        · exact hno e he
        · rw [List.mem_singleton] at he; rw [he]; exact e1)
      rw [List.take_succ_eq_append_getElem hlt, List.map_append] at hi2; refine Ev.step (fun k => ?_) hi2; rw [wicketref05_with.l0, List.length_map, if_pos (by omega), if_neg (by decide), if_pos (by omega), rdE hlt, if_neg (by rw [less_iff]; exact e1), if_pos (by rw [List.length_map, List.length_take]; omega), hn]; rfl
theorem with_ev {l : List Ent} (hl : (l.length : Int) ≤ 4398046511104) (n : ByteArray) (f : Int) : Ev (fun k => wicketref05_with.f k (l.map mkE) n f) ((with_ l n f).map mkE) := by
  unfold wicketref05_with.f; refine Ev.bind (without_ev hl n) ?_; have hw := without_len l n; have h := with_from (l := without l n) (n := n) (f := f) (by omega) (without l n).length 0 (by omega) (fun e he => by simp at he); exact h
theorem ite_okc {c : Int} {α : Type} {a b : Option α} : (if c ≥ 97 then (if c ≤ 122 then a else (if c ≥ 48 then (if c ≤ 57 then a else (if c = 46 then a else (if c = 45 then a else (if c = 95 then a else b)))) else (if c = 46 then a else (if c = 45 then a else (if c = 95 then a else b))))) else (if c ≥ 48 then (if c ≤ 57 then a else (if c = 46 then a else (if c = 45 then a else (if c = 95 then a else b)))) else (if c = 46 then a else (if c = 45 then a else (if c = 95 then a else b))))) = if okc c = true then a else b := by
  by_cases h : (97 ≤ c ∧ c ≤ 122) ∨ (48 ≤ c ∧ c ≤ 57) ∨ c = 46 ∨ c = 45 ∨ c = 95
  · rw [if_pos (show okc c = true by unfold okc; exact decide_eq_true h)]
    repeat' split
    all_goals first | rfl | (exfalso; omega)
  · rw [if_neg (show ¬ okc c = true by unfold okc; rw [decide_eq_false h]; decide)]
    repeat' split
    all_goals first | rfl | (exfalso; omega)
theorem all_split {s : ByteArray} {i : Nat} (h : i < s.size) (ho : okc (bt s i) = false) : nameOk s = false := by
  unfold nameOk; have : (List.range s.size).all (fun i => okc (bt s i)) = false := List.all_eq_false.2 ⟨i, List.mem_range.2 h, by rw [ho]; decide⟩; rw [this]; rfl
theorem all_end {s : ByteArray} (h : ∀ j : Nat, j < s.size → okc (bt s j) = true) : nameOk s = (decide (1 ≤ s.size) && decide (s.size ≤ 32)) := by
  unfold nameOk; have : (List.range s.size).all (fun i => okc (bt s i)) = true := List.all_eq_true.2 (fun i hi => h i (List.mem_range.1 hi)); rw [this]; rfl
theorem size_end (s : ByteArray) : (if (s.size : Int) ≥ 1 then some (decide ((s.size : Int) ≤ 32)) else some false) = some (decide (1 ≤ s.size) && decide (s.size ≤ 32)) := by
  by_cases h : 1 ≤ s.size
  · rw [if_pos (by omega), decide_eq_true h]
    congr 1
    simp
    omega
  · rw [if_neg (by omega), decide_eq_false h]; rfl
theorem name_from {s : ByteArray} (hs : s.size ≤ 9223372036854775807) (d : Nat) : ∀ i : Nat, i + d = s.size → (∀ j : Nat, j < i → okc (bt s j) = true) → Ev (fun k => wicketref05_Name.l0 k s (i : Int)) (nameOk s) := by
  induction d with
  | zero =>
    intro i hi hj; rw [all_end (fun j h => hj j (by omega))]; refine Ev.step (f := fun _ => some (decide (1 ≤ s.size) && decide (s.size ≤ 32))) (fun k => ?_) (Ev.now _); rw [wicketref05_Name.l0, if_neg (by omega), size_end]
  | succ d ih =>
    intro i hi hj; have hn : wrap64 ((i : Int) + 1) = ((i + 1 : Nat) : Int) := by rw [w64D (by omega) (by omega)]; omega
    cases ho : okc (bt s i) with
    | true =>
      have h2 := ih (i + 1) (by omega) (fun j h => by rcases Nat.lt_succ_iff_lt_or_eq.1 h with h | h; exact hj j h; rw [h]; exact ho); refine Ev.step (fun k => ?_) h2; rw [wicketref05_Name.l0, if_pos (by omega), if_pos (by omega), ite_okc, if_pos ho, hn]
    | false =>
      rw [all_split (by omega) ho]; refine Ev.step (f := fun _ => some false) (fun k => ?_) (Ev.now _); rw [wicketref05_Name.l0, if_pos (by omega), if_pos (by omega), ite_okc, if_neg (by rw [ho]; decide)]
theorem name_ev (s : ByteArray) (hs : s.size ≤ 9223372036854775807) : Ev (fun k => wicketref05_Name.f k s) (nameOk s) := name_from hs s.size 0 (by omega) (fun j h => absurd h (Nat.not_lt_zero _))
theorem named_from {s : ByteArray} (hs : s.size ≤ 9223372036854775807) (d : Nat) : ∀ i : Nat, i + d = s.size → (∀ j : Nat, j < i → okc (bt s j) = true) → Ev (fun k => disk_named.l0 k s (s.size : Int) (i : Int)) (nameOk s) := by
  induction d with
  | zero =>
    intro i hi hj; rw [all_end (fun j h => hj j (by omega))]; refine Ev.step (f := fun _ => some (decide (1 ≤ s.size) && decide (s.size ≤ 32))) (fun k => ?_) (Ev.now _); rw [disk_named.l0, if_neg (by omega), size_end]
  | succ d ih =>
    intro i hi hj; have hn : wrap64 ((i : Int) + 1) = ((i + 1 : Nat) : Int) := by rw [w64D (by omega) (by omega)]; omega
    cases ho : okc (bt s i) with
    | true =>
      have h2 := ih (i + 1) (by omega) (fun j h => by rcases Nat.lt_succ_iff_lt_or_eq.1 h with h | h; exact hj j h; rw [h]; exact ho); refine Ev.step (fun k => ?_) h2; rw [disk_named.l0, if_pos (by omega), if_pos (by omega), if_pos (by omega), ite_okc, if_pos ho, hn]
    | false =>
      rw [all_split (by omega) ho]; refine Ev.step (f := fun _ => some false) (fun k => ?_) (Ev.now _); rw [disk_named.l0, if_pos (by omega), if_pos (by omega), if_pos (by omega), ite_okc, if_neg (by rw [ho]; decide)]
theorem named_ev (s : ByteArray) (hs : s.size ≤ 9223372036854775807) : Ev (fun k => disk_named.f k s) (nameOk s) := named_from hs s.size 0 (by omega) (fun j h => absurd h (Nat.not_lt_zero _))
end Go.Proofs.Ytdekcjopgnfmdaa.Hand
