/- Arguments opened: what a reading of an argument gives, kind by kind, in the words of the walks. -/
import Derived.Test.YtdlfhpkkkhfhdaaDoorWMore
import Derived.Test.YtdlfhpkkkhfhdaaDoorRows
import Derived.ChangeArms
import Derived.Deep.Slices
namespace Go.Proofs.YtdlfhpkkkhfhdaaDoor.Hand
open Go.RowKit Go.Proofs.YtdlfhpkkkhfhdaaDoorW.PrintWords Go.Deep Go.ChangeShapes
set_option linter.unusedVariables false

/-- A reading of a value of type t tells an element of α: as the walk has it, with what is known of it and what it weighs. -/
structure Opens {α : Type} (P : Program) (t : TypeId) (d : Kd α) (wf : α → Prop) (bulk : α → Nat) : Prop where
  read : ∀ {H : Type} {enc : TypeId × Value → H} {w : World} {held : Bool} {fuel : Nat} {cs : List Value} {x : DataW H × List MemPlace}, DataW.trod enc P w 0 (fun _ => true) held fuel t cs = some x → ∃ a : α, d.K w a cs ∧ wf a ∧ bulk a ≤ Rows.uptoBulk x.1

theorem Opens.int {P : Program} {t : TypeId} (k : IntKind) (ht : P.underlying t = some (.int k)) : Opens P t (Kd.int k) (fun n => (Lit.int k n).wf = true) (fun _ => 1) := ⟨fun h => by
  obtain ⟨n, rfl, rfl, hw⟩ := DataW.trod_int ht h
  exact ⟨n, rfl, hw, by simp [Rows.uptoBulk]⟩⟩
theorem Opens.bool {P : Program} {t : TypeId} (ht : P.underlying t = some .bool) : Opens P t Kd.bool (fun _ => True) (fun _ => 1) := ⟨fun h => by
  obtain ⟨n, rfl, rfl⟩ := DataW.trod_bool ht h
  exact ⟨n, rfl, trivial, by simp [Rows.uptoBulk]⟩⟩
theorem Opens.str {P : Program} {t : TypeId} (ht : P.underlying t = some .string) : Opens P t Kd.string (fun s => s.size ≤ 9223372036854775807) (fun s => s.size + 1) := ⟨fun h => by
  obtain ⟨s, rfl, rfl, hs⟩ := DataW.trod_string ht h
  exact ⟨s, rfl, by unfold maxLen at hs; exact hs, by simp [Rows.uptoBulk]⟩⟩

theorem bulk_append {H : Type} (l r : List (DataW H)) : Rows.uptoBulkAll (l ++ r) = Rows.uptoBulkAll l + Rows.uptoBulkAll r := by
  induction l with
  | nil => simp [Rows.uptoBulkAll]
  | cons x l ih => simp only [List.cons_append, Rows.uptoBulkAll, ih]; omega
theorem choose_list {α : Type} (p : Nat → α → Prop) : ∀ n : Nat, (∀ i, i < n → ∃ a, p i a) → ∃ l : List α, l.length = n ∧ ∀ i a, l[i]? = some a → p i a := by
  intro n
  induction n with
  | zero => intro _; exact ⟨[], rfl, fun i a h => by simp at h⟩
  | succ n ih =>
    intro h
    obtain ⟨l, hl, hp⟩ := ih (fun i hi => h i (by omega))
    obtain ⟨a, ha⟩ := h n (by omega)
    refine ⟨l ++ [a], by simp [hl], fun i b hb => ?_⟩
    rcases Nat.lt_or_ge i n with hi | hi
    · rw [List.getElem?_append_left (by omega)] at hb
      exact hp i b hb
    · have hi' : i = l.length := by
        have := (List.getElem?_eq_some_iff.1 hb).1
        simp at this
        omega
      subst hi'
      have : a = b := by simpa using hb
      subst this
      rw [hl]
      exact ha
theorem sum_le' {H α : Type} (bulk : α → Nat) (D : Nat → DataW H) : ∀ (l : List α) (s : Nat), (∀ i a, l[i]? = some a → bulk a ≤ Rows.uptoBulk (D (s + i))) → (l.map bulk).sum ≤ Rows.uptoBulkAll ((List.range' s l.length).map D)
  | [], s, _ => by simp
  | a :: l, s, h => by
    have h1 := sum_le' bulk D l (s + 1) (fun i b hb => by have := h (i + 1) b (by simpa using hb); rwa [show s + (i + 1) = s + 1 + i from by omega] at this)
    have h2 := h 0 a rfl
    simp only [List.map_cons, List.sum_cons, List.length_cons, List.range'_succ, Rows.uptoBulkAll]
    simp only [Nat.add_zero] at h2
    omega
theorem sum_le {H α : Type} (bulk : α → Nat) (D : Nat → DataW H) (l : List α) (h : ∀ i a, l[i]? = some a → bulk a ≤ Rows.uptoBulk (D i)) : (l.map bulk).sum ≤ Rows.uptoBulkAll ((List.range l.length).map D) := by
  rw [List.range_eq_range']
  exact sum_le' bulk D l 0 (fun i a hi => by rw [Nat.zero_add]; exact h i a hi)

theorem Opens.slice {α : Type} {P : Program} {t e : TypeId} {d : Kd α} {wf : α → Prop} {bulk : α → Nat} (ht : P.underlying t = some (.slice e)) (hsz : P.cellsOf e = d.sz) (he : Opens P e d wf bulk) :
    Opens P t (Kd.slice e d) (fun l => ∀ x ∈ l, wf x) (fun l => (l.map bulk).sum + 1) := ⟨fun {H enc w held fuel cs x} h => by
  rcases open_slice ht h with ⟨rfl, rfl⟩ | ⟨a, len, cap, m, n, D, Pl, rfl, hb, hl, hm, hmm, rfl, hx⟩
  · exact ⟨[], ⟨none, 0, rfl, by simp, Kd.C_nil d w⟩, fun x hx => by simp at hx, by simp [Rows.uptoBulk]⟩
  · obtain ⟨l, hll, hlp⟩ := choose_list (fun i (b : α) => ∃ cs', w.cells? 0 (a.add (i * P.cellsOf e)) (P.cellsOf e) = some cs' ∧ d.K w b cs' ∧ wf b ∧ bulk b ≤ Rows.uptoBulk (D i)) len (fun i hi => by
      obtain ⟨cs', h1, h2⟩ := hx i (by rw [hmm]; simp; omega)
      obtain ⟨b, hk, hw, hbu⟩ := he.read h2
      exact ⟨b, cs', h1, hk, hw, hbu⟩)
    subst hll
    refine ⟨l, ⟨some a, cap, rfl, hl, ⟨rfl, by unfold maxLen at hm; omega, fun _ => ⟨a, rfl, fun j p hj => ?_⟩⟩⟩, fun x hx => ?_, ?_⟩
    · obtain ⟨cs', h1, hk, _, _⟩ := hlp j p hj
      obtain ⟨_, hlen, hat⟩ := World.cells?_some h1
      refine ⟨cs', d.K_len hk, hk, fun i u hu => ?_⟩
      have hi : i < P.cellsOf e := by have := (List.getElem?_eq_some_iff.1 hu).1; omega
      have h3 := hat i hi
      rw [hu, hsz, Go.Deep.add_add] at h3
      exact h3
    · obtain ⟨i, hi, rfl⟩ := List.getElem_of_mem hx
      obtain ⟨_, _, _, hw, _⟩ := hlp i l[i] (List.getElem?_eq_getElem hi)
      exact hw
    · have h4 := sum_le bulk D l (fun i b hb => by
        obtain ⟨_, _, _, _, hbu⟩ := hlp i b hb
        exact hbu)
      simp only [Rows.uptoBulk]
      omega⟩

/-- The fields of a struct from one on: they stand one behind the other. -/
structure OpensFs {α : Type} (P : Program) (fs : List Field) (off total : Nat) (d : Kd α) (wf : α → Prop) (bulk : α → Nat) : Prop where
  read : ∀ {H : Type} {enc : TypeId × Value → H} {w : World} {held : Bool} {n : Nat} {cs : List Value} {xs : List (DataW H × List MemPlace)}, cs.length = total → xs.length = fs.length →
    (∀ (i : Nat) (f : Field), fs[i]? = some f → DataW.trod enc P w 0 (fun _ => true) held n f.type ((cs.drop f.offset).take (P.cellsOf f.type)) = xs[i]?) → ∃ a : α, d.K w a (cs.drop off) ∧ wf a ∧ bulk a ≤ Rows.uptoBulkAll (xs.map (·.1))
theorem OpensFs.last {α : Type} {P : Program} {f : Field} {off total : Nat} {d : Kd α} {wf : α → Prop} {bulk : α → Nat} (hoff : f.offset = off) (hsz : P.cellsOf f.type = d.sz) (htot : off + d.sz = total) (h : Opens P f.type d wf bulk) : OpensFs P [f] off total d wf bulk :=
  ⟨fun {H enc w held n cs xs} hcs hxs hr => by
    match xs, hxs with
    | [x], _ =>
      have h1 := hr 0 f rfl
      rw [hoff, hsz, List.take_of_length_le (by rw [List.length_drop]; omega)] at h1
      obtain ⟨a, hk, hw, hb⟩ := h.read h1
      exact ⟨a, hk, hw, by simp only [List.map_cons, List.map_nil, Rows.uptoBulkAll]; omega⟩⟩
theorem OpensFs.cons {α β : Type} {P : Program} {f : Field} {fs : List Field} {off total : Nat} {d : Kd α} {e : Kd β} {wf : α → Prop} {wf' : β → Prop} {bulk : α → Nat} {bulk' : β → Nat} (hoff : f.offset = off) (hsz : P.cellsOf f.type = d.sz) (h : Opens P f.type d wf bulk)
    (hs : OpensFs P fs (off + d.sz) total e wf' bulk') : OpensFs P (f :: fs) off total (Kd.pair d e) (fun x => wf x.1 ∧ wf' x.2) (fun x => bulk x.1 + bulk' x.2) :=
  ⟨fun {H enc w held n cs xs} hcs hxs hr => by
    match xs, hxs with
    | x :: xs, hxs =>
      have h1 := hr 0 f rfl
      rw [hoff, hsz] at h1
      obtain ⟨a, hk, hw, hb⟩ := h.read h1
      obtain ⟨b, hk2, hw2, hb2⟩ := hs.read hcs (by simpa using hxs) (fun i g hg => by have := hr (i + 1) g (by simpa using hg); simpa using this)
      refine ⟨(a, b), ⟨_, _, ?_, hk, hk2⟩, ⟨hw, hw2⟩, by simp only [List.map_cons, Rows.uptoBulkAll]; omega⟩
      rw [← List.drop_drop, List.take_append_drop]⟩
theorem Opens.struct {α β : Type} {P : Program} {t : TypeId} {fs : Array Field} {total : Nat} {d : Kd α} {wf : α → Prop} {bulk : α → Nat} (f : β → α) (g : α → β) (hfg : ∀ a, f (g a) = a) (ht : P.underlying t = some (.struct fs)) (hc : P.cellsOf t = total) (h : OpensFs P fs.toList 0 total d wf bulk) :
    Opens P t (Kd.iso d f) (fun b => wf (f b)) (fun b => bulk (f b) + 1) := ⟨fun {H enc w held fuel cs x} hx => by
  obtain ⟨xs, n, _, rfl, hl, hxl, hi⟩ := DataW.trod_struct ht hx
  obtain ⟨a, hk, hw, hb⟩ := h.read (hl.trans hc) (by simpa using hxl) (fun i f hf => hi i f (by simpa using hf))
  refine ⟨g a, ?_, ?_, ?_⟩
  · show d.K w (f (g a)) cs
    rw [hfg]
    simpa using hk
  · rw [hfg]; exact hw
  · rw [hfg]; simp only [Rows.uptoBulk]; omega⟩

/-- The whole weight bounds each argument's. -/
theorem bulk_bound {H : Type} {l : List (DataW H)} (hk : Rows.uptoSmall H l = true) : Rows.uptoBulkAll l ≤ 1048576 := of_decide_eq_true hk
theorem bulk_part {H : Type} {d : DataW H} {l : List (DataW H)} (h : d ∈ l) : Rows.uptoBulk d ≤ Rows.uptoBulkAll l := by
  induction l with
  | nil => cases h
  | cons x r ih =>
    simp only [Rows.uptoBulkAll]
    cases List.mem_cons.1 h with
    | inl e => subst e; omega
    | inr e => have := ih e; omega
theorem sum_ones {α : Type} (l : List α) : (l.map fun _ => 1).sum = l.length := by
  induction l with
  | nil => rfl
  | cons x l ih => simp only [List.map_cons, List.sum_cons, ih, List.length_cons]; omega
end Go.Proofs.YtdlfhpkkkhfhdaaDoor.Hand
