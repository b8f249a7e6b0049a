/- Arguments opened, with what a machine's memory bounds of them: a slice's bytes are no more than may be reached. -/
import Derived.Test.YthmkdmdfahhpmaaHOpens
import Derived.SizedLaws
namespace Go.Proofs.Ythmkdmdfahhpmaa.Hand
open Go.RowKit Go.Proofs.YthmkdmdfahhpmaaW.PrintWords Go.Deep Go.ChangeShapes
set_option linter.unusedVariables false
structure OpensZ {α : Type} (P : Program) (t : TypeId) (d : Kd α) (wf : α → Prop) : Prop where
  read : ∀ {H : Type} {enc : TypeId × Value → H} {w : World} {held : Bool} {fuel : Nat} {cs : List Value} {x : DataW H × List MemPlace}, DataW.trod enc P w 0 (fun _ => true) held fuel t cs = some x → (∀ n ∈ x.1.weights P t, n ≤ reachBytes) → ∃ a : α, d.K w a cs ∧ wf a
theorem OpensZ.of {α : Type} {P : Program} {t : TypeId} {d : Kd α} {wf : α → Prop} {bulk : α → Nat} (h : Opens P t d wf bulk) : OpensZ P t d wf := ⟨fun hx _ => by
  obtain ⟨a, h1, h2, _⟩ := h.read hx
  exact ⟨a, h1, h2⟩⟩
theorem weightsAll_mem {H : Type} {P : Program} {e : TypeId} {n : Nat} : ∀ {l : List (DataW H)} {d : DataW H}, d ∈ l → n ∈ d.weights P e → n ∈ DataW.weightsAll P e l
  | x :: l, d, hd, hn => by
    simp only [DataW.weightsAll, List.mem_append]
    rcases List.mem_cons.1 hd with rfl | hd
    · exact .inl hn
    · exact .inr (weightsAll_mem hd hn)
theorem OpensZ.slice {α : Type} {P : Program} {t e : TypeId} {d : Kd α} {wf : α → Prop} (ht : P.underlying t = some (.slice e)) (hsz : P.cellsOf e = d.sz) (he : OpensZ P e d wf) :
    OpensZ P t (Kd.slice e d) (fun l => (∀ x ∈ l, wf x) ∧ l.length * P.bytesOf e ≤ reachBytes) := ⟨fun {H enc w held fuel cs x} h hz => by
  rcases open_slice ht h with ⟨rfl, rfl⟩ | ⟨a, len, cap, m, n, D, Pl, rfl, hb, hl, hm, hmm, rfl, hx⟩
  · exact ⟨[], ⟨none, 0, rfl, by simp, Kd.C_nil d w⟩, fun x hx => (by simp at hx), by simp⟩
  · have hmc : len ≤ m := by rw [hmm]; simp; omega
    obtain ⟨l, hll, hlp⟩ := choose_list (fun i (b : α) => ∃ cs', w.cells? 0 (a.add (i * P.cellsOf e)) (P.cellsOf e) = some cs' ∧ d.K w b cs' ∧ wf b) len (fun i hi => by
      obtain ⟨cs', h1, h2⟩ := hx i (by omega)
      obtain ⟨b, hk, hw⟩ := he.read h2 (fun n hn => hz n (by
        simp only [DataW.weights, ht, List.mem_cons, List.mem_append]
        exact .inr (.inl (weightsAll_mem (List.mem_map.2 ⟨i, List.mem_range.2 hi, rfl⟩) hn))))
      exact ⟨b, cs', h1, hk, hw⟩)
    subst hll
    refine ⟨l, ⟨some a, cap, rfl, hl, ⟨rfl, by unfold maxLen at hm; omega, fun _ => ⟨a, rfl, fun j p hj => ?_⟩⟩⟩, fun x hx => ?_, ?_⟩
    · obtain ⟨cs', h1, hk, _⟩ := hlp j p hj
      obtain ⟨_, hlen, hat⟩ := World.cells?_some h1
      refine ⟨cs', d.K_len hk, hk, fun i u hu => ?_⟩
      have hi : i < P.cellsOf e := by have := (List.getElem?_eq_some_iff.1 hu).1; omega
      have h3 := hat i hi
      rw [hu, hsz, Go.Deep.add_add] at h3
      exact h3
    · obtain ⟨i, hi, rfl⟩ := List.getElem_of_mem hx
      obtain ⟨_, _, _, hw⟩ := hlp i l[i] (List.getElem?_eq_getElem hi)
      exact hw
    · have h4 := hz ((((List.range l.length).map D).length + ((List.range (m - l.length)).map fun j => D (l.length + j)).length) * P.bytesOf e) (by
        simp only [DataW.weights, ht]
        exact List.mem_cons_self)
      refine Nat.le_trans (Nat.mul_le_mul_right _ ?_) h4
      rw [List.length_map, List.length_range]
      omega⟩
structure OpensZs {α : Type} (P : Program) (fs : List Field) (off total : Nat) (d : Kd α) (wf : α → Prop) : Prop where
  read : ∀ {H : Type} {enc : TypeId × Value → H} {w : World} {held : Bool} {n : Nat} {cs : List Value} {xs : List (DataW H × List MemPlace)}, cs.length = total → xs.length = fs.length →
    (∀ (i : Nat) (f : Field), fs[i]? = some f → DataW.trod enc P w 0 (fun _ => true) held n f.type ((cs.drop f.offset).take (P.cellsOf f.type)) = xs[i]?) → (∀ n ∈ DataW.weightsEach P (fs.map (·.type)) (xs.map (·.1)), n ≤ reachBytes) → ∃ a : α, d.K w a (cs.drop off) ∧ wf a
theorem OpensZs.last {α : Type} {P : Program} {f : Field} {off total : Nat} {d : Kd α} {wf : α → Prop} (hoff : f.offset = off) (hsz : P.cellsOf f.type = d.sz) (htot : off + d.sz = total) (h : OpensZ P f.type d wf) : OpensZs P [f] off total d wf :=
  ⟨fun {H enc w held n cs xs} hcs hxs hr hz => by
    match xs, hxs with
    | [x], _ =>
      have h1 := hr 0 f rfl
      rw [hoff, hsz, List.take_of_length_le (by rw [List.length_drop]; omega)] at h1
      exact h.read h1 (fun n hn => hz n (by simp only [List.map_cons, List.map_nil, DataW.weightsEach, List.mem_append]; exact .inl hn))⟩
theorem OpensZs.cons {α β : Type} {P : Program} {f : Field} {fs : List Field} {off total : Nat} {d : Kd α} {e : Kd β} {wf : α → Prop} {wf' : β → Prop} (hoff : f.offset = off) (hsz : P.cellsOf f.type = d.sz) (h : OpensZ P f.type d wf)
    (hs : OpensZs P fs (off + d.sz) total e wf') : OpensZs P (f :: fs) off total (Kd.pair d e) (fun x => wf x.1 ∧ wf' x.2) :=
  ⟨fun {H enc w held n cs xs} hcs hxs hr hz => by
    match xs, hxs with
    | x :: xs, hxs =>
      have h1 := hr 0 f rfl
      rw [hoff, hsz] at h1
      obtain ⟨a, hk, hw⟩ := h.read h1 (fun n hn => hz n (by simp only [List.map_cons, DataW.weightsEach, List.mem_append]; exact .inl hn))
      obtain ⟨b, hk2, hw2⟩ := hs.read hcs (by simpa using hxs) (fun i g hg => by have := hr (i + 1) g (by simpa using hg); simpa using this) (fun n hn => hz n (by simp only [List.map_cons, DataW.weightsEach, List.mem_append]; exact .inr hn))
      refine ⟨(a, b), ⟨_, _, ?_, hk, hk2⟩, ⟨hw, hw2⟩⟩
      rw [← List.drop_drop, List.take_append_drop]⟩
theorem OpensZ.struct {α β : Type} {P : Program} {t : TypeId} {fs : Array Field} {total : Nat} {d : Kd α} {wf : α → Prop} (f : β → α) (g : α → β) (hfg : ∀ a, f (g a) = a) (ht : P.underlying t = some (.struct fs)) (hc : P.cellsOf t = total) (h : OpensZs P fs.toList 0 total d wf) :
    OpensZ P t (Kd.iso d f) (fun b => wf (f b)) := ⟨fun {H enc w held fuel cs x} hx hz => by
  obtain ⟨xs, n, _, rfl, hl, hxl, hi⟩ := DataW.trod_struct ht hx
  obtain ⟨a, hk, hw⟩ := h.read (hl.trans hc) (by simpa using hxl) (fun i f hf => hi i f (by simpa using hf)) (fun n hn => hz n (by simp only [DataW.weights, ht]; exact hn))
  refine ⟨g a, ?_, ?_⟩
  · show d.K w (f (g a)) cs
    rw [hfg]
    simpa using hk
  · rw [hfg]; exact hw⟩
/-- What a row's weights say of one argument. -/
theorem weights_part {H : Type} {P : Program} {ts : List TypeId} {ds : List (DataW H)} (h : (DataW.weightsEach P ts ds).all (· ≤ reachBytes) = true) {j : Nat} {t : TypeId} {d : DataW H} (ht : ts[j]? = some t) (hd : ds[j]? = some d) : ∀ n ∈ d.weights P t, n ≤ reachBytes :=
  fun n hn => by simpa using List.all_eq_true.1 h n (DataW.weights_mem_each ht hd n hn)
end Go.Proofs.Ythmkdmdfahhpmaa.Hand
