/- Wheel: slices.SortFunc of a row of timers of the call's own, at every length. -/
import Derived.Test.YtkgdlmgodpgcoaaWhlS
import Derived.Shelf.SlSortCmp.NoneTotal
namespace Go.Proofs.Ytkgdlmgodpgcoaa.Hand
open Go.RowKit Go.Maps Go.Proofs.YtkgdlmgodpgcoaaW.PrintWords Go.Proofs.YtkgdlmgodpgcoaaW.PrintLast Go.Proofs.YtkgdlmgodpgcoaaW.PrintMore
open Go.Shelf Go.Sort
set_option linter.unusedVariables false
set_option linter.unusedSimpArgs false

def encT (x : TimT) : List Value := [.int .u64 x.1, .int .u64 x.2]
theorem ltT (x y : TimT) : ltOf cfT x y = decide (x.2 < y.2 ∨ (x.2 = y.2 ∧ x.1 < y.1)) := by
  unfold ltOf cfT orI cmpI
  by_cases h1 : x.2 < y.2
  · simp [h1]
  · by_cases h2 : y.2 < x.2
    · simp [h1, h2]; omega
    · have h3 : x.2 = y.2 := by omega
      by_cases h4 : x.1 < y.1
      · simp [h3, h4]
      · by_cases h5 : y.1 < x.1
        · simp [h3, h4, h5]
        · simp [h3, h4, h5]
theorem swoT : SWO (ltOf cfT) where
  irrefl x := by rw [ltT]; simp
  trans x y z h1 h2 := by rw [ltT] at *; simp at *; omega
  ntrans x y z h1 h2 := by rw [ltT] at *; simp at *; omega
theorem eqT (x y : TimT) (h1 : ltOf cfT x y = false) (h2 : ltOf cfT y x = false) : x = y := by
  rw [ltT] at h1 h2
  simp at h1 h2
  obtain ⟨a, b⟩ := x
  obtain ⟨c, d⟩ := y
  simp only at h1 h2
  have e2 : b = d := by omega
  have e1 : a = c := by
    subst e2
    have := h1.2 rfl
    have := h2.2 rfl
    omega
  rw [e1, e2]
/-- Timers, by their times, then by their numbers. -/
def sorted (l : List TimT) : List TimT := l.mergeSort fun x y => !(ltOf cfT) y x
theorem sorted_length (l : List TimT) : (sorted l).length = l.length := List.length_mergeSort _
theorem take2 {α : Type} {L : List α} {k : Nat} {a b : α} (h0 : L[k]? = some a) (h1 : L[k + 1]? = some b) : (L.drop k).take 2 = [a, b] := by
  obtain ⟨g0, e0⟩ := List.getElem?_eq_some_iff.1 h0
  obtain ⟨g1, e1⟩ := List.getElem?_eq_some_iff.1 h1
  rw [List.drop_eq_getElem_cons g0, List.drop_eq_getElem_cons g1, List.take_succ_cons, List.take_succ_cons, List.take_zero, e0, e1]
theorem flat_get (d : Array TimT) (j c : Nat) (hj : j < d.size) (hc : c < 2) : (flatK encT 2 d).toList[j * 2 + c]? = some (encT d[j]!)[c]! := by
  have hlt : j * 2 + c < d.size * 2 := by omega
  have h := get_flatK encT 2 d (j * 2 + c) hlt
  rw [show (j * 2 + c) / 2 = j by omega, show (j * 2 + c) % 2 = c by omega] at h
  rw [← h, Array.getElem?_toList, getElem!_pos _ _ (by rw [size_flatK]; exact hlt), Array.getElem?_eq_getElem (by rw [size_flatK]; exact hlt)]
theorem flat_reps (w : World) (base : Nat) (ok : Nat → Prop) (l : List TimT) : Reps (kT.M w base ok) 2 l (flatK encT 2 l.toArray).toList := by
  refine ⟨by simp, fun j p hj => ?_⟩
  obtain ⟨hl, e⟩ := List.getElem?_eq_some_iff.1 hj
  have hp : l.toArray[j]! = p := by rw [getElem!_pos _ j (by simpa using hl)]; simpa using e
  have h0 := flat_get l.toArray j 0 (by simpa using hl) (by decide)
  have h1 := flat_get l.toArray j 1 (by simpa using hl) (by decide)
  rw [hp] at h0 h1
  rw [Nat.add_zero] at h0
  rw [take2 h0 h1]
  exact kT_M w base ok p
theorem reps_flat {w : World} {base : Nat} {ok : Nat → Prop} {l : List TimT} {cs : List Value} (h : Reps (kT.M w base ok) 2 l cs) : cs = (flatK encT 2 l.toArray).toList := by
  apply List.ext_getElem?
  intro t
  by_cases ht : t < l.length * 2
  · have hj : t / 2 < l.length := by omega
    obtain ⟨_, _, e, h0, h1⟩ := h.2 (t / 2) _ (List.getElem?_eq_getElem hj)
    obtain rfl := h0
    obtain rfl := h1
    have hp : l.toArray[t / 2]! = l[t / 2] := by rw [getElem!_pos _ (t / 2) (by simpa using hj)]; simp
    have hg := flat_get l.toArray (t / 2) (t % 2) (by simpa using hj) (by omega)
    rw [hp, show t / 2 * 2 + t % 2 = t by omega] at hg
    rw [hg]
    have e2 : ((cs.drop (t / 2 * 2)).take 2)[t % 2]? = (encT l[t / 2])[t % 2]? := by rw [e]; rfl
    rw [List.getElem?_take_of_lt (by omega), List.getElem?_drop, show t / 2 * 2 + t % 2 = t by omega] at e2
    rw [e2]
    have hc : t % 2 = 0 ∨ t % 2 = 1 := by omega
    rcases hc with hc | hc <;> rw [hc] <;> rfl
  · rw [List.getElem?_eq_none (by rw [h.1]; omega), List.getElem?_eq_none (by simp; omega)]
theorem heap_sortedT {w : World} {g n : Nat} {os : Array Obj} {cur : Array Value} {e : TypeId} {fr : Nat × Nat} (d : Array TimT) (hb : w.heap[g]? = some (.cells cur e fr)) :
    (sortWorldK encT 2 w g 0 n d os).heap[g]? = some (.cells (putCells id 0 (flatK encT 2 d) cur) e fr) := by
  have hg : g < w.heap.size := (Array.getElem?_eq_some_iff.1 hb).1
  unfold sortWorldK putRowK
  rw [heap_grow_old _ _ (by simpa using hg)]
  simp [putRow, mapBlock, Sort.ahead, Array.getElem?_modify, hb, onCells]
theorem grownBy_sortedT {w : World} {g n : Nat} {os : Array Obj} (d : Array TimT) : w.grownBy (sortWorldK encT 2 w g 0 n d os) (some g) := by
  unfold sortWorldK putRowK
  refine ⟨rfl, rfl, rfl, by simp, fun k hk hne => ?_⟩
  rw [heap_grow_old _ _ (by simpa using hk)]
  have : g ≠ k := fun e => hne (by rw [e])
  simp [putRow, mapBlock, Sort.ahead, Array.getElem?_modify, this]
theorem take_putFlat (cur F : Array Value) (h : F.size ≤ cur.size) : (putCells id 0 F cur).toList.take F.size = F.toList := by
  apply List.ext_getElem?
  intro j
  by_cases hj : j < F.size
  · rw [List.getElem?_take_of_lt hj, Array.getElem?_toList, Array.getElem?_toList]
    simp [putCells, hj, show j < cur.size by omega]
  · rw [List.getElem?_take_eq_none (by omega), List.getElem?_eq_none (by simp; omega)]
theorem holds_of_row {w : World} {g : Nat} {cur : Array Value} {e : TypeId} {l : List TimT} (hb : w.heap[g]? = some (.cells cur e (0, 0))) (ht : cur.toList.take (l.length * 2) = (flatK encT 2 l.toArray).toList) : HoldsK encT 2 w g 0 l.toArray := by
  intro j hj
  have hj' : j < l.length * 2 := by simpa using hj
  refine ⟨?_, by simp [World.frozen?, hb]⟩
  have h1 : (cur.toList.take (l.length * 2))[j]? = (flatK encT 2 l.toArray).toList[j]? := by rw [ht]
  rw [List.getElem?_take_of_lt hj'] at h1
  simp only [World.cell?, hb, Nat.zero_add]
  simp only [Option.isSome_none, Bool.false_eq_true, if_false]
  rw [← Array.getElem?_toList, h1, Array.getElem?_toList, Array.getElem?_eq_getElem (by simpa using hj'), getElem!_pos _ j (by simpa using hj')]
  rfl
theorem agg84 : ∀ w, (isAgg (sortT_ren.t 24)).run Try.prog w = .ok true w := Try.isAgg84
theorem size84 : ∀ w, (Go.sizeOf (sortT_ren.t 24)).run Try.prog w = .ok 2 w := Try.sizeOf84
theorem cmpLays44 (blk off size : Nat) (w : World) : CmpLays Try.prog 44 #[] encT 2 cfT blk off size w :=
  fun _ _ _ _ x y => closure44 x.1 x.2 y.1 y.2 _
set_option maxHeartbeats 1000000 in
theorem sort_timers.calls (w : World) (base i : Nat) (f : Nat → Nat) (A : Option Addr) (c : Nat) (l : List TimT) (h : TR w base f i (.slice A l.length c) l) (hl : l.length ≤ 1000000) :
    Calls Try.prog 43 #[.slice A l.length c, .func (.func 44) #[] #[]] w fun e w' => e = .returned (.tuple #[]) ∧ TR w' base f i (.slice A l.length c) (sorted l) ∧ w.grownBy w' (Value.slice A l.length c).ownBlock := by
  cases hz : l with
  | nil =>
    subst hz
    have hcon := AnyF.slices_SortFunc_none sortT A c (.func (.func 44) #[] #[]) w
    refine Calls.mono hcon ?_
    rintro e w' ⟨rfl, rfl⟩
    exact ⟨rfl, by rw [show sorted [] = [] from List.mergeSort_nil]; exact h, ⟨rfl, rfl, rfl, Nat.le_refl _, fun _ _ _ => rfl⟩⟩
  | cons t r =>
    rw [← hz]
    have hpos : 0 < l.length := by rw [hz]; simp
    obtain ⟨h0, inner, ho, hr⟩ := h
    rcases ho.2 with ⟨e, _⟩ | ⟨g, cap, cur, e, hbase, hb, h1, h2, h3, h4⟩
    · injection e with e1 e2 e3
      omega
    · injection e with e1 e2 e3
      subst e1 e3
      have hin := reps_flat hr
      have hH : HoldsK encT 2 w g 0 l.toArray := holds_of_row hb (by rw [← hin]; exact h4)
      have eg : ∀ args w, (callFunc 44 args).run Try.prog w = .ok (.enter 44 args) w := enters_of Try.func44 (by kernel_rfl) rfl
      have hcon := AnyQ.slices_SortFunc_total sortT 2 agg84 size84 encT (fun _ => rfl) (fun x v hv => by simp [encT] at hv; rcases hv with rfl | rfl <;> rfl) cfT swoT 44 #[] g 0 c l.toArray w eg (cmpLays44 g 0 _ w) hH (Array.getElem?_eq_some_iff.1 hb).1 (by simp; omega) eqT
      rw [List.size_toArray] at hcon
      refine Calls.mono hcon ?_
      rintro e w' ⟨rfl, n, os, rfl⟩
      refine ⟨rfl, ⟨h0, (flatK encT 2 (sorted l).toArray).toList, ⟨?_, .inr ⟨g, c, _, ?_, hbase, heap_sortedT _ hb, ?_, h2, ?_, ?_⟩⟩, flat_reps _ _ _ _⟩, grownBy_sortedT _⟩
      · simp [kT, Kd.iso, Kd.pair, Kd.int, Kd.scalar]
      · rw [sorted_length]
      · rw [sorted_length]; exact h1
      · rw [show (putCells id 0 (flatK encT 2 (List.mergeSort l.toArray.toList _).toArray) cur).size = cur.size by simp [putCells]]; exact h3
      · have hs : (flatK encT 2 (sorted l).toArray).size = (sorted l).length * 2 := by simp
        show (putCells id 0 (flatK encT 2 (sorted l).toArray) cur).toList.take ((sorted l).length * 2) = _
        rw [← hs]
        exact take_putFlat _ _ (by rw [hs, sorted_length, h3]; exact Nat.mul_le_mul_right 2 h1)
end Go.Proofs.Ytkgdlmgodpgcoaa.Hand
