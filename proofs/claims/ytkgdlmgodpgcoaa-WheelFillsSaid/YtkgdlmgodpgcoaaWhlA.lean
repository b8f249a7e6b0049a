/- Wheel: what lies in memory; New, ring, slot, Len, Now. -/
import Derived.Test.YtkgdlmgodpgcoaaProg
import Derived.Test.YtkgdlmgodpgcoaaWMore
import Derived.Below
import Derived.WalkKit
import Derived.Outline
import Derived.Carry
import Derived.Maps.RangeWalk
import Derived.Maps.OwnSet
import Derived.Maps.OwnOps
import Derived.Maps.Views
namespace Go.Proofs.Ytkgdlmgodpgcoaa.Hand
open Go.RowKit Go.Maps Go.Proofs.YtkgdlmgodpgcoaaW.PrintWords Go.Proofs.YtkgdlmgodpgcoaaW.PrintLast Go.Proofs.YtkgdlmgodpgcoaaW.PrintMore
set_option linter.unusedVariables false
set_option linter.unusedSimpArgs false

/-- A wheel's cells: the time, the rings (64 slots each) and the far list, the map. -/
structure WhlCells (cs : Array Value) (m : Nat) (now : Int) (R : Nat → Value) : Prop where
  size : cs.size = 259
  c0 : cs[0]? = some (.int .u64 now)
  cr : ∀ i, i < 257 → cs[1 + i]? = some (R i)
  cm : cs[258]? = some (.map (some m))
def WhlAt (w : World) (g m : Nat) (now : Int) (R : Nat → Value) : Prop := ∃ cs, w.heap[g]? = some (.cells cs 80 (0, 0)) ∧ WhlCells cs m now R
theorem WhlAt.now_ {w : World} {g m : Nat} {now : Int} {R : Nat → Value} (h : WhlAt w g m now R) : w.cell? ⟨g, 0, none⟩ = some (.int .u64 now) := by
  obtain ⟨cs, h1, h2⟩ := h
  exact (blk_cell h1 0).trans h2.c0
theorem WhlAt.ring_ {w : World} {g m : Nat} {now : Int} {R : Nat → Value} (h : WhlAt w g m now R) (i : Nat) (hi : i < 257) : w.cell? ⟨g, 1 + i, none⟩ = some (R i) := by
  obtain ⟨cs, h1, h2⟩ := h
  exact (blk_cell h1 (1 + i)).trans (h2.cr i hi)
theorem WhlAt.map_ {w : World} {g m : Nat} {now : Int} {R : Nat → Value} (h : WhlAt w g m now R) : w.cell? ⟨g, 258, none⟩ = some (.map (some m)) := by
  obtain ⟨cs, h1, h2⟩ := h
  exact (blk_cell h1 258).trans h2.cm
theorem WhlAt.frozen {w : World} {g m : Nat} {now : Int} {R : Nat → Value} (h : WhlAt w g m now R) (i : Nat) : w.frozen? ⟨g, i, none⟩ = false := by
  obtain ⟨cs, h1, h2⟩ := h
  exact blk_frozen h1 i
theorem WhlAt.lt {w : World} {g m : Nat} {now : Int} {R : Nat → Value} (h : WhlAt w g m now R) : g < w.heap.size := by
  obtain ⟨cs, h1, h2⟩ := h
  exact blk_lt h1
theorem WhlAt.same {w w' : World} {g m : Nat} {now : Int} {R : Nat → Value} (h : WhlAt w g m now R) (e : w'.heap[g]? = w.heap[g]?) : WhlAt w' g m now R := by
  obtain ⟨cs, h1, h2⟩ := h
  exact ⟨cs, e.trans h1, h2⟩
theorem WhlAt.below {w w' : World} {g m : Nat} {now : Int} {R : Nat → Value} (h : WhlAt w g m now R) (hb : Below w.heap.size w w') : WhlAt w' g m now R := h.same (hb.block g h.lt)
theorem WhlAt.grown {w w' : World} {g m : Nat} {now : Int} {R : Nat → Value} {row : Option Nat} (h : WhlAt w g m now R) (hg : w.grownBy w' row) (hne : some g ≠ row) : WhlAt w' g m now R := h.same (hg.block g h.lt hne)
def upd (R : Nat → Value) (j : Nat) (v : Value) : Nat → Value := fun i => if i = j then v else R i
theorem WhlAt.put {w : World} {g m : Nat} {now : Int} {R : Nat → Value} (h : WhlAt w g m now R) (j : Nat) (hj : j < 257) (v : Value) : WhlAt (w.setCell ⟨g, 1 + j, none⟩ v) g m now (upd R j v) := by
  obtain ⟨cs, h1, h2⟩ := h
  refine ⟨_, blk_put h1 (1 + j) v rfl, by simp [h2.size], ?_, fun i hi => ?_, ?_⟩
  · rw [Array.getElem?_setIfInBounds_ne (by omega)]; exact h2.c0
  · unfold upd
    by_cases e : i = j
    · subst e
      rw [if_pos rfl, Array.getElem?_setIfInBounds_self_of_lt (by rw [h2.size]; omega)]
    · rw [if_neg e, Array.getElem?_setIfInBounds_ne (by omega)]; exact h2.cr i hi
  · rw [Array.getElem?_setIfInBounds_ne (by omega)]; exact h2.cm
theorem WhlAt.far {w : World} {g m : Nat} {now : Int} {R : Nat → Value} (h : WhlAt w g m now R) {p : Addr} (hp : g ≠ p.block) (v : Value) : WhlAt (w.setCell p v) g m now R := h.same (Below.heap_setCell w p v g hp)
theorem WhlAt.time {w : World} {g m : Nat} {now : Int} {R : Nat → Value} (h : WhlAt w g m now R) (t : Int) : WhlAt (w.setCell ⟨g, 0, none⟩ (.int .u64 t)) g m t R := by
  obtain ⟨cs, h1, h2⟩ := h
  refine ⟨_, blk_put h1 0 (.int .u64 t) rfl, by simp [h2.size], ?_, fun i hi => ?_, ?_⟩
  · rw [Array.getElem?_setIfInBounds_self_of_lt (by rw [h2.size]; omega)]
  · rw [Array.getElem?_setIfInBounds_ne (by omega)]; exact h2.cr i hi
  · rw [Array.getElem?_setIfInBounds_ne (by omega)]; exact h2.cm

abbrev DT := DataW Unit
abbrev Due (w : World) (m n : Nat) (D : DT) : Prop := w.ownsMap Try.prog 22 (plainElem Try.prog 22) m n D
theorem law22 : Keyed Try.prog 22 := int_keyed Try.underlying22
theorem zero22 (w : World) : (zeroValue 22).run Try.prog w = .ok (.int .u64 0) w := by kernel_rfl

theorem zeros80 : Try.zeroCells80 = (Value.int .u64 0 :: (List.replicate 257 (Value.slice none 0 0) ++ [Value.map none])).toArray := by kernel_rfl
set_option maxHeartbeats 2000000 in
set_option maxRecDepth 100000 in
theorem wheel_New.calls (now : Int) (w : World) :
    Calls Try.prog 16 #[.int .u64 now] w fun e w' => ∃ g m, e = .returned (.pointer (some ⟨g, 0, none⟩)) ∧ WhlAt w' g m now (fun _ => .slice none 0 0) ∧ Due w' m 0 (.map []) ∧ Below w.heap.size w w' ∧ w.heap.size ≤ g ∧ w.heap.size ≤ m := by
  have hmm := @run_makeMap Try.prog
  go_enter Try.func16, Try.ntmps16
  go_wp2_with fail
  go_ret
  have hb := blk_new (w.alloc (.map #[] 0)) (.cells ((Try.zeroCells80.setIfInBounds 0 (.int .u64 now)).setIfInBounds 258 (.map (some w.heap.size))) 80 (0, 0))
  rw [World.size_alloc] at hb
  refine ⟨w.heap.size + 1, w.heap.size, rfl, ⟨_, hb, ⟨?_, ?_, fun i hi => ?_, ?_⟩⟩, (World.ownsMap_made w Try.prog 22 (plainElem Try.prog 22)).alloc _, below_alloc (below_alloc (Below.refl _ _) _) _, by omega, Nat.le_refl _⟩
  · rw [zeros80]; simp
  · rw [zeros80, Array.getElem?_setIfInBounds_ne (by omega)]
    rfl
  · rw [zeros80, Array.getElem?_setIfInBounds_ne (by omega), Array.getElem?_setIfInBounds_ne (by omega)]
    rw [List.getElem?_toArray, Nat.add_comm, List.getElem?_cons_succ, List.getElem?_append_left (by simp; omega), List.getElem?_replicate, if_pos hi]
  · rw [Array.getElem?_setIfInBounds_self_of_lt (by rw [zeros80]; simp)]
/-- The ring of a difference. -/
def ringOf (x : Int) : Nat := if x / 64 = 0 then 0 else if x / 4096 = 0 then 1 else if x / 262144 = 0 then 2 else if x / 16777216 = 0 then 3 else 4
set_option maxHeartbeats 2000000 in
set_option maxRecDepth 100000 in
theorem wheel_ring.calls (g m : Nat) (now at_ x : Int) (R : Nat → Value) (w : World) (hW : WhlAt w g m now R) (hx : Go.bits .xor .u64 at_ now = x) (h0 : 0 ≤ x) :
    Calls Try.prog 41 #[.pointer (some ⟨g, 0, none⟩), .int .u64 at_] w fun e w' => e = .returned (.int .i64 (ringOf x)) ∧ w' = w := by
  have c0 := hW.now_
  go_enter Try.func41, Try.ntmps41
  go_wp2_with fail
  clear hx c0 hW
  refine wp_loop_rounds 5 ?_
  rw [rounds_succ]
  by_cases g0 : x / 64 = 0
  · have b0 : (x / 64 == 0) = true := beq_iff_eq.mpr g0
    have HR : Aside0 (ringOf x = 0) := ⟨by unfold ringOf; rw [if_pos g0]⟩
    clear g0
    go_wp2_with fail
    go_ret
    exact ⟨by rw [HR.out]; rfl, rfl⟩
  have b0 : (x / 64 == 0) = false := beq_eq_false_iff_ne.mpr g0
  go_wp2_with fail
  rw [rounds_succ]
  by_cases g1 : x / 4096 = 0
  · have b1 : (x / 4096 == 0) = true := beq_iff_eq.mpr g1
    have HR : Aside0 (ringOf x = 1) := ⟨by unfold ringOf; rw [if_neg g0, if_pos g1]⟩
    clear g0 g1
    go_wp2_with fail
    go_ret
    exact ⟨by rw [HR.out]; rfl, rfl⟩
  have b1 : (x / 4096 == 0) = false := beq_eq_false_iff_ne.mpr g1
  go_wp2_with fail
  rw [rounds_succ]
  by_cases g2 : x / 262144 = 0
  · have b2 : (x / 262144 == 0) = true := beq_iff_eq.mpr g2
    have HR : Aside0 (ringOf x = 2) := ⟨by unfold ringOf; rw [if_neg g0, if_neg g1, if_pos g2]⟩
    clear g0 g1 g2
    go_wp2_with fail
    go_ret
    exact ⟨by rw [HR.out]; rfl, rfl⟩
  have b2 : (x / 262144 == 0) = false := beq_eq_false_iff_ne.mpr g2
  go_wp2_with fail
  rw [rounds_succ]
  by_cases g3 : x / 16777216 = 0
  · have b3 : (x / 16777216 == 0) = true := beq_iff_eq.mpr g3
    have HR : Aside0 (ringOf x = 3) := ⟨by unfold ringOf; rw [if_neg g0, if_neg g1, if_neg g2, if_pos g3]⟩
    clear g0 g1 g2 g3
    go_wp2_with fail
    go_ret
    exact ⟨by rw [HR.out]; rfl, rfl⟩
  have b3 : (x / 16777216 == 0) = false := beq_eq_false_iff_ne.mpr g3
  go_wp2_with fail
  rw [rounds_succ]
  have HR : Aside0 (ringOf x = 4) := ⟨by unfold ringOf; rw [if_neg g0, if_neg g1, if_neg g2, if_neg g3]⟩
  clear g0 g1 g2 g3
  go_wp2_with fail
  go_ret
  exact ⟨by rw [HR.out]; rfl, rfl⟩
theorem ringOf_le (x : Int) : ringOf x ≤ 4 := by
  unfold ringOf
  repeat' split
  all_goals omega
end Go.Proofs.Ytkgdlmgodpgcoaa.Hand
