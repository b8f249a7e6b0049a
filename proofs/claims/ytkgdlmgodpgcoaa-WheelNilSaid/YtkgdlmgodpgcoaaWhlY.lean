/- Wheel: WheelNil. -/
import Derived.Test.YtkgdlmgodpgcoaaWhlZ
import Derived.Test.YtkgdlmgodpgcoaaWhlH
namespace Go.Proofs.Ytkgdlmgodpgcoaa.Hand
open Go.RowKit Go.Maps Go.Proofs.YtkgdlmgodpgcoaaW.PrintWords Go.Proofs.YtkgdlmgodpgcoaaW.PrintLast Go.Proofs.YtkgdlmgodpgcoaaW.PrintMore
open Go.Shelf
set_option linter.unusedVariables false
set_option linter.unusedSimpArgs false
attribute [local go_sem] Oper.semAt_some
theorem cell_newW (W : World) (v : Value) (t : TypeId) : (W.alloc (.cells #[v] t)).cell? ⟨W.heap.size, 0, none⟩ = some v ∧ (W.alloc (.cells #[v] t)).frozen? ⟨W.heap.size, 0, none⟩ = false :=
  ⟨(blk_cell (blk_new W (.cells #[v] t (0, 0))) 0).trans rfl, blk_frozen (blk_new W (.cells #[v] t (0, 0))) 0⟩
theorem cell_allocW {W : World} {a : Addr} {v : Value} (o : Obj) (h : W.cell? a = some v) : (W.alloc o).cell? a = some v := pw_cell_below (below_alloc (Below.refl W.heap.size W) o) h
set_option maxHeartbeats 4000000 in
set_option maxRecDepth 100000 in
theorem wheelNil_machine (w : World) (id : Int) (_w1 : (Lit.int .u64 id).wf = true) (at_ : Int) (_w2 : (Lit.int .u64 at_).wf = true) : Calls Try.prog 11 #[.int .u64 id, .int .u64 at_] w fun e w' => e = .returned (.bool true) ∧ Below w.heap.size w w' := by
  refine (callsIn_wide (n := 3)).1 ?_
  refine callsIn_of_wp_marks Try.func11 rfl trivial ?_ rfl
  simp only [Try.ntmps11, List.size_toArray, List.length_cons, List.length_nil, Nat.reduceAdd, Nat.reduceSub, Array.replicate_succ, Array.replicate_zero, List.push_toArray, List.append_toArray, List.nil_append, List.cons_append]
  have hq : ∀ B W, (binOp BinOp.eql 73 (.func (.func 54) #[] #[.pointer (some ⟨B, 0, none⟩)]) .nilFunc).run Try.prog W = .ok (.bool false) W := fun B W => by kernel_rfl
  have heq : ∀ W, (Op.equalIn 10000 40 (.agg #[.int .i64 0, .int .i64 0, .int .i64 0, .int .i64 0, .int .i64 0]) (.agg #[.int .i64 0, .int .i64 0, .int .i64 0, .int .i64 0, .int .i64 0])).run Try.prog W = .ok true W := fun W => by kernel_rfl
  gi_wp2_with (refine ⟨trivial, ?_⟩; first
    | (gi_at_call 23; refine (callsIn_wide.2 (nil_Advance _ _)).mono ?_; rintro e w1 ⟨rfl, rfl⟩)
    | (gi_at_call 31; refine (callsIn_wide.2 (nil_At _ _)).mono ?_; rintro e w1 ⟨rfl, rfl⟩)
    | (gi_at_call 36; refine (callsIn_wide.2 (nil_Next _)).mono ?_; rintro e w1 ⟨rfl, rfl⟩)
    | (gi_at_call 37; refine (callsIn_wide.2 (nil_Each _)).mono ?_; rintro e w1 ⟨rfl, rfl⟩))
  have c0 := cell_newW w1 (.slice none 0 0) 76
  have c1 := cell_newW (w1.alloc (.cells #[.slice none 0 0] 76)) (.int .i64 0) 3
  rw [World.size_alloc] at c1
  have hB0 : Below w1.heap.size w1 ((w1.alloc (.cells #[.slice none 0 0] 76)).alloc (.cells #[.int .i64 0] 3)) := ((Below.refl _ w1).alloc (Nat.le_refl _) _).alloc (by simp) _
  refine wpIn_rangeFunc_ownF rfl (by omega) (gf := 54) (lb := #[.pointer (some ⟨w1.heap.size, 0, none⟩)]) rfl trivial (enters_of Try.func54 (by kernel_rfl) rfl)
    (each2_nil_stops Fence.wide _ trivial rfl w1.heap.size w1.heap.size ((w1.alloc (.cells #[.slice none 0 0] 76)).alloc (.cells #[.int .i64 0] 3)) (by simp; omega) (cell_allocW _ c0.1)) belowK_t (belowK_b (by simp; omega)) (Below.refl _ _) (fun _ => rfl)
    (fun pre W => (W.cell? ⟨w1.heap.size + 1, 0, none⟩ = some (.int .i64 0) ∧ W.frozen? ⟨w1.heap.size + 1, 0, none⟩ = false) ∧ Below w1.heap.size w1 W)
    (fun _ _ _ => False)
    (OwnFrom.and (Own.from (fun s A B row hs hg hr => ⟨Go.cell_kept hs.1 hg hr, (Go.frozen_kept hs.1 hg hr).trans hs.2⟩) _) (ownFrom_below (Nat.le_refl _) (by simp; omega)))
    (fun _ _ _ _ _ hs _ _ => hs)
    ⟨c1, hB0⟩ ?a1 ?assign ?body ?done ?stop
  case assign =>
    intro l x W K hK
    gi_wp2
    exact hK
  case body =>
    rintro l pre x W _ h
    exact absurd h (Nat.not_lt_zero _)
  case done =>
    rintro D ys W hD rfl ⟨⟨hc, hf⟩, hB⟩ hK
    gi_wp2_with (refine ⟨trivial, ?_⟩; first
      | (gi_at_call 18; refine (callsIn_wide.2 (nil_Add _ _ _)).mono ?_; rintro e W2 ⟨rfl, rfl⟩)
      | (gi_at_call 14; refine (callsIn_wide.2 (law_num.calls _ _)).mono ?_; rintro e W2 ⟨rfl, rfl⟩)
      | (gi_at_call 27; refine (callsIn_wide.2 (nil_Remove _ _)).mono ?_; rintro e W2 ⟨rfl, hb⟩; replace hc := pw_cell_below hb hc; replace hK := (hb.block D (Array.getElem?_eq_some_iff.1 hK).1).trans hK; replace hB := hB.trans (hb.mono hB.size); clear hb)
      | (gi_at_call 30; refine (callsIn_wide.2 (nil_Now _)).mono ?_; rintro e W2 ⟨rfl, rfl⟩)
      | (gi_at_call 20; refine (callsIn_wide.2 (nil_Len _)).mono ?_; rintro e W2 ⟨rfl, rfl⟩)
      | (gi_at_call 21; refine (callsIn_wide.2 (nil_Spread _)).mono ?_; rintro e W2 ⟨rfl, hb⟩; replace hc := pw_cell_below hb hc; replace hK := (hb.block D (Array.getElem?_eq_some_iff.1 hK).1).trans hK; replace hB := hB.trans (hb.mono hB.size); clear hb)
      | (gi_at_call 15; refine (callsIn_wide.2 (law_live.calls _)).mono ?_; rintro e W2 ⟨rfl, hb⟩; replace hc := pw_cell_below hb hc; replace hK := (hb.block D (Array.getElem?_eq_some_iff.1 hK).1).trans hK; replace hB := hB.trans (hb.mono hB.size); clear hb))
    refine ⟨by simp, .inl ⟨_, _, rfl, run_takeDeferred hK, ?_⟩⟩
    exact ⟨_, results_tmp rfl _ _ _, rfl, hB.trans (belowK_b (w := w1) (Nat.le_refl _) _ D _ _ (by simp at hD; omega) hK rfl rfl)⟩
  case stop =>
    rintro D c pre W _ _ h _
    exact h.elim
end Go.Proofs.Ytkgdlmgodpgcoaa.Hand
