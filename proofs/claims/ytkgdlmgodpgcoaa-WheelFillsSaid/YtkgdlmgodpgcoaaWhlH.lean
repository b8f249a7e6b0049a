/- Wheel: live: three timers are laid down, and told in their order. -/
import Derived.Test.YtkgdlmgodpgcoaaWhlG
namespace Go.Proofs.Ytkgdlmgodpgcoaa.Hand
open Go.RowKit Go.Maps Go.Proofs.YtkgdlmgodpgcoaaW.PrintWords Go.Proofs.YtkgdlmgodpgcoaaW.PrintLast Go.Proofs.YtkgdlmgodpgcoaaW.PrintMore
open Go.Sort
set_option linter.unusedVariables false
set_option linter.unusedSimpArgs false

def leT (x y : TimT) : Prop := x.2 < y.2 ∨ (x.2 = y.2 ∧ x.1 ≤ y.1)
theorem leT_iff (x y : TimT) : (!(ltOf cfT) y x) = true ↔ leT x y := by
  rw [ltT]
  unfold leT
  simp
  omega
theorem sorted_perm (l : List TimT) : (sorted l).Perm l := List.mergeSort_perm _ _
theorem sorted_pair (l : List TimT) : (sorted l).Pairwise leT := by
  have h := List.pairwise_mergeSort (le := fun x y => !(ltOf cfT) y x) (fun a b c h1 h2 => by rw [leT_iff] at *; unfold leT at *; omega) (fun a b => by
    rw [Bool.or_eq_true, leT_iff, leT_iff]
    unfold leT
    omega) l
  exact h.imp (fun h => (leT_iff _ _).1 h)
theorem leT_anti (a b : TimT) (h1 : leT a b) (h2 : leT b a) : a = b := by
  obtain ⟨a1, a2⟩ := a
  obtain ⟨b1, b2⟩ := b
  unfold leT at h1 h2
  simp only at h1 h2
  have e2 : a2 = b2 := by omega
  have e1 : a1 = b1 := by omega
  rw [e1, e2]
theorem sorted_eq {l l' : List TimT} (hp : l.Perm l') (hs : l'.Pairwise leT) : sorted l = l' :=
  List.Perm.eq_of_pairwise (fun a b _ _ h1 h2 => leT_anti a b h1 h2) (sorted_pair l) hs ((sorted_perm l).trans hp)

theorem ic_mk {w : World} {ad : Addr} {l : List Int} (hn : l.length ≤ 9223372036854775807) (h : ∀ i, i < l.length → w.cell? (ad.add i) = some (.int .u64 (l.getD i 0))) : IC w (some ad) l.length l := by
  refine ⟨rfl, hn, fun _ => ⟨ad, rfl, fun j p hj => ⟨[.int .u64 p], rfl, rfl, fun i u hu => ?_⟩⟩⟩
  obtain ⟨h1, e⟩ := List.getElem?_eq_some_iff.1 hj
  obtain ⟨h2, e2⟩ := List.getElem?_eq_some_iff.1 hu
  have hi : i = 0 := by simpa using h2
  subst hi
  have h3 := h j h1
  rw [List.getD_eq_getElem?_getD, List.getElem?_eq_getElem h1] at h3
  show w.cell? (ad.add (j * 1 + 0)) = some u
  rw [Nat.mul_one, Nat.add_zero, h3, ← e2, ← e]
  rfl

def liveL : Nat → List TimT := fun i => if i = 37 then [(9, 101)] else if i = 41 then [(7, 105), (3, 105)] else []
theorem live_over : sorted (allT (isOver 105) liveL 64) = [(9, 101), (3, 105), (7, 105)] := by
  have h : allT (isOver 105) liveL 64 = [(9, 101), (7, 105), (3, 105)] := by rfl
  rw [h]
  refine sorted_eq ?_ ?_
  · exact List.Perm.cons _ (List.Perm.swap _ _ _)
  · simp [leT]
def liveD : DT := (((DataW.map []).put (.int .u64 7) (.lit (.int .u64 105))).put (.int .u64 3) (.lit (.int .u64 105))).put (.int .u64 9) (.lit (.int .u64 101))
theorem end13 : endOf 13 = 64 := by decide
set_option maxHeartbeats 2000000 in
set_option maxRecDepth 100000 in
theorem law_live.calls (w : World) : Calls Try.prog 15 #[] w fun e w' => e = .returned (.bool true) ∧ Below w.heap.size w w' := by
  go_enter Try.func15, Try.ntmps15
  go_wp2_with fail
  refine (wheel_New.calls 100 w).mono ?_
  rintro e w1 ⟨g, m, rfl, hW, hD, hb, hg, hm⟩
  have HS1 : Aside0 (WhlSt w w1 w.heap.size (fun _ => False) g m 0 100 (.map []) (fun _ => .slice none 0 0) (fun _ => 0) (fun _ => [])) := ⟨⟨hW, hD, fun i hi => Kd.R_nil _ _ _ _ _, hb, hg, hm, fun k h => h.elim, fun k h => h.elim⟩⟩
  clear hW hD hb hg hm
  go_wp2_with fail
  refine (wheel_Add.good w w.heap.size (fun _ => False) g m 0 100 7 105 13 _ _ _ _ w1 HS1.out (by decide) (by decide) (by decide) (by decide) (by decide) rfl (by decide) (by decide) (by decide) (fun _ => by simp)).mono ?_
  rintro e w2 ⟨rfl, R2, f2, hS2⟩
  have HS2 := Aside0.mk hS2
  clear hS2 HS1
  go_wp2_with (go_at_call 14; (with_reducible refine (law_num.calls _ _).mono ?_); rintro e w3 ⟨rfl, rfl⟩)
  refine (wheel_Add.good w w.heap.size (fun _ => False) g m 1 100 3 105 13 _ _ _ _ w3 HS2.out (by decide) (by decide) (by decide) (by decide) (by decide) rfl (by decide) (by decide) (by decide) (fun i => by split <;> simp)).mono ?_
  rintro e w4 ⟨rfl, R3, f3, hS3⟩
  have HS3 := Aside0.mk hS3
  clear hS3 HS2
  go_wp2_with (go_at_call 14; (with_reducible refine (law_num.calls _ _).mono ?_); rintro e w5 ⟨rfl, rfl⟩)
  refine (wheel_Add.good w w.heap.size (fun _ => False) g m 2 100 9 101 1 _ _ _ _ w5 HS3.out (by decide) (by decide) (by decide) (by decide) (by decide) rfl (by decide) (by decide) (by decide) (fun i => by repeat' split <;> simp)).mono ?_
  rintro e w6 ⟨rfl, R4, f4, hS4⟩
  have HS4 : Aside0 (WhlSt w w6 w.heap.size (fun _ => False) g m 3 100 liveD R4 f4 liveL) := ⟨hS4.congr (fun k => by
    have e1 : slotOf 105 13 = 41 := by decide
    have e2 : slotOf 101 1 = 37 := by decide
    unfold liveL
    rw [e1, e2]
    by_cases h1 : k = 37
    · subst h1; rfl
    · by_cases h2 : k = 41
      · subst h2; rfl
      · simp [h1, h2])⟩
  clear hS4 HS3
  go_wp2_with (go_at_call 14; (with_reducible refine (law_num.calls _ _).mono ?_); rintro e w7 ⟨rfl, rfl⟩)
  refine (wheel_Advance.good w w.heap.size (fun _ => False) g m 3 100 105 13 _ _ _ _ w7 HS4.out (by decide) (by decide) (by decide) (by decide) (by decide) ?hT (by decide) ?hL).mono ?_
  case hT =>
    intro k _ t ht
    unfold liveL at ht
    split at ht
    · simp at ht; subst ht; exact ⟨by decide, by decide⟩
    · split at ht
      · simp at ht; rcases ht with rfl | rfl <;> exact ⟨by decide, by decide⟩
      · simp at ht
  case hL =>
    intro s _
    unfold liveL
    repeat' split
    all_goals simp
  rintro e w8 ⟨R5, f5, v, rfl, hS5, hI5⟩
  rw [end13, live_over] at hS5 hI5
  obtain ⟨A, c, hv⟩ := Kd.R_slice hI5
  subst hv
  have HS5 := Aside0.mk hS5
  have HI5 := Aside0.mk hI5
  clear hS5 hI5 HS4
  go_wp2_with (go_at_call 14; (with_reducible refine (law_num.calls _ _).mono ?_); rintro e w9 ⟨rfl, rfl⟩)
  have HS10 := HS5.out.below (below_alloc (Below.refl w9.heap.size w9) (.cells #[.int .u64 9, .int .u64 3, .int .u64 7] 22)) HS5.out.size
  have hA : IC (w9.alloc (.cells #[.int .u64 9, .int .u64 3, .int .u64 7] 22)) A 3 [9, 3, 7] := (Kd.R_reads' (Kd.R_alloc HI5.out (.cells #[.int .u64 9, .int .u64 3, .int .u64 7] 22))).2.2
  have hB : IC (w9.alloc (.cells #[.int .u64 9, .int .u64 3, .int .u64 7] 22)) (some ⟨w9.heap.size, 0, none⟩) 3 [9, 3, 7] := ic_mk (l := [9, 3, 7]) (by decide) (fun i hi => by
    have hb := blk_new w9 (.cells #[.int .u64 9, .int .u64 3, .int .u64 7] 22 (0, 0))
    have h3 : i = 0 ∨ i = 1 ∨ i = 2 := by simp at hi; omega
    rcases h3 with rfl | rfl | rfl
    · exact (blk_cell hb 0).trans rfl
    · exact (blk_cell hb 1).trans rfl
    · exact (blk_cell hb 2).trans rfl)
  refine (law_ids.calls A (some ⟨w9.heap.size, 0, none⟩) 3 3 c 3 [9, 3, 7] [9, 3, 7] _ hA hB).mono ?_
  rintro e w11 ⟨rfl, hd⟩
  rw [show decide (([9, 3, 7] : List Int) = [9, 3, 7]) = true by decide]
  have HS11 := Aside0.mk (HS10.below hd.below HS10.size)
  clear hd HS10 hA hB HI5 HS5
  have hsz : Maps.size (dels liveD [(9, 101), (3, 105), (7, 105)]) = 0 := by kernel_rfl
  go_wp2_with fail
  refine (wheel_Len.calls g m 3 105 R5 (dels liveD [(9, 101), (3, 105), (7, 105)]) w11 HS11.out.whl HS11.out.due).mono ?_
  rintro e w12 ⟨rfl, rfl⟩
  rw [hsz]
  go_wp2_with fail
  refine (wheel_Now.calls g m 105 R5 w12 HS11.out.whl).mono ?_
  rintro e w13 ⟨rfl, rfl⟩
  go_wp2_with fail
  go_ret
  exact ⟨rfl, HS11.out.bel⟩
end Go.Proofs.Ytkgdlmgodpgcoaa.Hand
