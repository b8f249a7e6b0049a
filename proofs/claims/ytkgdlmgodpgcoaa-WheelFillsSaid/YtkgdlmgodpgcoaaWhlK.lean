/- Wheel: Spread. -/
import Derived.Test.YtkgdlmgodpgcoaaWhlO
import Derived.Deep.MidRow
namespace Go.Proofs.Ytkgdlmgodpgcoaa.Hand
open Go.RowKit Go.Maps Go.Proofs.YtkgdlmgodpgcoaaW.PrintWords Go.Proofs.YtkgdlmgodpgcoaaW.PrintLast Go.Proofs.YtkgdlmgodpgcoaaW.PrintMore
set_option linter.unusedVariables false
set_option linter.unusedSimpArgs false

def cntOf (Ls : List TimT) (now : Int) (k : Nat) : Nat := (Ls.filter fun t => decide (ringD t.2 now = k)).length
def ringN (L : Nat → List TimT) (lv : Nat) : Nat → Nat
  | 0 => 0
  | i + 1 => ringN L lv i + (L (lv * 64 + i)).length
theorem slot_ring (a b : Int) : slotD a b / 64 = ringD a b := by
  unfold slotD
  rcases ringD_cases a b with ⟨e, _⟩ | ⟨e, _⟩ | ⟨e, _⟩ | ⟨e, _⟩ | ⟨e, _⟩ <;> rw [e] <;> simp <;> omega
theorem ringN_eq {L : Nat → List TimT} {Ls : List TimT} {now : Int} (h : Slots L Ls now) {lv : Nat} (hlv : lv < 4) : ∀ i, i ≤ 64 → ringN L lv i = (Ls.filter fun t => decide (lv * 64 ≤ slotD t.2 now ∧ slotD t.2 now < lv * 64 + i)).length
  | 0, _ => by
    rw [List.filter_eq_nil_iff.2 (fun t _ => by simp)]
    rfl
  | i + 1, hi => by
    rw [ringN, ringN_eq h hlv i (by omega), (h (lv * 64 + i) (by omega)).length_eq, ← List.length_append]
    refine ((filter_or _ _ Ls (fun t _ => by simp; omega)).trans ?_).length_eq
    rw [List.filter_congr (fun t _ => ?_)]
    rw [Bool.eq_iff_iff]
    simp
    omega
theorem ring_cnt {L : Nat → List TimT} {Ls : List TimT} {now : Int} (h : Slots L Ls now) {lv : Nat} (hlv : lv < 4) : ringN L lv 64 = cntOf Ls now lv := by
  rw [ringN_eq h hlv 64 (Nat.le_refl _)]
  unfold cntOf
  rw [List.filter_congr (fun t _ => ?_)]
  rw [← slot_ring, Bool.eq_iff_iff]
  simp
  omega
theorem far_cnt {L : Nat → List TimT} {Ls : List TimT} {now : Int} (h : Slots L Ls now) : (L 256).length = cntOf Ls now 4 := by
  rw [(h 256 (by omega)).length_eq]
  unfold cntOf
  rw [List.filter_congr (fun t _ => ?_)]
  rw [← slot_ring, Bool.eq_iff_iff]
  have := slotD_lt t.2 now
  simp
  omega
theorem ringN_le {D : DT} {L : Nat → List TimT} {Ls : List TimT} {now : Int} (h : Facts D L now Ls) {lv i : Nat} (hlv : lv < 4) (hi : i ≤ 64) : ringN L lv i ≤ 8192 := by
  rw [ringN_eq h.slots hlv i hi]
  exact Nat.le_trans (List.length_filter_le _ _) h.len
theorem index77 (ag : Array Value) (i : Nat) (v : Value) (hi : i < 64) (h : ag[i]? = some v) (W : World) : (Instr.index 77 (.agg ag) (.int .i64 i)).run Try.prog W = .ok v W := by
  have h1 : (isAgg 76).run Try.prog W = .ok false W := by kernel_rfl
  have h2 : (Go.sizeOf 76).run Try.prog W = .ok 1 W := by kernel_rfl
  unfold Instr.index
  simp [asIntOf, run_underlying Try.underlying77, part, Sem.run_bind, h1, h2, h]
  omega
theorem info77 : (Try.prog.info? 77).map (·.size) = some 64 := by kernel_rfl
/-- The counters' block, the first i slots of ring lv counted. -/
structure SpI (w wr : World) (L : Nat → List TimT) (lv i : Nat) : Prop where
  blk : ∃ arr, wr.heap[w.heap.size + 1]? = some (.cells arr 40 (0, 0)) ∧ arr.size = 5 ∧ ∀ k, k < 5 → arr[k]? = some (.int .i64 ((if k < lv then ringN L k 64 else if k = lv then ringN L lv i else 0 : Nat) : Int))
  res : wr.heap[w.heap.size]? = some (.cells #[.int .i64 0, .int .i64 0, .int .i64 0, .int .i64 0, .int .i64 0] 40 (0, 0))
  bel : Below w.heap.size w wr
theorem SpI.put {w wr : World} {L : Nat → List TimT} {lv i : Nat} (h : SpI w wr L lv i) (hlv : lv < 4) : SpI w (wr.setCell ⟨w.heap.size + 1, lv, none⟩ (.int .i64 ((ringN L lv (i + 1) : Nat) : Int))) L lv (i + 1) := by
  obtain ⟨⟨arr, hb, hs, ha⟩, hr, hbel⟩ := h
  refine ⟨⟨_, blk_put hb lv _ rfl, by simpa using hs, fun k hk => ?_⟩, (Below.heap_setCell wr ⟨w.heap.size + 1, lv, none⟩ _ _ (by simp)).trans hr, hbel.setCell (p := ⟨w.heap.size + 1, lv, none⟩) (by simp) _⟩
  by_cases e : k = lv
  · subst e
    rw [Array.getElem?_setIfInBounds_self_of_lt (by omega), if_neg (by omega), if_pos rfl]
  · rw [Array.getElem?_setIfInBounds_ne (fun e2 => e e2.symm), ha k hk, if_neg e, if_neg e]
theorem SpI.next {w wr : World} {L : Nat → List TimT} {lv : Nat} (h : SpI w wr L lv 64) : SpI w wr L (lv + 1) 0 := by
  obtain ⟨⟨arr, hb, hs, ha⟩, hr, hbel⟩ := h
  refine ⟨⟨arr, hb, hs, fun k hk => ?_⟩, hr, hbel⟩
  rw [ha k hk]
  congr 3
  by_cases e : k = lv
  · subst e
    rw [if_neg (by omega), if_pos rfl, if_pos (by omega)]
  · by_cases e2 : k < lv
    · rw [if_pos e2, if_pos (by omega)]
    · rw [if_neg e2, if_neg e, if_neg (by omega)]
      split
      · rfl
      · rfl
set_option maxHeartbeats 4000000 in
set_option maxRecDepth 100000 in
theorem wheel_Spread.all {w : World} {F : Nat → Prop} {g m : Nat} {now : Int} {Ls : List TimT} (h : Wst w F g m now Ls) :
    Calls Try.prog 21 #[.pointer (some ⟨g, 0, none⟩)] w fun e w' => e = .returned (.agg #[.int .i64 (cntOf Ls now 0 : Nat), .int .i64 (cntOf Ls now 1 : Nat), .int .i64 (cntOf Ls now 2 : Nat), .int .i64 (cntOf Ls now 3 : Nat), .int .i64 (cntOf Ls now 4 : Nat)]) ∧ Below w.heap.size w w' := by
  obtain ⟨D, R, f, L, hS, hF⟩ := h.open_
  have HW := Aside0.mk hS.whl
  have HR := Aside0.mk hS.row
  have HF := Aside0.mk hF
  clear h hS hF
  have b2 := blk_alloc (blk_new w (.cells #[.int .i64 0, .int .i64 0, .int .i64 0, .int .i64 0, .int .i64 0] 40 (0, 0))) (.cells #[.int .i64 0, .int .i64 0, .int .i64 0, .int .i64 0, .int .i64 0] 40)
  have b3 := blk_new (w.alloc (.cells #[.int .i64 0, .int .i64 0, .int .i64 0, .int .i64 0, .int .i64 0] 40)) (.cells #[.int .i64 0, .int .i64 0, .int .i64 0, .int .i64 0, .int .i64 0] 40 (0, 0))
  rw [World.size_alloc] at b3
  have HI0 : Aside0 (SpI w ((w.alloc (.cells #[.int .i64 0, .int .i64 0, .int .i64 0, .int .i64 0, .int .i64 0] 40)).alloc (.cells #[.int .i64 0, .int .i64 0, .int .i64 0, .int .i64 0, .int .i64 0] 40)) L 0 0) := ⟨⟨⟨_, b3, rfl, fun k hk => by
    have h0 : (if k < 0 then ringN L k 64 else if k = 0 then ringN L 0 0 else 0) = 0 := by
      rw [if_neg (by omega)]
      split <;> rfl
    rw [h0]
    match k, hk with
    | 0, _ => rfl
    | 1, _ => rfl
    | 2, _ => rfl
    | 3, _ => rfl
    | 4, _ => rfl⟩, b2, below_alloc (below_alloc (Below.refl _ _) _) _⟩⟩
  clear b2 b3
  go_enter Try.func21, Try.ntmps21
  go_wp2_with fail
  go_loopw [10] (fun v10 wr => ∃ lv : Nat, lv ≤ 4 ∧ v10 = .int .i64 lv ∧ Aside0 (SpI w wr L lv 0)) (fun v10 _ => 4 - (intOf v10).toNat)
  case atStart => exact ⟨0, by omega, rfl, HI0⟩
  case round =>
    clear HI0
    obtain ⟨lv, hlv, rfl, HI⟩ := hrel
    by_cases hlt : lv < 4
    · have hlt2 : (lv : Int) < 4 := by omega
      have hlv4 := Aside0.mk hlt
      obtain ⟨ag, hag⟩ : ∃ ag : List Value, ag = (List.range 64).map (fun i => R (lv * 64 + i)) := ⟨_, rfl⟩
      have hal : ag.length = 64 := by rw [hag]; simp
      have hai : ∀ i, i < 64 → ag.toArray[i]? = some (R (lv * 64 + i)) := fun i hi => by rw [hag]; simp [hi]
      have HRG : Aside0 (wr.rangeAt g (1 + lv * 64) ag) := ⟨fun j v hj => by
        have hj64 : j < 64 := by
          rcases Nat.lt_or_ge j 64 with h | h
          · exact h
          · rw [List.getElem?_eq_none (by omega)] at hj; cases hj
        have h2 := hai j hj64
        rw [List.getElem?_toArray, hj] at h2
        injection h2 with h2
        rw [h2, Nat.add_assoc]
        exact (HW.out.below HI.out.bel).ring_ (lv * 64 + j) (by omega)⟩
      have HAI := Aside0.mk hai
      have HI7 : Aside0 ((Try.prog.info? 77).map (·.size) = some ag.length) := ⟨by rw [hal]; exact info77⟩
      have HIS : Aside0 (SpI w wr L lv 0) := HI
      clear hag hal hai HI
      go_wp2_with (first
        | ((with_reducible refine gate_dst (N := 18) rfl ?_); refine wpList_load_mid rfl 77 (.tmp 17) rfl g (1 + lv * 64) rfl ag _ HRG.out Try.underlying77 rfl HI7.out ?_)
        | go_in)
      go_loopw [19] (fun v19 wr => ∃ i : Nat, i ≤ 64 ∧ v19 = .int .i64 i ∧ Aside0 (SpI w wr L lv i)) (fun v19 _ => 64 - (intOf v19).toNat)
      case atStart => exact ⟨0, by omega, rfl, HIS⟩
      case round =>
        clear HIS
        obtain ⟨i, hi, rfl, HI⟩ := hrel
        by_cases hlt : i < 64
        · have hi2 : (i : Int) < 64 := by omega
          obtain ⟨A, c, hv⟩ := Kd.R_slice (HR.out (lv * 64 + i) (by omega))
          have hq := HAI.out i hlt
          rw [hv] at hq
          have hN : (L (lv * 64 + i)).length ≤ 8192 := HF.out.each_le _
          have hQ : ringN L lv i ≤ 8192 := ringN_le HF.out hlv4.out (by omega)
          have hnx : ringN L lv (i + 1) = ringN L lv i + (L (lv * 64 + i)).length := rfl
          obtain ⟨N, hNe⟩ : ∃ N, N = (L (lv * 64 + i)).length := ⟨_, rfl⟩
          obtain ⟨q, hqe⟩ : ∃ q, q = ringN L lv i := ⟨_, rfl⟩
          rw [← hNe] at hq hN hnx
          rw [← hqe] at hQ hnx
          have hix := index77 ag.toArray i _ hlt hq
          obtain ⟨arr, hb, hs, ha⟩ := HI.out.blk
          have k0 := ha lv (by omega)
          rw [if_neg (by omega), if_pos rfl, ← hqe] at k0
          have d0 := (blk_cell hb lv).trans k0
          have f0 := blk_frozen hb lv
          have HNX : Aside0 (SpI w (wr.setCell ⟨w.heap.size + 1, lv, none⟩ (.int .i64 ((q : Int) + (N : Int)))) L lv (i + 1)) := ⟨by
            have h := HI.out.put hlv4.out
            rw [hnx] at h
            push_cast at h
            exact h⟩
          clear hv hq hnx hNe hqe hb hs ha k0 HI
          go_wp2_with fail
          go_roundw
          case rel => exact ⟨i + 1, by omega, by go_num, HNX⟩
          case measure => simp [intOf]; omega
        · obtain rfl : i = 64 := by omega
          have HNX : Aside0 (SpI w wr L (lv + 1) 0) := ⟨HI.out.next⟩
          clear HI HRG HAI HI7
          go_wp2_with fail
          go_roundw
          case rel => exact ⟨lv + 1, by omega, by go_num, HNX⟩
          case measure => simp [intOf]; omega
    · obtain rfl : lv = 4 := by omega
      obtain ⟨A, c, hv⟩ := Kd.R_slice (HR.out 256 (by omega))
      have cr := (HW.out.below HI.out.bel).ring_ 256 (by omega)
      rw [hv] at cr
      have hN : (L 256).length ≤ 8192 := HF.out.each_le _
      obtain ⟨N, hNe⟩ : ∃ N, N = (L 256).length := ⟨_, rfl⟩
      rw [← hNe] at cr hN
      have hN4 : N = cntOf Ls now 4 := by rw [hNe]; exact far_cnt HF.out.slots
      obtain ⟨arr, hb, hs, ha⟩ := HI.out.blk
      have harr : arr = #[.int .i64 (cntOf Ls now 0 : Nat), .int .i64 (cntOf Ls now 1 : Nat), .int .i64 (cntOf Ls now 2 : Nat), .int .i64 (cntOf Ls now 3 : Nat), .int .i64 0] := by
        have g0 := ha 0 (by omega)
        have g1 := ha 1 (by omega)
        have g2 := ha 2 (by omega)
        have g3 := ha 3 (by omega)
        have g4 := ha 4 (by omega)
        rw [if_pos (by omega), ring_cnt HF.out.slots (by omega)] at g0 g1 g2 g3
        rw [if_neg (by omega), if_pos rfl] at g4
        apply Array.ext_getElem?
        intro j
        match j with
        | 0 => exact g0
        | 1 => exact g1
        | 2 => exact g2
        | 3 => exact g3
        | 4 => exact g4
        | j + 5 => rw [Array.getElem?_eq_none (by omega), Array.getElem?_eq_none (by simp)]
      rw [harr] at hb
      have hr := HI.out.res
      have HBL := Aside0.mk hb
      have HRS := Aside0.mk hr
      have HBE := Aside0.mk HI.out.bel
      have d0 := (blk_cell hb 0).trans rfl
      have d1 := (blk_cell hb 1).trans rfl
      have d2 := (blk_cell hb 2).trans rfl
      have d3 := (blk_cell hb 3).trans rfl
      have d4 := (blk_cell hb 4).trans rfl
      have f4 := blk_frozen hb 4
      have e0 := (blk_cell hr 0).trans rfl
      have e1 := (blk_cell hr 1).trans rfl
      have e2 := (blk_cell hr 2).trans rfl
      have e3 := (blk_cell hr 3).trans rfl
      have e4 := (blk_cell hr 4).trans rfl
      have y0 := blk_frozen hr 0
      have y1 := blk_frozen hr 1
      have y2 := blk_frozen hr 2
      have y3 := blk_frozen hr 3
      have y4 := blk_frozen hr 4
      have HN4 := Aside0.mk hN4
      clear hv hNe ha harr hb hs hr HI hN4
      go_wp2_with fail
      have hfin := blk_put (blk_put (blk_put (blk_put (blk_put ((Below.heap_setCell wr ⟨w.heap.size + 1, 4, none⟩ (.int .i64 N) w.heap.size (by simp)).trans HRS.out) 0 (.int .i64 (cntOf Ls now 0 : Nat)) rfl) 1 (.int .i64 (cntOf Ls now 1 : Nat)) rfl) 2 (.int .i64 (cntOf Ls now 2 : Nat)) rfl) 3 (.int .i64 (cntOf Ls now 3 : Nat)) rfl) 4 (.int .i64 N) rfl
      refine bodyPost_ret (results_cell_row rfl _ _ w.heap.size 40 _ (0, 0) _ rfl hfin Try.underlying40 rfl (by kernel_rfl)) rfl ?_
      refine ⟨by rw [← HN4.out]; rfl, ?_⟩
      exact (((((HBE.out.setCell (p := ⟨w.heap.size + 1, 4, none⟩) (by simp) _).setCell (p := ⟨w.heap.size, 0, none⟩) (Nat.le_refl _) _).setCell (p := ⟨w.heap.size, 1, none⟩) (Nat.le_refl _) _).setCell (p := ⟨w.heap.size, 2, none⟩) (Nat.le_refl _) _).setCell (p := ⟨w.heap.size, 3, none⟩) (Nat.le_refl _) _).setCell (p := ⟨w.heap.size, 4, none⟩) (Nat.le_refl _) _
end Go.Proofs.Ytkgdlmgodpgcoaa.Hand
