/- law01's live(): a frame is sealed and opened, a damaged one told: the walk. -/
import Derived.Test.YtdlfhpkkkhfhdaaDoorQx
import Derived.Lib.SlBytesConst
import Derived.Outline
namespace Go.Proofs.YtdlfhpkkkhfhdaaDoor.Hand
open Go.RowKit Go.Proofs.YtdlfhpkkkhfhdaaDoorW.PrintWords Go.Proofs.YtdlfhpkkkhfhdaaDoorW.PrintLast Go.Proofs.YtdlfhpkkkhfhdaaDoorW.PrintMore Go.Proofs.YtdlfhpkkkhfhdaaDoor.Q
set_option linter.unusedVariables false

theorem C_lit (w : World) (xs : List Int) (e : TypeId) (fr : Nat × Nat) (h : xs.length ≤ 9223372036854775807) : Kd.C (Kd.int .u8) (w.alloc (.cells (nums .u8 xs).toArray e fr)) (some ⟨w.heap.size, 0, none⟩) xs.length xs := by
  refine Kd.C_of_reads (d := (0 : Int)) (h1 := fun _ => rfl) ⟨rfl, h, fun _ => ⟨_, rfl, fun j hj => ?_⟩⟩
  rw [add_plain, World.cell?_alloc_mark]
  simp [nums, List.getElem?_map, List.getElem?_eq_getElem hj]

def sealedAb : List Int := (frame_Seal.f 7 [97, 98]).getD ([], 9) |>.1
theorem seal_ab : frame_Seal.f 7 [97, 98] = some (sealedAb, 0) := by kernel_rfl
theorem len_ab : sealedAb.length = 11 := by kernel_rfl
theorem open_ab : frame_Open.f sealedAb = some (7, [97, 98], 11, 0) := by kernel_rfl
theorem open_bad : frame_Open.f (sealedAb.set 9 120) = some (0, [], 0, 12) := by kernel_rfl
theorem crc_nine : frame_Crc.f [49, 50, 51, 52, 53, 54, 55, 56, 57] = some 3421780262 := by kernel_rfl
def wicketlaw01_live.f : Option Bool := some true
set_option maxHeartbeats 1000000 in
theorem wicketlaw01_live.calls (r : Bool) (w : World) (hT : Tb w) (h : wicketlaw01_live.f = some r) :
    Calls Tryd.prog 20 #[] w fun e w' => e = .returned (.bool r) ∧ Below w.heap.size w w' := by
  obtain rfl := Option.some.inj h
  clear h
  have kc := fun (w : World) (C : Array Value) (n c : Nat) => Lib.run_convert_bytes_const (P := Tryd.prog) w 22 5 C n c Tryd.underlying22 Tryd.underlying5
  go_enter Tryd.func20, Tryd.ntmps20
  go_wp2_with fail
  refine (frame_Seal.calls 7 _ _ [97, 98] sealedAb 0 _ (hT.alloc _) (C_lit w [97, 98] 5 (2, 3) (by decide)) (Nat.le_refl _) seal_ab).mono ?_
  rintro e w1 ⟨v0, rfl, ho, hb⟩
  have hb1 := below_step (below_alloc (Below.refl w.heap.size w) _) hb
  have ho1 : Kd.R (Kd.int .u8) 5 w1 w.heap.size (fun _ => True) v0 sealedAb := Kd.R_lower ho (by simp)
  obtain ⟨g, cap, hv, hg1, hg2, _⟩ := Kd.R_form ho1 (by rw [len_ab]; decide)
  rw [len_ab] at hv
  subst hv
  clear ho hb
  have HO := Aside0.mk ho1
  have HB := Aside0.mk hb1
  clear ho1 hb1
  go_wp2_with (first | (go_at_call 19; (with_reducible refine (wicketlaw01_num.calls _ _ _ rfl).mono ?_); rintro e w' ⟨rfl, ⟨nd, rfl⟩⟩) | (go_at_call 999; skip))
  have CO := frame_Open.calls (some ⟨g, 0, none⟩) cap sealedAb 7 [97, 98] 11 0 (w1.drewN nd) ((hT.below HB.out).drewN nd) (Kd.C_drewN (Kd.R_reads' HO.out).2.2 nd) (by rw [len_ab]; exact (Kd.R_reads' HO.out).2.1) open_ab
  rw [len_ab] at CO
  refine CO.mono ?_
  clear CO
  rintro e w2 ⟨v1, rfl, ho2, hb2⟩
  have HB2 := Aside0.mk (below_step (pw_below_drewN HB.out nd) hb2)
  have HO2 := Aside0.mk (Kd.R_below (Kd.R_drewN HO.out nd) hb2)
  have HV2 := Aside0.mk ho2
  have hlt2 : g < w2.heap.size := Nat.lt_of_lt_of_le hg2 hb2.size
  obtain ⟨A1, c1, hv1⟩ := Kd.R_slice ho2
  subst hv1
  clear ho2 hb2 HO HB
  obtain ⟨h9c, h9f⟩ := Kd.R_celln (enc := Value.int .u8) (h1 := fun _ => rfl) (0 : Int) HO2.out 9 (by decide) (by decide)
  rw [show (9 : Int).toNat = 9 from rfl] at h9c h9f
  go_wp2_with fail
  have hb3 := below_alloc (HB2.out.setCell (p := ⟨g, 9, none⟩) hg1 (.int .u8 120)) (.cells #[.int .u8 7, .slice A1 2 c1] 40)
  have ho3 := Kd.R_alloc (Kd.R_putn (enc := Value.int .u8) (h1 := fun _ => rfl) HO2.out 9 120) (.cells #[.int .u8 7, .slice A1 2 c1] 40)
  have hv3 := Kd.R_alloc (Kd.R_far (p := ⟨g, 9, none⟩) (Kd.R_bound HV2.out) (fun k hk => by have h1 := hk.2.1; have h2 : (w1.drewN nd).heap.size = w1.heap.size := rfl; show k ≠ g; omega) (.int .u8 120)) (.cells #[.int .u8 7, .slice A1 2 c1] 40)
  have hn3 := blk_new (w2.setCell ⟨g, 9, none⟩ (.int .u8 120)) (.cells #[.int .u8 7, .slice A1 2 c1] 40)
  have hz3 : (w2.setCell ⟨g, 9, none⟩ (.int .u8 120)).heap.size = w2.heap.size := by simp [World.setCell]
  rw [hz3] at hn3
  rw [show (9 : Int).toNat = 9 from rfl] at ho3
  have CO := frame_Open.calls (some ⟨g, 0, none⟩) cap (sealedAb.set 9 120) 0 [] 0 12 ((w2.setCell ⟨g, 9, none⟩ (.int .u8 120)).alloc (.cells #[.int .u8 7, .slice A1 2 c1] 40)) (hT.below hb3) (Kd.R_reads' ho3).2.2 (by rw [List.length_set, len_ab]; exact (Kd.R_reads' HO2.out).2.1) open_bad
  rw [List.length_set, len_ab] at CO
  refine CO.mono ?_
  clear CO
  rintro e w4 ⟨v2, rfl, ho4, hb4⟩
  have HB4 := Aside0.mk (below_step hb3 hb4)
  have hn4 := blk_below hn3 hb4
  have hC4 := (Kd.R_reads' (Kd.R_below hv3 hb4)).2.2
  obtain ⟨A2, c2, hv2⟩ := Kd.R_slice ho4
  subst hv2
  have hk0 : ∀ o, (w4.alloc o).cell? ⟨w2.heap.size, 0, none⟩ = some (.int .u8 7) := fun o => (blk_cell (blk_alloc hn4 o) 0).trans rfl
  have hk1 : ∀ o, (w4.alloc o).cell? ⟨w2.heap.size, 1, none⟩ = some (.slice A1 2 c1) := fun o => (blk_cell (blk_alloc hn4 o) 1).trans rfl
  have hcv : ∀ o n, (convert 22 9 (.slice A1 2 c1)).run Tryd.prog ((w4.alloc o).drewN n) = .ok (.string ⟨#[97, 98]⟩) ((w4.alloc o).drewN n) := fun o n =>
    Kd.C_string (P := Tryd.prog) (A := A1) (c := c1) Tryd.underlying22 Tryd.underlying5 Tryd.underlying9 (Kd.C_drewN (Kd.C_alloc hC4 o) n)
  have kc2 : ∀ o n (C : Array Value) (m c : Nat), (convert 22 22 (.slice (some ⟨w4.heap.size + 1, 0, none⟩) m c)).run Tryd.prog (((w4.alloc o).drewN n).alloc (.cells C 5)) = .ok (.slice (some ⟨w4.heap.size + 1, 0, none⟩) m c) (((w4.alloc o).drewN n).alloc (.cells C 5 (C.size, C.size + 1))) := fun o n C m c => by
    have h := Lib.run_convert_bytes_const (P := Tryd.prog) ((w4.alloc o).drewN n) 22 5 C m c Tryd.underlying22 Tryd.underlying5
    rwa [show ((w4.alloc o).drewN n).heap.size = w4.heap.size + 1 from by show (w4.heap.push o).size = _; simp] at h
  have hT4 := hT.below HB4.out
  have HC4 := Aside0.mk hC4
  have CR : ∀ o n, Calls Tryd.prog 14 #[.slice (some ⟨w4.heap.size + 1, 0, none⟩) 9 9] (((w4.alloc o).drewN n).alloc (.cells #[.int .u8 49, .int .u8 50, .int .u8 51, .int .u8 52, .int .u8 53, .int .u8 54, .int .u8 55, .int .u8 56, .int .u8 57] 5 (9, 10)))
      fun e w' => e = .returned (.int .u32 3421780262) ∧ Drawn0 (((w4.alloc o).drewN n).alloc (.cells #[.int .u8 49, .int .u8 50, .int .u8 51, .int .u8 52, .int .u8 53, .int .u8 54, .int .u8 55, .int .u8 56, .int .u8 57] 5 (9, 10))) w' := fun o n => by
    have hz : ((w4.alloc o).drewN n).heap.size = w4.heap.size + 1 := by show (w4.heap.push o).size = _; simp
    have hC := C_lit ((w4.alloc o).drewN n) [49, 50, 51, 52, 53, 54, 55, 56, 57] 5 (9, 10) (by decide)
    rw [hz] at hC
    exact frame_Crc.calls _ _ [49, 50, 51, 52, 53, 54, 55, 56, 57] _ _ (Tb.alloc (Tb.drewN (Tb.alloc hT4 _) _) _) hC (Nat.le_refl _) crc_nine
  have CR' := Aside0.mk CR
  clear CR
  clear hb3 ho3 hv3 hn3 hz3 ho4 hb4 hn4 hC4 h9c h9f HO2 HV2 HB2 kc
  go_wp2_with (first | (go_at_call 19; (with_reducible refine (wicketlaw01_num.calls _ _ _ rfl).mono ?_); rintro e w' ⟨rfl, ⟨nd, rfl⟩⟩) | (go_at_call 14; (with_reducible refine (CR'.out _ _).mono ?_); rintro e w' ⟨rfl, ⟨nd, rfl⟩⟩))
  go_ret
  exact ⟨rfl, by repeat (first | exact HB4.out | apply below_alloc | apply pw_below_drewN | apply below_drew1)⟩
end Go.Proofs.YtdlfhpkkkhfhdaaDoor.Hand
