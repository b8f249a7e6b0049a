/- frame.PutUint: what it lays down, and the walk. -/
import Derived.Test.YtdlfhpkkkhfhdaaDoorProg
import Derived.Test.YtdlfhpkkkhfhdaaDoorHWords
import Derived.Outline
namespace Go.Proofs.YtdlfhpkkkhfhdaaDoor.Hand
open Go.RowKit Go.Proofs.YtdlfhpkkkhfhdaaDoorW.PrintWords Go.Proofs.YtdlfhpkkkhfhdaaDoorW.PrintLast Go.Proofs.YtdlfhpkkkhfhdaaDoorW.PrintMore
set_option linter.unusedVariables false

theorem info_u8 : (Tryd.prog.info? 5).map (fun i => (i.zero, i.size, i.bytes)) = some (some (.int .u8 0), 1, 1) := by kernel_rfl

theorem size_u8 : (Tryd.prog.info? 5).map (·.size) = some 1 := by kernel_rfl

/-- A number in groups of seven bits, as the program lays it. -/
def uvI (a : Int) : List Int := if a > 127 then Go.bits .or .u8 (a % 256) 128 :: uvI (a / 128) else [a % 256]
termination_by a.toNat
decreasing_by omega
theorem uvI_big {a : Int} (h : a > 127) : uvI a = Go.bits .or .u8 (a % 256) 128 :: uvI (a / 128) := by rw [uvI, if_pos h]
theorem uvI_small {a : Int} (h : ¬ a > 127) : uvI a = [a % 256] := by rw [uvI, if_neg h]
theorem uvI_pos (x : Int) : 0 < (uvI x).length := by
  by_cases hb : x > 127
  · rw [uvI_big hb]; simp
  · rw [uvI_small hb]; simp
theorem uvI_len (n : Nat) : ∀ a : Int, a < 128 ^ (n + 1) → (uvI a).length ≤ n + 1 := by
  induction n with
  | zero => intro a h; rw [uvI_small (by omega)]; simp
  | succ n ih =>
    intro a h
    by_cases hb : a > 127
    · rw [uvI_big hb, List.length_cons]
      have := ih (a / 128) (by rw [Int.pow_succ] at h; omega)
      omega
    · rw [uvI_small hb]; simp

def frame_PutUint.f (l0 : List Int) (a1 : Int) : Option (List Int) := if l0.length < 140737488355000 then (if a1 < 18446744073709551616 then some (l0 ++ uvI a1) else none) else none
set_option maxHeartbeats 1000000 in
theorem frame_PutUint.calls (A0 : Option Addr) (c0 : Nat) (l0 : List Int) (a1 : Int) (r : List Int) (w : World) (hr0 : Kd.C (Kd.int .u8) w A0 l0.length l0) (hc0 : l0.length ≤ c0) (h : frame_PutUint.f l0 a1 = some r) :
    Calls Tryd.prog 34 #[.slice A0 l0.length c0, .int .u64 a1] w fun e w' => ∃ v0_ : Value, e = .returned (v0_) ∧ Kd.R (Kd.int .u8) 5 w' w.heap.size (fun _ => True) v0_ r ∧ Below w.heap.size w w' := by
  obtain ⟨hl, ha, hr⟩ : l0.length < 140737488355000 ∧ a1 < 18446744073709551616 ∧ l0 ++ uvI a1 = r := by
    unfold frame_PutUint.f at h
    split at h
    · split at h
      · exact ⟨‹_›, ‹_›, Option.some.inj h⟩
      · cases h
    · cases h
  clear h
  have hu : (uvI a1).length ≤ 10 := uvI_len 9 a1 (by omega)
  have HR := Aside0.mk hr0
  have HL := Aside0.mk hu
  have HA := Aside0.mk ha
  have HE := Aside0.mk hr
  clear hr0 hu ha hr
  have hl2 : l0.length ≤ 9223372036854775000 := by omega
  go_enter Tryd.func34, Tryd.ntmps34
  go_wp2_with (first | ((with_reducible refine gate_dst (N := 11) rfl ?_); refine R_makecap (enc := Value.int .u8) (h1 := fun _ => rfl) (w0 := w) w.heap.size 5 rfl 22 _ _ rfl (l0.length : Int) ((l0.length : Int) + 10) rfl rfl Tryd.underlying22 (.int .u8 0) 1 info_u8 0 rfl (ok := fun _ => True) trivial (by omega) (by omega) (by omega) (by omega) (Below.refl _ _) (Nat.le_refl _) ?_; intro v1 w1 ho hb hg hnew; clear hg hnew; rw [Int.toNat_natCast] at ho; have HO := Aside0.mk ho; have HB := Aside0.mk hb; clear ho hb) | ((with_reducible refine gate_builtin (b := .copy) (xs := #[.tmp 12, .tmp 13]) rfl ?_); refine Kd.R_copy (enc := Value.int .u8) (h1 := fun _ => rfl) (0 : Int) (w0 := w) w.heap.size rfl (.tmp 12) (.tmp 13) 22 22 5 rfl Tryd.underlying22 size_u8 v1 (List.replicate l0.length 0) l0 A0 l0.length c0 (fun _ => True) rfl rfl HO.out (Kd.C_below HR.out HB.out) HB.out HB.out.size ?_; intro w2 ho hb hg; clear hg; have HO2 := Aside0.mk ho; have HB2 := Aside0.mk hb; clear ho hb))
  have HO3 : Aside0 (Kd.R (Kd.int .u8) 5 w2 w.heap.size (fun _ => True) v1 l0) := ⟨by have h := HO2.out; simp at h; exact h⟩
  clear HO2 HO HB
  simp only [Act.put, List.setIfInBounds_toArray, List.set_cons_succ, List.set_cons_zero, List.length_replicate, Nat.min_self]
  go_loopw [1, 5] (fun v1 v5 w' => ∃ (x : Int) (xs : List Int), v1 = .int .u64 x ∧ Aside0 (xs ++ uvI x = l0 ++ uvI a1) ∧ Aside0 (x < 18446744073709551616) ∧ Aside0 (Kd.R (Kd.int .u8) 5 w' w.heap.size (fun _ => True) v5 xs) ∧ Aside0 (Below w.heap.size w w')) (fun v1 _ _ => (intOf v1).toNat)
  case atStart => exact ⟨a1, l0, rfl, ⟨rfl⟩, HA, HO3, HB2⟩
  case round =>
    clear HO3 HB2
    obtain ⟨x, xs, rfl, HX, HU, HO, HB⟩ := hrel
    have h1 := congrArg List.length HX.out
    have h2 := HL.out
    have h3 := uvI_pos x
    simp only [List.length_append] at h1
    have HN : Aside0 (xs.length + 1 ≤ 140737488355328) := ⟨by omega⟩
    clear h1 h2 h3
    by_cases hb : x > 127
    · have HG := Aside0.mk (uvI_big hb)
      go_wp2_with (first | ((with_reducible refine gate_builtin (b := .append) (xs := #[.tmp 17, .tmp 21]) rfl ?_); at_builtin; refine Kd.R_append (Kd.int .u8) (w0 := w) w.heap.size rfl (.tmp 17) (.tmp 21) 22 5 (.int .u8 0) 1 rfl Tryd.underlying22 info_u8 rfl (by decide) (by omega) u5 xs (Go.bits .or .u8 (x % 256) 128) [.int .u8 (Go.bits .or .u8 (x % 256) 128)] (fun _ => True) (fun _ => False) rfl rfl ?aP (fun _ hk => hk.elim) ?aF ?aO ?aB ?aS ?aL ?_; (case aP => exact rfl); (case aB => exact (by repeat (first | (with_reducible first | exact HB.out | apply below_alloc | apply pw_below_drewN | apply below_drew1) | exact HB.out))); (case aF => exact (fun _ _ => trivial)); (case aO => exact (by (with_reducible repeat (first | apply Kd.R_alloc | apply Kd.R_drewN | apply Kd.R_drew)); exact HO.out)); (case aS => exact (below_size (by repeat (first | (with_reducible first | exact HB.out | apply below_alloc | apply pw_below_drewN | apply below_drew1) | exact HB.out)))); (case aL => have := HN.out; omega); intro v2 w4 ho hb hg hat; clear hg hat; have HO4 := Aside0.mk ho; have HB4 := Aside0.mk hb; clear ho hb))
      go_roundw
      case rel => exact ⟨x / 128, xs ++ [Go.bits .or .u8 (x % 256) 128], rfl, ⟨by rw [← HX.out, HG.out]; simp⟩, ⟨by have := HU.out; omega⟩, HO4, HB4⟩
      case measure => simp [intOf]; omega
    · have HG := Aside0.mk (uvI_small hb)
      go_wp2_with (first | ((with_reducible refine gate_builtin (b := .append) (xs := #[.tmp 25, .tmp 28]) rfl ?_); at_builtin; refine Kd.R_append (Kd.int .u8) (w0 := w) w.heap.size rfl (.tmp 25) (.tmp 28) 22 5 (.int .u8 0) 1 rfl Tryd.underlying22 info_u8 rfl (by decide) (by omega) u5 xs (x % 256) [.int .u8 (x % 256)] (fun _ => True) (fun _ => False) rfl rfl ?aP (fun _ hk => hk.elim) ?aF ?aO ?aB ?aS ?aL ?_; (case aP => exact rfl); (case aB => exact (by repeat (first | (with_reducible first | exact HB.out | apply below_alloc | apply pw_below_drewN | apply below_drew1) | exact HB.out))); (case aF => exact (fun _ _ => trivial)); (case aO => exact (by (with_reducible repeat (first | apply Kd.R_alloc | apply Kd.R_drewN | apply Kd.R_drew)); exact HO.out)); (case aS => exact (below_size (by repeat (first | (with_reducible first | exact HB.out | apply below_alloc | apply pw_below_drewN | apply below_drew1) | exact HB.out)))); (case aL => have := HN.out; omega); intro v2 w4 ho hb hg hat; clear hg hat; have HO4 := Aside0.mk ho; have HB4 := Aside0.mk hb; clear ho hb))
      go_ret
      exact ⟨_, rfl, by have h1 := HX.out; rw [HG.out, HE.out] at h1; rw [← h1]; exact HO4.out, HB4.out⟩
end Go.Proofs.YtdlfhpkkkhfhdaaDoor.Hand
