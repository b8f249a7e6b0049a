/- law01's made(): a file of frames: the walk. -/
import Derived.Test.YtdlfhpkkkhfhdaaDoorQx
import Derived.Test.YtdlfhpkkkhfhdaaDoorHSealPure
import Derived.Test.YtdlfhpkkkhfhdaaDoorHWords
import Derived.Test.YtdlfhpkkkhfhdaaDoorHAlone
import Derived.Outline
namespace Go.Proofs.YtdlfhpkkkhfhdaaDoor.Hand
open Go.RowKit Go.Proofs.YtdlfhpkkkhfhdaaDoorW.PrintWords Go.Proofs.YtdlfhpkkkhfhdaaDoorW.PrintLast Go.Proofs.YtdlfhpkkkhfhdaaDoorW.PrintMore Go.Proofs.YtdlfhpkkkhfhdaaDoor.Q
set_option linter.unusedVariables false
set_option linter.unusedSimpArgs false
/-- What stands at a place. -/
def kdN (KL : List Int) (i : Nat) : Int := rd KL (i : Int)
def txN (TL : List ByteArray) (i : Nat) : ByteArray := rdOf ByteArray.empty TL (i : Int)
/-- The file of the first i places, and how many frames it has. -/
def fileN (KL : List Int) (TL : List ByteArray) : Nat → List Int
  | 0 => []
  | i + 1 => if kdN KL i = 0 ∨ (txN TL i).size > 2097152 then fileN KL TL i else fileN KL TL i ++ sealOf (kdN KL i) (bytesOf (txN TL i))
def cntN (KL : List Int) (TL : List ByteArray) : Nat → Nat
  | 0 => 0
  | i + 1 => if kdN KL i = 0 ∨ (txN TL i).size > 2097152 then cntN KL TL i else cntN KL TL i + 1
theorem fileN_skip {KL : List Int} {TL : List ByteArray} {i : Nat} (h : kdN KL i = 0 ∨ (txN TL i).size > 2097152) : fileN KL TL (i + 1) = fileN KL TL i ∧ cntN KL TL (i + 1) = cntN KL TL i := ⟨by rw [fileN, if_pos h], by rw [cntN, if_pos h]⟩
theorem fileN_next {KL : List Int} {TL : List ByteArray} {i : Nat} (h : ¬ (kdN KL i = 0 ∨ (txN TL i).size > 2097152)) : fileN KL TL (i + 1) = fileN KL TL i ++ sealOf (kdN KL i) (bytesOf (txN TL i)) ∧ cntN KL TL (i + 1) = cntN KL TL i + 1 := ⟨by rw [fileN, if_neg h], by rw [cntN, if_neg h]⟩
theorem cntN_le (KL : List Int) (TL : List ByteArray) : ∀ i, cntN KL TL i ≤ i
  | 0 => Nat.le_refl _
  | i + 1 => by
    have := cntN_le KL TL i
    rw [cntN]
    split <;> omega
/-- []byte(s), as a step of a region. -/
theorem conv_step {P : Program} {ops : Array Oper} {Q : Exit → Act → World → Prop} {oi : Oper} {N : Option Tmp} {a : Act} {W : World} {K : Act → World → Prop} {src dst e : Nat} (hw : Region.wanted oi (yielded ops a.tmps) = true) (hN : oi.dst = N) (x : Operand) (ho : oi.op = .convert src dst x) (s : ByteArray) (hx : a.eval x = .string s)
    (hs : P.underlying src = some .string) (hd : P.underlying dst = some (.slice e)) (he : P.underlying e = some (.int .u8)) (hm : s.size ≤ 9223372036854775807)
    (h : ∀ A c w1, (Kd.int .u8).C w1 A (bytesOf s).length (bytesOf s) → (bytesOf s).length ≤ c → Below W.heap.size W w1 → K (a.put N (.slice A (bytesOf s).length c)) w1) : if Region.wanted oi (yielded ops a.tmps) = true then Oper.wp P oi a W K Q else K (a.put N undef) W := by
  have hlen : (bytesOf s).length = s.size := bytesOf_length s
  refine value_ (w1 := W.drew.alloc (.cells (bytesRow s (grownCap W s.size 0 e)) e ((bytesRow s (grownCap W s.size 0 e)).size, (bytesRow s (grownCap W s.size 0 e)).size + 1))) (v := .slice (some ⟨W.heap.size, 0, none⟩) (bytesOf s).length (grownCap W s.size 0 e)) hw hN ?_ (h _ _ _ ?_ ?_ ((Below.refl _ W).drew.alloc (Nat.le_refl _) _))
  · simp [execOp, ho, hx, run_bytes_of_string W src dst e s hs hd he, hlen]
  · refine Kd.C_of_reads (d := (0 : Int)) (h1 := fun _ => rfl) ⟨rfl, by omega, fun _ => ⟨_, rfl, fun j hj => ?_⟩⟩
    rw [hlen] at hj
    have hj' : j < s.data.size := hj
    have h2 := World.cell?_alloc_mark W.drew (bytesRow s (grownCap W s.size 0 e)) e ((bytesRow s (grownCap W s.size 0 e)).size, (bytesRow s (grownCap W s.size 0 e)).size + 1) j
    rw [bytesRow_at s _ j hj'] at h2
    rw [add_plain]
    refine h2.trans ?_
    simp [bytesOf, List.getElem?_map, Array.getElem?_eq_getElem hj']
  · have := grownCap_ge W s.size 0 e
    omega

set_option maxHeartbeats 2000000 in
set_option maxRecDepth 100000 in
theorem wicketlaw01_made.walk (A0 A1 : Option Addr) (c0 c1 : Nat) (KL : List Int) (TL : List ByteArray) (w : World) (hT : Tb w) (hr0 : Kd.C (Kd.int .u8) w A0 KL.length KL) (hr1 : Kd.C Kd.string w A1 TL.length TL)
    (hK : KL.length ≤ 1000000000) (hM : TL.length ≤ 1000000000) (hF : ∀ i, i ≤ KL.length → (fileN KL TL i).length ≤ 1000000000) (hwf : ∀ i, i < KL.length → kdN KL i ≠ 0 → (txN TL i).size ≤ 2097152 → frame_Seal.f (kdN KL i) (bytesOf (txN TL i)) = some (sealOf (kdN KL i) (bytesOf (txN TL i)), 0)) :
    Calls Tryd.prog 32 #[.slice A0 KL.length c0, .slice A1 TL.length c1] w fun e w' => ∃ v, e = .returned (.tuple #[v, .int .i64 (cntN KL TL (min KL.length TL.length)), .bool true]) ∧ Kd.R (Kd.int .u8) 5 w' w.heap.size (fun _ => True) v (fileN KL TL (min KL.length TL.length)) ∧ Below w.heap.size w w' := by
  have HR0 := Aside0.mk hr0
  have HR1 := Aside0.mk hr1
  have HT := Aside0.mk hT
  have HB := Aside0.mk (Below.refl w.heap.size w)
  have HF := Aside0.mk hF
  have HW := Aside0.mk hwf
  clear hr0 hr1 hT hF hwf
  obtain ⟨N, hNe⟩ : ∃ N, N = KL.length := ⟨_, rfl⟩
  obtain ⟨M, hMe⟩ : ∃ M, M = TL.length := ⟨_, rfl⟩
  rw [← hNe] at hK ⊢
  rw [← hMe] at hM ⊢
  have HN := Aside0.mk hNe
  have HM := Aside0.mk hMe
  clear hNe hMe
  go_enter Tryd.func32, Tryd.ntmps32
  go_wp2_with fail
  go_loopw [7, 8, 9] (fun v7 v8 v9 w' => ∃ i n : Nat, i ≤ N ∧ i ≤ M ∧ v9 = .int .i64 i ∧ v8 = .int .i64 n ∧ n ≤ i ∧ Aside0 (n = cntN KL TL i) ∧ Aside0 (Kd.R (Kd.int .u8) 5 w' w.heap.size (fun _ => True) v7 (fileN KL TL i)) ∧ Aside0 (Below w.heap.size w w')) (fun _ _ v9 _ => N - (intOf v9).toNat)
  case atStart => exact ⟨0, 0, Nat.zero_le _, Nat.zero_le _, rfl, rfl, Nat.le_refl _, ⟨rfl⟩, ⟨Kd.R_nil _ _ _ _ _⟩, HB⟩
  case round =>
    clear HB
    obtain ⟨i, n, hi, hm, rfl, rfl, hni, HC, HO, HB⟩ := hrel
    by_cases hlt : i < N ∧ i < M
    · obtain ⟨hlt, hlm⟩ := hlt
      obtain ⟨x, hx⟩ : ∃ x, x = kdN KL i := ⟨_, rfl⟩
      obtain ⟨s, hs⟩ : ∃ s, s = txN TL i := ⟨_, rfl⟩
      obtain ⟨ad0, hA0, h0x⟩ := Kd.at_int (Kd.C_below HR0.out HB.out) (i : Int) (by omega) (by have := HN.out; omega)
      obtain ⟨ad1, hA1, h1x⟩ := Kd.at_string (Kd.C_below HR1.out HB.out) (i : Int) (by omega) (by have := HM.out; omega)
      rw [Int.toNat_natCast] at h0x h1x
      rw [show rd KL (i : Int) = x from hx.symm] at h0x
      rw [show rdOf ByteArray.empty TL (i : Int) = s from hs.symm] at h1x
      subst hA0 hA1
      have HX := Aside0.mk hx
      have HSs := Aside0.mk hs
      clear hx hs
      by_cases hz : x = 0 ∨ s.size > 2097152
      · have hsk := fileN_skip (KL := KL) (TL := TL) (i := i) (by rw [← HX.out, ← HSs.out]; exact hz)
        have HSK := Aside0.mk hsk
        clear hsk
        by_cases hz0 : x = 0
        · have b1 : (x == 0) = true := beq_iff_eq.mpr hz0
          clear hz hz0
          go_wp2_with fail
          go_roundw
          case rel => exact ⟨i + 1, n, by omega, by omega, by go_num, rfl, by omega, ⟨by rw [HSK.out.2]; exact HC.out⟩, ⟨by rw [HSK.out.1]; exact HO.out⟩, HB⟩
          case measure => simp [intOf]; omega
        · have b1 : (x == 0) = false := beq_eq_false_iff_ne.mpr hz0
          have hz2 : (s.size : Int) > 2097152 := by omega
          have b2 : decide ((s.size : Int) > 2097152) = true := decide_eq_true hz2
          clear hz hz0 hz2
          go_wp2_with fail
          go_roundw
          case rel => exact ⟨i + 1, n, by omega, by omega, by go_num, rfl, by omega, ⟨by rw [HSK.out.2]; exact HC.out⟩, ⟨by rw [HSK.out.1]; exact HO.out⟩, HB⟩
          case measure => simp [intOf]; omega
      · have hnx := fileN_next (KL := KL) (TL := TL) (i := i) (by rw [← HX.out, ← HSs.out]; exact hz)
        have b1 : (x == 0) = false := beq_eq_false_iff_ne.mpr (by omega)
        have hsl : s.size ≤ 2097152 := by omega
        have b2 : decide ((s.size : Int) > 2097152) = false := decide_eq_false (by omega)
        have hsf := HW.out i (by have := HN.out; omega) (by rw [← HX.out]; omega) (by rw [← HSs.out]; exact hsl)
        rw [← HX.out, ← HSs.out] at hnx hsf
        have HS := Aside0.mk hsf
        have HNX := Aside0.mk hnx
        have HL := Aside0.mk (HF.out (i + 1) (by have := HN.out; omega))
        rw [hnx.1] at HL
        clear hnx hsf hz
        have HBd : Aside0 (Below w.heap.size w wr.drew) := ⟨below_drew1 HB.out⟩
        go_upto_region 7 with (fail)
        refine start_ (n := 15) (S := fun w' => w'.cell? (ad0.add i) = some (.int .u8 x) ∧ w'.cell? (ad1.add i) = some (.string s)) (ds := []) #[false, false, false, false, false, false, false, false, false, false, false, false, false, false, false] (by kernel_rfl) rfl rfl ⟨h0x, h1x⟩ (fun hHeld => ?_)
        refine pure_ (i := 0) (N := some 38) (v := ?_) (a' := ?_) #[true, false, false, false, false, false, false, false, false, false, false, false, false, false, false] rfl rfl (by kernel_rfl) (fun _ _ _ h => h) (Or.inl ⟨by rfl, ?_⟩) ?_ ?_
        rotate_left
        · intro w'
          go_simp
          with_reducible rfl
        rotate_left
        · simp only [Act.put, List.setIfInBounds_toArray, List.set_cons_zero, List.set_cons_succ, i64_w, i32_w]
          rfl
        refine pure_ (i := 1) (N := some 39) (v := ?_) (a' := ?_) #[true, true, false, false, false, false, false, false, false, false, false, false, false, false, false] rfl rfl (by kernel_rfl) (fun _ _ _ h => h) (Or.inl ⟨by rfl, ?_⟩) ?_ ?_
        rotate_left
        · intro w'
          go_simp
          with_reducible rfl
        rotate_left
        · simp only [Act.put, List.setIfInBounds_toArray, List.set_cons_zero, List.set_cons_succ, i64_w, i32_w]
          rfl
        refine pure_ (i := 2) (N := some 40) (v := ?_) (a' := ?_) #[true, true, true, false, false, false, false, false, false, false, false, false, false, false, false] rfl rfl (by kernel_rfl) (fun _ _ _ h => h) (Or.inl ⟨by rfl, ?_⟩) ?_ ?_
        rotate_left
        · intro w'
          go_simp
          with_reducible rfl
        rotate_left
        · simp only [Act.put, List.setIfInBounds_toArray, List.set_cons_zero, List.set_cons_succ, i64_w, i32_w]
          rfl
        refine pure_ (i := 4) (N := some 42) (v := ?_) (a' := ?_) #[true, true, true, false, true, false, false, false, false, false, false, false, false, false, false] rfl rfl (by kernel_rfl) (fun _ _ _ h => h) (Or.inl ⟨by rfl, ?_⟩) ?_ ?_
        rotate_left
        · intro w'
          go_simp
          with_reducible rfl
        rotate_left
        · simp only [Act.put, List.setIfInBounds_toArray, List.set_cons_zero, List.set_cons_succ, i64_w, i32_w]
          rfl
        refine pure_ (i := 5) (N := some 43) (v := ?_) (a' := ?_) #[true, true, true, false, true, true, false, false, false, false, false, false, false, false, false] rfl rfl (by kernel_rfl) (fun _ _ _ h => h) (Or.inl ⟨by rfl, ?_⟩) ?_ ?_
        rotate_left
        · intro w'
          go_simp
          with_reducible rfl
        rotate_left
        · simp only [Act.put, List.setIfInBounds_toArray, List.set_cons_zero, List.set_cons_succ, i64_w, i32_w]
          rfl
        refine pure_ (i := 6) (N := some 44) (v := ?_) (a' := ?_) #[true, true, true, false, true, true, true, false, false, false, false, false, false, false, false] rfl rfl (by kernel_rfl) (fun _ _ _ h => h) (Or.inl ⟨by rfl, ?_⟩) ?_ ?_
        rotate_left
        · intro w'
          go_simp
          with_reducible rfl
        rotate_left
        · simp only [Act.put, List.setIfInBounds_toArray, List.set_cons_zero, List.set_cons_succ, i64_w, i32_w]
          rfl
        refine take_ (i := 3) (N := some 41) (v := ?_) (a' := ?_) #[true, true, true, true, true, true, true, false, false, false, false, false, false, false, false] rfl rfl (by kernel_rfl) (fun _ _ _ h => h) (Or.inl ⟨by rfl, ?_⟩) hHeld ?_ ?_
        rotate_left
        · rintro w' ⟨s0, s1⟩
          go_simp
          with_reducible rfl
        rotate_left
        · simp only [Act.put, List.setIfInBounds_toArray, List.set_cons_zero, List.set_cons_succ, i64_w, i32_w]
          rfl
        refine take_ (i := 7) (N := some 45) (v := ?_) (a' := ?_) #[true, true, true, true, true, true, true, true, false, false, false, false, false, false, false] rfl rfl (by kernel_rfl) (fun _ _ _ h => h) (Or.inl ⟨by rfl, ?_⟩) hHeld ?_ ?_
        rotate_left
        · rintro w' ⟨s0, s1⟩
          go_simp
          with_reducible rfl
        rotate_left
        · simp only [Act.put, List.setIfInBounds_toArray, List.set_cons_zero, List.set_cons_succ, i64_w, i32_w]
          rfl
        refine one_ (i := 8) (N := some 46) #[true, true, true, true, true, true, true, true, true, false, false, false, false, false, false] rfl rfl (by kernel_rfl) (by decide) (fun K hK => ?_)
        refine conv_step (by rfl) rfl (.tmp 45) rfl s rfl Tryd.underlying9 Tryd.underlying22 Tryd.underlying5 (by omega) ?_
        intro A8 c8 w8 hC8 hc8 hb8
        have HB8 := Aside0.mk (below_step HBd.out hb8)
        have HC8 := Aside0.mk (below_step (below_drew1 (Below.refl wr.heap.size wr)) hb8)
        refine hK.out _ _ ⟨pw_cell_below hb8 hHeld.1, pw_cell_below hb8 hHeld.2⟩ (fun hHeld => ?_)
        clear hK K
        refine norm_ (a' := ?_) ?_ ?_
        rotate_left
        · show Act.put _ (some 46) _ = _
          simp only [Act.put, List.setIfInBounds_toArray, List.set_cons_zero, List.set_cons_succ, i64_w, i32_w]
          rfl
        refine one_ (i := 9) (N := some 47) #[true, true, true, true, true, true, true, true, true, true, false, false, false, false, false] rfl rfl (by kernel_rfl) (by decide) (fun K hK => ?_)
        refine goes_ Tryd.func21 (by kernel_rfl) rfl #[.int .u8 x, .slice A8 (bytesOf s).length c8] (by rfl) rfl rfl (by simp only [List.map_toArray, List.map_cons, List.map_nil]; rfl) ?_
        with_reducible refine (frame_Seal.calls x A8 c8 (bytesOf s) (sealOf x (bytesOf s)) 0 w8 (HT.out.below HB8.out) hC8 hc8 HS.out).mono ?_
        rintro e w9 ⟨v9, rfl, ho9, hb9⟩
        obtain ⟨A9, c9, hv9⟩ := Kd.R_slice ho9
        subst hv9
        have HB9 := Aside0.mk (below_step HB8.out hb9)
        have HC9 := Aside0.mk (below_step HC8.out hb9)
        have HR9 := Aside0.mk ho9
        refine ⟨_, rfl, ?_⟩
        refine hK.out _ _ ⟨pw_cell_below hb9 hHeld.1, pw_cell_below hb9 hHeld.2⟩ (fun hHeld => ?_)
        clear hK K
        refine norm_ (a' := ?_) ?_ ?_
        rotate_left
        · show Act.put _ (some 47) _ = _
          simp only [Act.put, List.setIfInBounds_toArray, List.set_cons_zero, List.set_cons_succ, i64_w, i32_w]
          rfl
        refine pure_ (i := 10) (N := some 37) (v := ?_) (a' := ?_) #[true, true, true, true, true, true, true, true, true, true, true, false, false, false, false] rfl rfl (by kernel_rfl) (fun _ _ _ h => h) (Or.inl ⟨by rfl, ?_⟩) ?_ ?_
        rotate_left
        · intro w'
          go_simp
          with_reducible rfl
        rotate_left
        · simp only [Act.put, List.setIfInBounds_toArray, List.set_cons_zero, List.set_cons_succ, i64_w, i32_w]
          rfl
        refine pure_ (i := 11) (N := some 48) (v := ?_) (a' := ?_) #[true, true, true, true, true, true, true, true, true, true, true, true, false, false, false] rfl rfl (by kernel_rfl) (fun _ _ _ h => h) (Or.inl ⟨by rfl, ?_⟩) ?_ ?_
        rotate_left
        · intro w'
          go_simp
          with_reducible rfl
        rotate_left
        · simp only [Act.put, List.setIfInBounds_toArray, List.set_cons_zero, List.set_cons_succ, i64_w, i32_w]
          rfl
        refine pure_ (i := 12) (N := some 49) (v := ?_) (a' := ?_) #[true, true, true, true, true, true, true, true, true, true, true, true, true, false, false] rfl rfl (by kernel_rfl) (fun _ _ _ h => h) (Or.inl ⟨by rfl, ?_⟩) ?_ ?_
        rotate_left
        · intro w'
          go_simp
          with_reducible rfl
        rotate_left
        · simp only [Act.put, List.setIfInBounds_toArray, List.set_cons_zero, List.set_cons_succ, i64_w, i32_w]
          rfl
        refine pure_ (i := 13) (N := some 10) (v := ?_) (a' := ?_) #[true, true, true, true, true, true, true, true, true, true, true, true, true, true, false] rfl rfl (by kernel_rfl) (fun _ _ _ h => h) (Or.inl ⟨by rfl, ?_⟩) ?_ ?_
        rotate_left
        · intro w'
          go_simp
          with_reducible rfl
        rotate_left
        · simp only [Act.put, List.setIfInBounds_toArray, List.set_cons_zero, List.set_cons_succ, i64_w, i32_w]
          rfl
        refine pure_ (i := 14) (N := some 11) (v := ?_) (a' := ?_) #[true, true, true, true, true, true, true, true, true, true, true, true, true, true, true] rfl rfl (by kernel_rfl) (fun _ _ _ h => h) (Or.inl ⟨by rfl, ?_⟩) ?_ ?_
        rotate_left
        · intro w'
          go_simp
          with_reducible rfl
        rotate_left
        · simp only [Act.put, List.setIfInBounds_toArray, List.set_cons_zero, List.set_cons_succ, i64_w, i32_w]
          rfl
        refine done_ (by kernel_rfl) ?_

        go_wp2_with (first | ((with_reducible refine gate_callee (f := 19) rfl ?_); refine goesL_ (some 51) rfl rfl Tryd.func19 (by kernel_rfl) rfl #[.int .i64 0] rfl (by (try simp only [List.map_toArray, List.map_cons, List.map_nil]); first | done | rfl) ?_; (with_reducible refine (wicketlaw01_num.calls _ _ _ rfl).mono ?_); rintro e w10 ⟨rfl, hd⟩; refine ⟨_, rfl, ?_⟩; have HB10 := Aside0.mk (below_step HB9.out (drawn_below hd)); have HR10 := Aside0.mk (Kd.R_below HR9.out (drawn_below hd)); have HC10 := Aside0.mk (below_step HC9.out (drawn_below hd)); clear hd) | ((with_reducible refine gate_builtin (b := .append) (xs := #[.tmp 53, .tmp 54]) rfl ?_); at_builtin; refine Kd.R_append_rows (Kd.int .u8) (w0 := w) w.heap.size rfl (.tmp 53) (.tmp 54) 22 5 (.int .u8 0) 1 rfl Tryd.underlying22 info5 rfl (by decide) (by omega) u7 (fileN KL TL i) (sealOf x (bytesOf s)) _ _ _ (fun _ => True) (fun _ => False) rfl rfl ?aO ?aR (fun _ _ h => h) (fun _ h => h.elim) ?aF ?aB ?aS ?aL ?_; (case aR => exact (Kd.R_reads' HR10.out).2.2); (case aB => exact HB10.out); (case aF => exact (fun _ _ => trivial)); (case aO => exact Kd.R_below HO.out HC10.out); (case aS => exact below_size HB10.out); (case aL => have := HL.out; rw [List.length_append] at this; omega); intro v11 w11 ho hb hg hat; have HB11 := Aside0.mk hb; have HO11 := Aside0.mk ho; clear ho hb hg hat))
        go_roundw
        case rel => exact ⟨i + 1, n + 1, by omega, by omega, by go_num, by go_num, by omega, ⟨by rw [HNX.out.2, ← HC.out]⟩, ⟨by rw [HNX.out.1]; exact HO11.out⟩, HB11⟩
        case measure => simp [intOf]; omega
    · have hmin : min N M = i := by omega
      have HQ : Aside0 (∀ v w', Kd.R (Kd.int .u8) 5 w' w.heap.size (fun _ => True) v (fileN KL TL i) → Below w.heap.size w w' → ∃ v0, Ending.returned (.tuple #[v, .int .i64 (n : Int), .bool true]) = Ending.returned (.tuple #[v0, .int .i64 (cntN KL TL (min N M)), .bool true]) ∧ Kd.R (Kd.int .u8) 5 w' w.heap.size (fun _ => True) v0 (fileN KL TL (min N M)) ∧ Below w.heap.size w w') := ⟨fun v w' h1 h2 => by rw [hmin, ← HC.out]; exact ⟨v, rfl, h1, h2⟩⟩
      by_cases h1 : i < N
      · have h2 : ¬ i < M := by omega
        clear hlt hmin
        go_wp2_with fail
        go_ret3
        exact HQ.out _ _ HO.out HB.out
      · clear hlt hmin
        go_wp2_with fail
        go_ret3
        exact HQ.out _ _ HO.out HB.out
end Go.Proofs.YtdlfhpkkkhfhdaaDoor.Hand
