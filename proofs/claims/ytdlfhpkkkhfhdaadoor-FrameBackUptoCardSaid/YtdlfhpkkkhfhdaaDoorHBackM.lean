/- FrameBack: what comes in, taken apart; the walk and the plain law, joined. -/
import Derived.Test.YtdlfhpkkkhfhdaaDoorHBackW
namespace Go.Proofs.YtdlfhpkkkhfhdaaDoor.Hand
open Go.RowKit Go.Proofs.YtdlfhpkkkhfhdaaDoorW.PrintWords Go.Proofs.YtdlfhpkkkhfhdaaDoorW.PrintLast Go.Proofs.YtdlfhpkkkhfhdaaDoorW.PrintMore Go.Proofs.YtdlfhpkkkhfhdaaDoor.Q
set_option linter.unusedVariables false
set_option linter.unusedSimpArgs false
theorem framesN_more (KL : List Int) (TL : List ByteArray) (d : Nat) : ∀ i, ∃ Z, framesN KL TL (i + d) = framesN KL TL i ++ Z := by
  induction d with
  | zero => intro i; exact ⟨[], by simp⟩
  | succ d ih =>
    intro i
    obtain ⟨Z, hZ⟩ := ih i
    rw [show i + (d + 1) = i + d + 1 by omega, framesN]
    split
    · exact ⟨Z, hZ⟩
    · exact ⟨Z ++ [⟨kdN KL (i + d), bytesOf (txN TL (i + d))⟩], by rw [hZ, List.append_assoc]⟩
theorem framesN_at (KL : List Int) (TL : List ByteArray) (M i : Nat) (hi : i < M) (h : ¬ (kdN KL i = 0 ∨ (txN TL i).size > 2097152)) : cntN KL TL i < (framesN KL TL M).length ∧ rd_T40 (framesN KL TL M) (cntN KL TL i : Int) = ⟨kdN KL i, bytesOf (txN TL i)⟩ := by
  obtain ⟨Z, hZ⟩ := framesN_more KL TL (M - (i + 1)) (i + 1)
  rw [show i + 1 + (M - (i + 1)) = M by omega, framesN, if_neg h] at hZ
  have hl := framesN_length KL TL i
  rw [hZ]
  refine ⟨by simp only [List.length_append, List.length_singleton]; omega, ?_⟩
  unfold rd_T40
  rw [Int.toNat_natCast, List.append_assoc, List.getD_eq_getElem?_getD, List.getElem?_append_right (by omega), hl, Nat.sub_self]
  rfl
abbrev BackT := Int × ByteArray × List Int × List ByteArray × List Int
abbrev kBack : Kd BackT := Kd.iso (Kd.pair (Kd.int .u64) (Kd.pair Kd.string (Kd.pair (Kd.slice 5 (Kd.int .u8)) (Kd.pair (Kd.slice 9 Kd.string) (Kd.slice 5 (Kd.int .u8)))))) (fun x => x)
abbrev backWf (b : BackT) : Prop := (Lit.int .u64 b.1).wf = true ∧ b.2.1.size ≤ 9223372036854775807 ∧ (∀ x ∈ b.2.2.1, (Lit.int .u8 x).wf = true) ∧ (∀ x ∈ b.2.2.2.1, x.size ≤ 9223372036854775807) ∧ (∀ x ∈ b.2.2.2.2, (Lit.int .u8 x).wf = true)
abbrev backBulk (b : BackT) : Nat := 1 + ((b.2.1.size + 1) + (((b.2.2.1.map fun _ => 1).sum + 1) + (((b.2.2.2.1.map fun s => s.size + 1).sum + 1) + ((b.2.2.2.2.map fun _ => 1).sum + 1)))) + 1
theorem back_opens : Opens Tryd.prog 78 kBack backWf backBulk :=
  Opens.struct (total := 5) (fun x => x) (fun x => x) (fun _ => rfl) Tryd.underlying78 (by kernel_rfl) (OpensFs.cons rfl (by kernel_rfl) (Opens.int .u64 Tryd.underlying70) (OpensFs.cons rfl (by kernel_rfl) (Opens.str Tryd.underlying9) (OpensFs.cons rfl (by kernel_rfl) (Opens.slice Tryd.underlying22 (by kernel_rfl) (Opens.int .u8 Tryd.underlying5))
    (OpensFs.cons rfl (by kernel_rfl) (Opens.slice Tryd.underlying64 (by kernel_rfl) (Opens.str Tryd.underlying9)) (OpensFs.last rfl (by kernel_rfl) (by kernel_rfl) (Opens.slice Tryd.underlying22 (by kernel_rfl) (Opens.int .u8 Tryd.underlying5)))))))
theorem u64_bounds {x : Int} (h : (Lit.int .u64 x).wf = true) : 0 ≤ x ∧ x ≤ 18446744073709551615 := by
  simp only [Lit.wf, Bool.and_eq_true, decide_eq_true_eq, show IntKind.u64.min = 0 by decide, show IntKind.u64.max = 18446744073709551615 by decide] at h
  exact h
theorem texts_len (TL : List ByteArray) : TL.length ≤ (TL.map fun s => s.size + 1).sum := by
  induction TL with
  | nil => simp
  | cons s r ih => simp only [List.length_cons, List.map_cons, List.sum_cons]; omega
theorem p128 : (128 : Int) ^ (9 + 1) = 1180591620717411303424 := by decide
theorem frameBack_machine (W : World) (hT : Tb W) (cs : Array Value) (x : BackT) (hk : kBack.K W x cs.toList) (hw : backWf x) (hb : backBulk x ≤ 1048576) :
    Calls Tryd.prog 12 #[.agg cs] W fun e w' => e = .returned (.bool true) ∧ Below W.heap.size W w' := by
  obtain ⟨n, s, KL, TL, BH⟩ := x
  obtain ⟨q1, q2, e1, hk1, q3, q4, e2, hk2, q5, q6, e3, ⟨A0, c0, hq0, hc0, hC0⟩, q7, q8, e4, ⟨A1, c1, hq1, hc1, hC1⟩, ⟨A2, c2, hq2, hc2, hC2⟩⟩ := hk
  obtain ⟨w1, w2, w3, w4, w5⟩ := hw
  unfold backBulk at hb
  simp only at w1 w2 w3 w4 w5 hb hC0 hC1 hC2 hq0 hq1 hq2 hc0 hc1 hc2
  rw [sum_ones, sum_ones] at hb
  have b1 := u64_bounds w1
  have hKb := bytes_wf w3
  have hBb := bytes_wf w5
  have hTL := texts_len TL
  have hcs : cs = #[.int .u64 n, .string s, .slice A0 KL.length c0, .slice A1 TL.length c1, .slice A2 BH.length c2] := by
    apply Array.ext'
    rw [e1, e2, e3, e4, hk1, hk2, hq0, hq1, hq2]
    rfl
  subst hcs
  have hfb : ∀ i, i ≤ KL.length → (fileN KL TL i).length ≤ 16777216 := fun i hi => by
    have h1 := fileN_bound KL TL i
    have h2 := range_sum TL i
    omega
  obtain ⟨M, hM⟩ : ∃ M, M = min KL.length TL.length := ⟨_, rfl⟩
  have hML : M ≤ KL.length := by rw [hM]; exact Nat.min_le_left _ _
  have hu1 : Bytes (uvI n) := uvI_bytes 9 n b1.1 (by rw [p128]; omega)
  have hu2 : Bytes (uvI s.size) := uvI_bytes 9 s.size (by omega) (by rw [p128]; omega)
  have l1 := uvI_len 9 n (by rw [p128]; omega)
  have l2 := uvI_len 9 (s.size : Int) (by rw [p128]; omega)
  have l3 := bytesOf_length s
  have hb1 : Bytes (uvI n ++ BH) := fun y hy => by rcases List.mem_append.1 hy with hy | hy; exact hu1 y hy; exact hBb y hy
  have hb2 : Bytes (uvI s.size ++ bytesOf s ++ BH) := fun y hy => by
    rcases List.mem_append.1 hy with hy | hy
    · rcases List.mem_append.1 hy with hy | hy
      · exact hu2 y hy
      · exact bytesOf_bytes s y hy
    · exact hBb y hy
  obtain ⟨K1, h1⟩ := frameUint_ev (uvI n ++ BH) (by rw [List.length_append]; omega) hb1
  obtain ⟨K2, h2⟩ := frameText_ev (uvI s.size ++ bytesOf s ++ BH) s.size (by simp only [List.length_append]; omega) hb2 (by omega)
  have hfm := hfb M hML
  obtain ⟨K3, h3⟩ := scan_file KL TL [] 0 M (by omega) (by simp; omega) (by rw [List.append_nil]; exact fileN_bytes KL TL hKb M hML) (.inl ⟨rfl, rfl⟩) M 0 (by omega)
  rw [uint_back_put n BH b1.1 (by omega)] at h1
  rw [text_put s BH (by omega)] at h2
  refine wicketlaw01_FrameBack.walk (K1 + K2 + K3) A0 A1 A2 c0 c1 c2 n s KL BH (uvI n) (uvI s.size ++ bytesOf s) TL (framesN KL TL M) W hT hC0 hC1 hC2 (by omega) (by omega) (fun i hi => by have := hfb i hi; omega) (fun i hi h0 hs => seal_ok _ _ (hKb _ (kdN_mem hi)) h0 hs) (by omega) (by omega) (by rw [List.length_append]; omega) (by omega) rfl same_ev
    (by rw [framePutUint_f [] n (by simp) (by omega)]; rfl) (h1 _ (by omega)) (by rw [framePutText_f [] s (by simp) (by omega)]; rfl) ?_ ?_ (by rw [← hM]; exact framesN_length KL TL M) (fun i hi h => framesN_at KL TL M i (by rw [hM]; exact hi) h)
  · have h := h2 (K1 + K2 + K3) (by omega)
    have e : ((uvI s.size ++ bytesOf s).length : Int) = ((uvI s.size).length : Int) + s.size := by rw [List.length_append, l3]; exact Int.natCast_add _ _
    rw [e]
    exact h
  · have h := h3 (K1 + K2 + K3) (by omega)
    rw [List.append_nil] at h
    rw [← hM]
    exact h
end Go.Proofs.YtdlfhpkkkhfhdaaDoor.Hand
