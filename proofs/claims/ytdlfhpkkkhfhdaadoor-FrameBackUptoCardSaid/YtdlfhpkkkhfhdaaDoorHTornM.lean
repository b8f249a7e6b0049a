/- FrameTorn: what comes in, taken apart; the walk and the plain law, joined. -/
import Derived.Test.YtdlfhpkkkhfhdaaDoorHTornW
import Derived.Test.YtdlfhpkkkhfhdaaDoorHTornP
import Derived.Test.YtdlfhpkkkhfhdaaDoorHOpens
import Derived.OpenShut
namespace Go.Proofs.YtdlfhpkkkhfhdaaDoor.Hand
open Go.RowKit Go.Proofs.YtdlfhpkkkhfhdaaDoorW.PrintWords Go.Proofs.YtdlfhpkkkhfhdaaDoorW.PrintLast Go.Proofs.YtdlfhpkkkhfhdaaDoorW.PrintMore Go.Proofs.YtdlfhpkkkhfhdaaDoor.Q
set_option linter.unusedVariables false
set_option linter.unusedSimpArgs false
abbrev TornT := List Int × List ByteArray × ByteArray × Int
abbrev kTorn : Kd TornT := Kd.iso (Kd.pair (Kd.slice 5 (Kd.int .u8)) (Kd.pair (Kd.slice 9 Kd.string) (Kd.pair Kd.string (Kd.int .i64)))) (fun x => x)
theorem torn_opens : Opens Tryd.prog 66 kTorn (fun b : TornT => (∀ x ∈ b.1, (Lit.int .u8 x).wf = true) ∧ (∀ x ∈ b.2.1, x.size ≤ 9223372036854775807) ∧ b.2.2.1.size ≤ 9223372036854775807 ∧ (Lit.int .i64 b.2.2.2).wf = true)
    (fun b : TornT => ((b.1.map fun _ => 1).sum + 1) + (((b.2.1.map fun s => s.size + 1).sum + 1) + ((b.2.2.1.size + 1) + 1)) + 1) :=
  Opens.struct (total := 4) (fun x => x) (fun x => x) (fun _ => rfl) Tryd.underlying66 (by kernel_rfl) (OpensFs.cons rfl (by kernel_rfl) (Opens.slice Tryd.underlying22 (by kernel_rfl) (Opens.int .u8 Tryd.underlying5))
    (OpensFs.cons rfl (by kernel_rfl) (Opens.slice Tryd.underlying64 (by kernel_rfl) (Opens.str Tryd.underlying9)) (OpensFs.cons rfl (by kernel_rfl) (Opens.str Tryd.underlying9) (OpensFs.last rfl (by kernel_rfl) (by kernel_rfl) (Opens.int .i64 Tryd.underlying3)))))
theorem bytesOf_bytes (s : ByteArray) : Bytes (bytesOf s) := fun x hx => by
  obtain ⟨b, _, rfl⟩ := List.mem_map.1 hx
  have := b.toNat_lt
  omega
theorem kdN_mem {KL : List Int} {i : Nat} (h : i < KL.length) : kdN KL i ∈ KL := by
  unfold kdN rd
  rw [Int.toNat_natCast, List.getD_eq_getElem?_getD, List.getElem?_eq_getElem h]
  exact List.getElem_mem h
theorem txN_big (TL : List ByteArray) : ∀ i, (txN TL i).size ≤ (TL.map fun s => s.size + 1).sum := by
  induction TL with
  | nil => intro i; simp [txN, rdOf]
  | cons s r ih =>
    intro i
    cases i with
    | zero => simp [txN, rdOf]; omega
    | succ i =>
      have h := ih i
      have e : txN (s :: r) (i + 1) = txN r i := by simp [txN, rdOf]
      rw [e, List.map_cons, List.sum_cons]
      omega
theorem fileN_bound (KL : List Int) (TL : List ByteArray) : ∀ i, (fileN KL TL i).length ≤ i * 9 + ((List.range i).map fun j => (txN TL j).size).sum
  | 0 => by simp [fileN]
  | i + 1 => by
    have := fileN_bound KL TL i
    rw [List.range_succ, List.map_append, List.sum_append, List.map_singleton, List.sum_singleton]
    by_cases hs : kdN KL i = 0 ∨ (txN TL i).size > 2097152
    · rw [(fileN_skip hs).1]; omega
    · rw [(fileN_next hs).1, List.length_append, sealOf_length, bytesOf_length]; omega
theorem range_sum (TL : List ByteArray) : ∀ i, ((List.range i).map fun j => (txN TL j).size).sum ≤ (TL.map fun s => s.size + 1).sum := by
  induction TL with
  | nil =>
    intro i
    induction i with
    | zero => simp
    | succ i ih => rw [List.range_succ, List.map_append, List.sum_append, List.map_singleton, List.sum_singleton]; simp [txN, rdOf] at ih ⊢; exact ih
  | cons s r ih =>
    intro i
    cases i with
    | zero => simp
    | succ i =>
      have h := ih i
      rw [List.range_succ_eq_map, List.map_cons, List.sum_cons, List.map_map, List.map_cons, List.sum_cons]
      have e : ((fun j => (txN (s :: r) j).size) ∘ Nat.succ) = fun j => (txN r j).size := by funext j; simp [txN, rdOf]
      have e0 : txN (s :: r) 0 = s := by simp [txN, rdOf]
      rw [e, e0]
      omega
theorem fileN_bytes (KL : List Int) (TL : List ByteArray) (hK : ∀ x ∈ KL, 0 ≤ x ∧ x ≤ 255) : ∀ i, i ≤ KL.length → Bytes (fileN KL TL i)
  | 0, _ => fun x hx => by simp [fileN] at hx
  | i + 1, hi => by
    have h := fileN_bytes KL TL hK i (by omega)
    by_cases hs : kdN KL i = 0 ∨ (txN TL i).size > 2097152
    · rw [(fileN_skip hs).1]; exact h
    · rw [(fileN_next hs).1]
      intro x hx
      rcases List.mem_append.1 hx with hx | hx
      · exact h x hx
      · exact sealOf_bytes (hK _ (kdN_mem (by omega))) (bytesOf_bytes _) x hx
theorem seal_ok (kd : Int) (s : ByteArray) (hk : 0 ≤ kd ∧ kd ≤ 255) (h0 : kd ≠ 0) (hs : s.size ≤ 2097152) : frame_Seal.f kd (bytesOf s) = some (sealOf kd (bytesOf s), 0) := by
  rw [frameSeal_f]
  unfold sealP
  rw [if_neg h0, if_neg (by rw [bytesOf_length]; omega)]
theorem frameTorn_machine (W : World) (hT : Tb W) (cs : Array Value) (x : TornT) (hk : kTorn.K W x cs.toList) (hw : (∀ y ∈ x.1, (Lit.int .u8 y).wf = true) ∧ (∀ y ∈ x.2.1, y.size ≤ 9223372036854775807) ∧ x.2.2.1.size ≤ 9223372036854775807 ∧ (Lit.int .i64 x.2.2.2).wf = true)
    (hb : ((x.1.map fun _ => 1).sum + 1) + (((x.2.1.map fun s => s.size + 1).sum + 1) + ((x.2.2.1.size + 1) + 1)) + 1 ≤ 1048576) :
    Calls Tryd.prog 10 #[.agg cs] W fun e w' => e = .returned (.bool true) ∧ Below W.heap.size W w' := by
  obtain ⟨KL, TL, last, cut⟩ := x
  obtain ⟨q1, q2, e1, ⟨A0, c0, hq1, hc0, hC0⟩, q3, q4, e2, ⟨A1, c1, hq3, hc1, hC1⟩, q5, q6, e3, hk5, hk6⟩ := hk
  obtain ⟨w1, w2, w3, w4⟩ := hw
  simp only at w1 w2 w3 w4 hb hC0 hC1 hq1 hq3 hc0 hc1
  rw [sum_ones] at hb
  have b4 := bounds_i64 w4
  have hKb := bytes_wf w1
  have hTL : TL.length ≤ (TL.map fun s => s.size + 1).sum := by
    clear hC1 hc1 hq3 w2 hb hk5 hk6 e1 e2 e3
    induction TL with
    | nil => simp
    | cons s r ih => simp only [List.length_cons, List.map_cons, List.sum_cons]; omega
  have hcs : cs = #[.slice A0 KL.length c0, .slice A1 TL.length c1, .string last, .int .i64 cut] := by
    apply Array.ext'
    rw [e1, e2, e3, hq1, hq3, hk5, hk6]
    rfl
  subst hcs
  have hfb : ∀ i, i ≤ KL.length → (fileN KL TL i).length ≤ 16777216 := fun i hi => by
    have h1 := fileN_bound KL TL i
    have h2 := range_sum TL i
    omega
  have hPl : (sealOf 255 (bytesOf last)).length = last.size + 9 := by rw [sealOf_length, bytesOf_length]
  obtain ⟨M, hM⟩ : ∃ M, M = min KL.length TL.length := ⟨_, rfl⟩
  have hML : M ≤ KL.length := by rw [hM]; exact Nat.min_le_left _ _
  have hscan : last.size ≤ 2097152 → ∀ C : Nat, 1 ≤ C → C < (sealOf 255 (bytesOf last)).length → Ev (fun k => frame_Scan.f k (fileN KL TL M ++ (sealOf 255 (bytesOf last)).take C)) (framesN KL TL M, ((fileN KL TL M).length : Int), 3) := fun hl C h1 h2 => by
    have hfm := hfb M hML
    have htl : ((sealOf 255 (bytesOf last)).take C).length = C := by rw [List.length_take]; omega
    refine scan_file KL TL ((sealOf 255 (bytesOf last)).take C) 3 M (by omega) (by rw [htl]; omega) (fun x hx => ?_) (.inr ⟨fun e => ?_, openP_torn 255 (bytesOf last) C (by rw [bytesOf_length]; omega) (by rw [bytesOf_length]; omega), by decide⟩) M 0 (by omega)
    · rcases List.mem_append.1 hx with hx | hx
      · exact fileN_bytes KL TL hKb M hML x hx
      · exact sealOf_bytes (by decide) (bytesOf_bytes _) x (List.mem_of_mem_take hx)
    · rw [e] at htl
      simp at htl
      omega
  refine wicketlaw01_FrameTorn.walk A0 A1 c0 c1 KL TL last cut W hT hC0 hC1 (by omega) (by omega) (fun i hi => by have := hfb i hi; omega) (fun i hi h0 hs => seal_ok _ _ (hKb _ (kdN_mem hi)) h0 hs) b4 rfl (fun hl => seal_ok 255 last (by decide) (by decide) hl) hPl (fun hl C h1 h2 => ?_)
  rw [← hM]
  obtain ⟨k, h⟩ := (hscan hl C h1 h2).rounds
  exact ⟨k, framesN KL TL M, framesN_length KL TL M, h⟩
end Go.Proofs.YtdlfhpkkkhfhdaaDoor.Hand
