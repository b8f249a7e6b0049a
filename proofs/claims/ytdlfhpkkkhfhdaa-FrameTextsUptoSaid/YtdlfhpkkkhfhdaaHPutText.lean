/- wicketref01.PutText: the walk. -/
import Derived.Test.YtdlfhpkkkhfhdaaQx
import Derived.Test.YtdlfhpkkkhfhdaaHAlone
import Derived.Test.YtdlfhpkkkhfhdaaHWords
import Derived.Outline
namespace Go.Proofs.Ytdlfhpkkkhfhdaa.Hand
open Go.RowKit Go.Proofs.YtdlfhpkkkhfhdaaW.PrintWords Go.Proofs.YtdlfhpkkkhfhdaaW.PrintLast Go.Proofs.YtdlfhpkkkhfhdaaW.PrintMore Go.Proofs.Ytdlfhpkkkhfhdaa.Q
set_option linter.unusedVariables false

theorem wicketref01_PutText.calls (k : Nat) (A : Option Addr) (c : Nat) (l r1 r : List Int) (s : ByteArray) (w : World) (hr : Kd.C (Kd.int .u8) w A l.length l) (hc : l.length ≤ c) (hs : s.size ≤ 100000000)
    (h1 : wicketref01_PutUint.f k l s.size = some r1) (h2 : wicketref01_joined.f r1 (bytesOf s) = some r) :
    Calls Try.prog 15 #[.slice A l.length c, .string s] w fun e w' => ∃ v, e = .returned v ∧ RB w' w.heap.size v r ∧ Below w.heap.size w w' := by
  have H1 := Aside0.mk h1
  have H2 := Aside0.mk h2
  have HC := Aside0.mk hr
  have HB := Aside0.mk (Below.refl w.heap.size w)
  clear h1 h2 hr
  go_enter Try.func15, Try.ntmps15
  go_wp2_with fail
  refine (wicketref01_PutUint.calls k A c l _ r1 w HC.out hc H1.out).mono ?_
  rintro x w1 ⟨v1, rfl, ho, hb⟩
  obtain ⟨A1, c1, hv⟩ := Kd.R_slice ho
  subst hv
  have HR := Aside0.mk (Kd.R_reads' ho).2.2
  have HR1 := Aside0.mk (Kd.R_reads' ho).2.1
  clear ho
  replace HB := Aside0.mk (below_step HB.out hb)
  replace HC := Aside0.mk (Kd.C_below HC.out hb)
  clear hb
  have hsz := HB.out.size
  go_wp2_with (first | ((with_reducible refine gate_dst (N := 11) rfl ?_); refine C_conv (w0 := w) w.heap.size 9 22 5 rfl (.tmp 10) rfl s rfl Try.underlying9 Try.underlying22 Try.underlying5 (by omega) HB.out hsz ?_; intro A2 c2 w2 hC2 hc2 hb2 hg; have HC2 := Aside0.mk hC2; have HB2 := Aside0.mk hb2; have HR2 := Aside0.mk (C_move (w' := w2) HR.out (fun ad e hlt => hg.block _ hlt (by simp))); clear hC2 hb2 hg))
  refine (wicketref01_joined.calls A1 c1 r1 A2 c2 (bytesOf s) r w2 HR2.out HR1.out HC2.out hc2 H2.out).mono ?_
  rintro x w3 ⟨v3, rfl, ho, hb⟩
  have HR3 := Aside0.mk (Kd.R_lower ho HB2.out.size)
  have HB3 := Aside0.mk (below_step HB2.out hb)
  clear ho hb
  go_wp2_with fail
  go_ret
  exact ⟨_, rfl, HR3.out, HB3.out⟩
end Go.Proofs.Ytdlfhpkkkhfhdaa.Hand
