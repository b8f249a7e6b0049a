/- LimitMost: the walk. -/
import Derived.Test.YtgdjoochbgeokaaLimP
import Derived.Test.YtgdjoochbgeokaaHOpens
import Derived.OpenShut
import Derived.Laws.StructEq
namespace Go.Proofs.Ytgdjoochbgeokaa.Hand
open Go.RowKit Go.Maps Go.Proofs.YtgdjoochbgeokaaW.PrintWords Go.Proofs.YtgdjoochbgeokaaW.PrintLast Go.Proofs.YtgdjoochbgeokaaW.PrintMore Go.Proofs.Ytgdjoochbgeokaa.PLimitMost
set_option linter.unusedVariables false
set_option linter.unusedSimpArgs false

abbrev OpT := Int × ByteArray × Int
abbrev kOp : Kd OpT := Kd.iso (Kd.pair (Kd.int .i64) (Kd.pair Kd.string (Kd.int .u64))) (fun x => x)
theorem kOp_open {w : World} {x : OpT} {cs : List Value} (h : kOp.K w x cs) : cs = [.int .i64 x.1, .string x.2.1, .int .u64 x.2.2] := by
  obtain ⟨_, _, rfl, rfl, ⟨_, _, rfl, rfl, rfl⟩⟩ := h
  exact rfl
def opz : OpT := (0, ⟨#[]⟩, 0)
def opN (xs : List OpT) (i : Nat) : OpT := xs.getD i opz
theorem op_at {w : World} {A : Option Addr} {n : Nat} {xs : List OpT} (h : Kd.C kOp w A n xs) (i : Nat) (h1 : i < n) : ∃ ad, A = some ad ∧ w.cell? (ad.add (i * 3)) = some (.int .i64 (opN xs i).1) ∧ w.cell? ⟨(ad.add (i * 3)).block, (ad.add (i * 3)).off + 1, none⟩ = some (.string (opN xs i).2.1) ∧ w.cell? ⟨(ad.add (i * 3)).block, (ad.add (i * 3)).off + 2, none⟩ = some (.int .u64 (opN xs i).2.2) := by
  obtain ⟨ad, c, e, _, hK, hc0⟩ := Kd.C_get h opz (i : Int) (by omega) (by omega)
  rw [Int.toNat_natCast] at hK hc0
  have hc : ∀ j u, c[j]? = some u → w.cell? (ad.add (i * 3 + j)) = some u := hc0
  obtain rfl := kOp_open hK
  exact ⟨ad, e, hc 0 _ rfl, by rw [← add_field _ _ 1 (by omega)]; exact hc 1 _ rfl, by rw [← add_field _ _ 2 (by omega)]; exact hc 2 _ rfl⟩
theorem story_bad (tr sp mo : Int) (h : ¬ okNew tr sp mo) : wicketref08_New.f tr sp mo = some (0, 0, 0, 0, [], 2) := refNew_bad h

theorem str_ne {s t : ByteArray} (h : ¬ s = t) : (s.toList == t.toList) = false := by
  rw [← beq_toListBytes]
  cases e : (s == t) with
  | true => exact absurd ((MapKept.bytes_beq _ _).1 e) h
  | false => rfl
/-- A limit beside a story, over what lay there. -/
structure LW (w wr : World) (B g m n : Nat) (tr mo sp ck : Int) (cs : Array Value) (D : DW) : Prop where
  lim : LimAt wr g m tr mo sp ck
  own : Owns wr m n D
  box : wr.heap[B]? = some (.cells cs 25 (0, 0))
  bel : Below w.heap.size w wr
theorem LW.drewN {w wr : World} {B g m n : Nat} {tr mo sp ck : Int} {cs : Array Value} {D : DW} (h : LW w wr B g m n tr mo sp ck cs D) (k : Nat) : LW w (wr.drewN k) B g m n tr mo sp ck cs D := ⟨h.lim, h.own, h.box, pw_below_drewN h.bel k⟩
theorem LW.below {w wr w2 : World} {B g m n : Nat} {tr mo sp ck : Int} {cs : Array Value} {D : DW} (h : LW w wr B g m n tr mo sp ck cs D) (hb : Below wr.heap.size wr w2) : LW w w2 B g m n tr mo sp ck cs D := ⟨h.lim.below hb, Owns.below h.own hb, blk_below h.box hb, below_step h.bel hb⟩
theorem LW.kept {w wr w2 : World} {B g m n n' : Nat} {tr mo sp ck ck' : Int} {cs : Array Value} {D D' : DW} (h : LW w wr B g m n tr mo sp ck cs D) (hk : KeptL (fun b => b = g ∨ b = m) wr w2) (hL : LimAt w2 g m tr mo sp ck') (hO : Owns w2 m n' D') (hS : ∀ b, (b = g ∨ b = m) → w.heap.size ≤ b) : LW w w2 B g m n' tr mo sp ck' cs D' := by
  refine ⟨hL, hO, (hk.block B (blk_lt h.box) (fun hb => ?_)).trans h.box, below_step2 h.bel hk hS⟩
  rcases hb with rfl | rfl
  · exact blk_ne h.lim h.box (by decide) rfl
  · exact Owns.ne_cells h.own h.box rfl
set_option maxHeartbeats 4000000 in
set_option maxRecDepth 100000 in
theorem limitMost.walk (tr sp mo : Int) (A : Option Addr) (C : Nat) (ops : List OpT) (subject : ByteArray) (w : World) (hr : Kd.C kOp w A ops.length ops) (hsp : 0 ≤ sp ∧ sp ≤ 18446744073709551615) (hops : ∀ i, i < ops.length → 0 ≤ (opN ops i).2.2 ∧ (opN ops i).2.2 ≤ 18446744073709551615) (hlen : ops.length ≤ 9223372036854775807) :
    Calls Try.prog 3 #[.agg #[.int .i64 tr, .int .u64 sp, .int .i64 mo, .slice A ops.length C], .string subject] w fun e w' => e = .returned (.bool true) ∧ Below w.heap.size w w' := by
  have HC := Aside0.mk hr
  have HOPS := Aside0.mk hops
  have HSP := Aside0.mk hsp
  have HB := Aside0.mk (below_alloc (Below.refl w.heap.size w) (.cells #[.int .i64 tr, .int .u64 sp, .int .i64 mo, .slice A ops.length C] 25))
  have hx := blk_new w (.cells #[.int .i64 tr, .int .u64 sp, .int .i64 mo, .slice A ops.length C] 25)
  have d0 := (blk_cell hx 0).trans rfl
  have d1 := (blk_cell hx 1).trans rfl
  have d2 := (blk_cell hx 2).trans rfl
  have d3 := (blk_cell hx 3).trans rfl
  have HX := Aside0.mk hx
  clear hr hops hsp hx
  go_enter Try.func3, Try.ntmps3
  go_wp2_with fail
  obtain ⟨B, hB⟩ : ∃ B, B = w.heap.size := ⟨_, rfl⟩
  obtain ⟨w1, hw1⟩ : ∃ w1, w1 = w.alloc (.cells #[.int .i64 tr, .int .u64 sp, .int .i64 mo, .slice A ops.length C] 25) := ⟨_, rfl⟩
  rw [← hB, ← hw1] at HX
  rw [← hw1] at HB
  rw [← hB, ← hw1]
  clear d0 d1 d2 d3 hw1
  have hBw : w.heap.size ≤ B := by omega
  clear hB
  by_cases hn : okNew tr sp mo
  · have HN := Aside0.mk hn
    refine (lim_made.good tr sp mo A ops.length C w1 hn).mono ?_
    rintro x w2 ⟨g, m, rfl, hL, hO, hb, hg, hm⟩
    have hgm : Aside0 (∀ b, (b = g ∨ b = m) → w1.heap.size ≤ b) := ⟨fun b h => by rcases h with rfl | rfl <;> assumption⟩
    have HL := Aside0.mk hL
    have HO := Aside0.mk hO
    have HBX := Aside0.mk hb
    replace HX := Aside0.mk (blk_below HX.out hb)
    clear hL hO hb hg hm hn
    go_wp2_with fail
    refine (lim_live.calls w2).mono ?_
    rintro x w3 ⟨rfl, hb⟩
    replace HL := Aside0.mk (HL.out.below hb)
    replace HO := Aside0.mk (Owns.below HO.out hb)
    replace HX := Aside0.mk (blk_below HX.out hb)
    replace HBX := Aside0.mk (below_step HBX.out hb)
    clear hb
    obtain ⟨N, hN⟩ : ∃ N, N = ops.length := ⟨_, rfl⟩
    have HLW := Aside0.mk (LW.mk HL.out HO.out HX.out (below_step HB.out HBX.out))
    have hgm2 : Aside0 (∀ b, (b = g ∨ b = m) → w.heap.size ≤ b) := ⟨fun b h => Nat.le_trans HB.out.size (hgm.out b h)⟩
    have HTR := Aside0.mk (show 1 ≤ tr ∧ tr ≤ 1000000 by obtain ⟨a, b, _⟩ := HN.out; omega)
    have HMO := Aside0.mk (show 0 ≤ mo ∧ mo ≤ 4096 by obtain ⟨_, _, _, a, b⟩ := HN.out; omega)
    have b3 := (blk_cell HX.out 3).trans rfl
    clear HL HO HX HBX hgm
    go_wp2_with fail
    rw [← hN] at HOPS hlen HLW ⊢
    have HNL := Aside0.mk hN
    clear hN b3
    go_loopw [8, 9, 10, 11] (fun v8 v9 v10 v11 wr => ∃ (i : Nat) (ck bg ct : Int) (D : DW) (n : Nat), i ≤ N ∧ v11 = .int .i64 i ∧ v8 = .int .u64 ck ∧ v9 = .int .u64 bg ∧ v10 = .int .i64 ct ∧ Aside0 (LW w wr B g m n tr mo sp ck #[.int .i64 tr, .int .u64 sp, .int .i64 mo, .slice A N C] D) ∧ Aside0 (GoodD D tr mo) ∧ Aside0 (Most sp tr (ks subject) D ck bg ct)) (fun _ _ _ v11 _ => N - (intOf v11).toNat)
    case atStart => exact ⟨0, 0, 0, 0, .map [], _, Nat.zero_le _, rfl, rfl, rfl, rfl, HLW, ⟨good_empty tr mo HMO.out.1⟩, ⟨most_start sp tr HTR.out.1 _⟩⟩
    case round =>
      clear HLW
      obtain ⟨i, ck, bg, ct, D, n, hi, rfl, rfl, rfl, rfl, HLW, HG, HJ⟩ := hrel
      have b3 := (blk_cell HLW.out.box 3).trans rfl
      by_cases hlt : i < N
      · obtain ⟨⟨kd, s, now⟩, hop⟩ : ∃ o, o = opN ops i := ⟨_, rfl⟩
        have hoi := HOPS.out i hlt
        obtain ⟨ad, hA, o0, o1, o2⟩ := op_at (Kd.C_below HC.out HLW.out.bel) i (by rw [← HNL.out]; exact hlt)
        rw [← hop] at o0 o1 o2 hoi
        simp only at o0 o1 o2 hoi
        subst hA
        have HNOW := Aside0.mk hoi
        clear hop hoi
        have HLW4 := Aside0.mk (HLW.out.below (below_alloc (Below.refl wr.heap.size wr) (.cells #[.int .i64 kd, .string s, .int .u64 now] 35)))
        have HBO := Aside0.mk (blk_new wr (.cells #[.int .i64 kd, .string s, .int .u64 now] 35))
        go_wp2_with fail
        obtain ⟨Bo, hBo⟩ : ∃ Bo, Bo = wr.heap.size := ⟨_, rfl⟩
        obtain ⟨w4, hw4⟩ : ∃ w4, w4 = wr.alloc (.cells #[.int .i64 kd, .string s, .int .u64 now] 35) := ⟨_, rfl⟩
        rw [← hBo, ← hw4] at HBO
        rw [← hw4] at HLW4
        rw [← hBo, ← hw4]
        clear hBo hw4 o0 o1 o2 b3
        refine (limit_Try.calls g m n tr mo sp ck now s D w4 HLW4.out.lim HLW4.out.own HJ.out.rck HNOW.out HTR.out HMO.out.2 HG.out).mono ?_
        rintro x w5 ⟨D5, ck5, r5, e5, n5, rfl, hK, hL, hO, hS⟩
        have HLW5 := Aside0.mk (HLW4.out.kept hK hL hO hgm2.out)
        have HG5 := Aside0.mk (hS.good HG.out HTR.out.1)
        have HBO5 : Aside0 (w5.heap[Bo]? = some (.cells #[.int .i64 kd, .string s, .int .u64 now] 35 (0, 0))) := ⟨(hK.block Bo (blk_lt HBO.out) (fun hb => by
          rcases hb with rfl | rfl
          · exact blk_ne HLW4.out.lim HBO.out (by decide) rfl
          · exact Owns.ne_cells HLW4.out.own HBO.out rfl)).trans HBO.out⟩
        have o1 := (blk_cell HBO5.out 1).trans rfl
        have o2 := (blk_cell HBO5.out 2).trans rfl
        have b0 := (blk_cell HLW5.out.box 0).trans rfl
        have b1 := (blk_cell HLW5.out.box 1).trans rfl
        have hst := most_step HJ.out hS HNOW.out HTR.out.1
        clear hK hL hO hS HBO HLW4 HLW HG HJ
        rcases hst with ⟨h1, rfl, rfl, hj⟩ | ⟨h1, rfl, hst⟩
        · have t1 : decide ((s.size : Int) ≤ 256) = false := decide_eq_false (by omega)
          have HJ5 := Aside0.mk hj
          clear h1 hj
          by_cases hs : s = subject
          · subst hs
            go_wp2_with (go_at_call 11; (with_reducible refine (wicketlaw08_num.calls _ _ _ rfl).mono ?_); rintro e w9 ⟨rfl, ⟨nd, rfl⟩⟩)
            go_roundw
            case rel => exact ⟨i + 1, ck5, bg, ct, D5, n5, by omega, by go_num, rfl, rfl, by first | rfl | go_num, ⟨by repeat (first | exact HLW5.out | apply LW.drewN)⟩, HG5, HJ5⟩
            case measure => simp [intOf]; omega
          · skip
            have n1 := str_ne hs
            clear hs
            go_wp2_with (go_at_call 11; (with_reducible refine (wicketlaw08_num.calls _ _ _ rfl).mono ?_); rintro e w9 ⟨rfl, ⟨nd, rfl⟩⟩)
            go_roundw
            case rel => exact ⟨i + 1, ck5, bg, ct, D5, n5, by omega, by go_num, rfl, rfl, by first | rfl | go_num, ⟨by repeat (first | exact HLW5.out | apply LW.drewN)⟩, HG5, HJ5⟩
            case measure => simp [intOf]; omega
        · have t1 : decide ((s.size : Int) ≤ 256) = true := decide_eq_true (by omega)
          have htr := HTR.out
          by_cases hnow : now > ck
          · have t2 : decide (now > ck) = true := decide_eq_true hnow
            have hmx : max now ck = now := by omega
            rw [hmx] at HLW5 hst
            clear hmx h1 hnow
            rcases hst with ⟨hs, hj⟩ | ⟨rfl, rfl, hj⟩ | ⟨rfl, rfl, hc1, ha, hc2, hj⟩ | ⟨rfl, rfl, hc1, ha, hc2, rfl, hj⟩ | ⟨rfl, rfl, hc, rfl, hj⟩
            · have HJ5 := Aside0.mk hj
              have n1 := str_ne hs
              clear hs hj htr
              go_wp2_with (go_at_call 11; (with_reducible refine (wicketlaw08_num.calls _ _ _ rfl).mono ?_); rintro e w9 ⟨rfl, ⟨nd, rfl⟩⟩)
              go_roundw
              case rel => exact ⟨i + 1, now, bg, ct, D5, n5, by omega, by go_num, rfl, rfl, by first | rfl | go_num, ⟨by repeat (first | exact HLW5.out | apply LW.drewN)⟩, HG5, HJ5⟩
              case measure => simp [intOf]; omega
            · have HJ5 := Aside0.mk hj
              clear hj htr
              go_wp2_with (go_at_call 11; (with_reducible refine (wicketlaw08_num.calls _ _ _ rfl).mono ?_); rintro e w9 ⟨rfl, ⟨nd, rfl⟩⟩)
              go_roundw
              case rel => exact ⟨i + 1, now, bg, ct, D5, n5, by omega, by go_num, rfl, rfl, by first | rfl | go_num, ⟨by repeat (first | exact HLW5.out | apply LW.drewN)⟩, HG5, HJ5⟩
              case measure => simp [intOf]; omega
            · have HJ5 := Aside0.mk hj
              have t3 : decide (ct > 0) = true := decide_eq_true hc1
              have t4 : decide (IntKind.u64.wrap (now - bg) ≥ sp) = false := decide_eq_false (by have := of_decide_eq_true ha; omega)
              have t4b : decide (sp ≤ IntKind.u64.wrap (now - bg)) = false := t4
              have t5 : decide (ct < tr) = false := decide_eq_false hc2
              clear hj ha hc1 hc2 htr
              go_wp2_with (go_at_call 11; (with_reducible refine (wicketlaw08_num.calls _ _ _ rfl).mono ?_); rintro e w9 ⟨rfl, ⟨nd, rfl⟩⟩)
              go_roundw
              case rel => exact ⟨i + 1, now, bg, ct, D5, n5, by omega, by go_num, rfl, rfl, by first | rfl | go_num, ⟨by repeat (first | exact HLW5.out | apply LW.drewN)⟩, HG5, HJ5⟩
              case measure => simp [intOf]; omega
            · have HJ5 := Aside0.mk hj
              have t3 : decide (ct > 0) = true := decide_eq_true hc1
              have t4 : decide (IntKind.u64.wrap (now - bg) ≥ sp) = false := decide_eq_false (by have := of_decide_eq_true ha; omega)
              have t4b : decide (sp ≤ IntKind.u64.wrap (now - bg)) = false := t4
              have t6 : (ct == 0) = false := beq_eq_false_iff_ne.mpr (by omega)
              have t7 : decide (ct + 1 > tr) = false := decide_eq_false (by omega)
              clear hj ha
              go_wp2_with (go_at_call 11; (with_reducible refine (wicketlaw08_num.calls _ _ _ rfl).mono ?_); rintro e w9 ⟨rfl, ⟨nd, rfl⟩⟩)
              go_roundw
              case rel => exact ⟨i + 1, now, bg, (ct + 1), D5, n5, by omega, by go_num, rfl, rfl, by first | rfl | go_num, ⟨by repeat (first | exact HLW5.out | apply LW.drewN)⟩, HG5, HJ5⟩
              case measure => simp [intOf]; omega
            · have HJ5 := Aside0.mk hj
              have t8 : decide (1 > tr) = false := decide_eq_false (by omega)
              rcases hc with rfl | ⟨hc1, ha⟩
              · clear hj
                go_wp2_with (go_at_call 11; (with_reducible refine (wicketlaw08_num.calls _ _ _ rfl).mono ?_); rintro e w9 ⟨rfl, ⟨nd, rfl⟩⟩)
                go_roundw
                case rel => exact ⟨i + 1, now, now, 1, D5, n5, by omega, by go_num, rfl, rfl, by first | rfl | go_num, ⟨by repeat (first | exact HLW5.out | apply LW.drewN)⟩, HG5, HJ5⟩
                case measure => simp [intOf]; omega
              · have t3 : decide (ct > 0) = true := decide_eq_true hc1
                have t4 : decide (IntKind.u64.wrap (now - bg) ≥ sp) = true := decide_eq_true (by have := of_decide_eq_false ha; omega)
                have t4b : decide (sp ≤ IntKind.u64.wrap (now - bg)) = true := t4
                clear hj ha hc1
                go_wp2_with (go_at_call 11; (with_reducible refine (wicketlaw08_num.calls _ _ _ rfl).mono ?_); rintro e w9 ⟨rfl, ⟨nd, rfl⟩⟩)
                go_roundw
                case rel => exact ⟨i + 1, now, now, 1, D5, n5, by omega, by go_num, rfl, rfl, by first | rfl | go_num, ⟨by repeat (first | exact HLW5.out | apply LW.drewN)⟩, HG5, HJ5⟩
                case measure => simp [intOf]; omega
          · have t2 : decide (now > ck) = false := decide_eq_false hnow
            have hmx : max now ck = ck := by omega
            rw [hmx] at HLW5 hst
            clear hmx h1 hnow
            rcases hst with ⟨hs, hj⟩ | ⟨rfl, rfl, hj⟩ | ⟨rfl, rfl, hc1, ha, hc2, hj⟩ | ⟨rfl, rfl, hc1, ha, hc2, rfl, hj⟩ | ⟨rfl, rfl, hc, rfl, hj⟩
            · have HJ5 := Aside0.mk hj
              have n1 := str_ne hs
              clear hs hj htr
              go_wp2_with (go_at_call 11; (with_reducible refine (wicketlaw08_num.calls _ _ _ rfl).mono ?_); rintro e w9 ⟨rfl, ⟨nd, rfl⟩⟩)
              go_roundw
              case rel => exact ⟨i + 1, ck, bg, ct, D5, n5, by omega, by go_num, rfl, rfl, by first | rfl | go_num, ⟨by repeat (first | exact HLW5.out | apply LW.drewN)⟩, HG5, HJ5⟩
              case measure => simp [intOf]; omega
            · have HJ5 := Aside0.mk hj
              clear hj htr
              go_wp2_with (go_at_call 11; (with_reducible refine (wicketlaw08_num.calls _ _ _ rfl).mono ?_); rintro e w9 ⟨rfl, ⟨nd, rfl⟩⟩)
              go_roundw
              case rel => exact ⟨i + 1, ck, bg, ct, D5, n5, by omega, by go_num, rfl, rfl, by first | rfl | go_num, ⟨by repeat (first | exact HLW5.out | apply LW.drewN)⟩, HG5, HJ5⟩
              case measure => simp [intOf]; omega
            · have HJ5 := Aside0.mk hj
              have t3 : decide (ct > 0) = true := decide_eq_true hc1
              have t4 : decide (IntKind.u64.wrap (ck - bg) ≥ sp) = false := decide_eq_false (by have := of_decide_eq_true ha; omega)
              have t4b : decide (sp ≤ IntKind.u64.wrap (ck - bg)) = false := t4
              have t5 : decide (ct < tr) = false := decide_eq_false hc2
              clear hj ha hc1 hc2 htr
              go_wp2_with (go_at_call 11; (with_reducible refine (wicketlaw08_num.calls _ _ _ rfl).mono ?_); rintro e w9 ⟨rfl, ⟨nd, rfl⟩⟩)
              go_roundw
              case rel => exact ⟨i + 1, ck, bg, ct, D5, n5, by omega, by go_num, rfl, rfl, by first | rfl | go_num, ⟨by repeat (first | exact HLW5.out | apply LW.drewN)⟩, HG5, HJ5⟩
              case measure => simp [intOf]; omega
            · have HJ5 := Aside0.mk hj
              have t3 : decide (ct > 0) = true := decide_eq_true hc1
              have t4 : decide (IntKind.u64.wrap (ck - bg) ≥ sp) = false := decide_eq_false (by have := of_decide_eq_true ha; omega)
              have t4b : decide (sp ≤ IntKind.u64.wrap (ck - bg)) = false := t4
              have t6 : (ct == 0) = false := beq_eq_false_iff_ne.mpr (by omega)
              have t7 : decide (ct + 1 > tr) = false := decide_eq_false (by omega)
              clear hj ha
              go_wp2_with (go_at_call 11; (with_reducible refine (wicketlaw08_num.calls _ _ _ rfl).mono ?_); rintro e w9 ⟨rfl, ⟨nd, rfl⟩⟩)
              go_roundw
              case rel => exact ⟨i + 1, ck, bg, (ct + 1), D5, n5, by omega, by go_num, rfl, rfl, by first | rfl | go_num, ⟨by repeat (first | exact HLW5.out | apply LW.drewN)⟩, HG5, HJ5⟩
              case measure => simp [intOf]; omega
            · have HJ5 := Aside0.mk hj
              have t8 : decide (1 > tr) = false := decide_eq_false (by omega)
              rcases hc with rfl | ⟨hc1, ha⟩
              · clear hj
                go_wp2_with (go_at_call 11; (with_reducible refine (wicketlaw08_num.calls _ _ _ rfl).mono ?_); rintro e w9 ⟨rfl, ⟨nd, rfl⟩⟩)
                go_roundw
                case rel => exact ⟨i + 1, ck, ck, 1, D5, n5, by omega, by go_num, rfl, rfl, by first | rfl | go_num, ⟨by repeat (first | exact HLW5.out | apply LW.drewN)⟩, HG5, HJ5⟩
                case measure => simp [intOf]; omega
              · have t3 : decide (ct > 0) = true := decide_eq_true hc1
                have t4 : decide (IntKind.u64.wrap (ck - bg) ≥ sp) = true := decide_eq_true (by have := of_decide_eq_false ha; omega)
                have t4b : decide (sp ≤ IntKind.u64.wrap (ck - bg)) = true := t4
                clear hj ha hc1
                go_wp2_with (go_at_call 11; (with_reducible refine (wicketlaw08_num.calls _ _ _ rfl).mono ?_); rintro e w9 ⟨rfl, ⟨nd, rfl⟩⟩)
                go_roundw
                case rel => exact ⟨i + 1, ck, ck, 1, D5, n5, by omega, by go_num, rfl, rfl, by first | rfl | go_num, ⟨by repeat (first | exact HLW5.out | apply LW.drewN)⟩, HG5, HJ5⟩
                case measure => simp [intOf]; omega
      · obtain rfl : N = i := by omega
        go_wp2_with fail
        go_ret
        exact ⟨rfl, HLW.out.bel⟩
  · have HN := Aside0.mk hn
    refine (lim_made.bad tr sp mo A ops.length C w1 hn).mono ?_
    rintro x w2 ⟨rfl, hb⟩
    replace HX := Aside0.mk (blk_below HX.out hb)
    replace HB := Aside0.mk (below_step HB.out hb)
    have b0 := (blk_cell HX.out 0).trans rfl
    have b1 := (blk_cell HX.out 1).trans rfl
    have b2 := (blk_cell HX.out 2).trans rfl
    clear hb hn
    go_wp2_with fail
    refine (wicketref08_New.calls tr sp mo 0 0 0 0 [] 2 w2 (refNew_bad HN.out)).mono ?_
    rintro x w3 ⟨v4, rfl, ho, hb⟩
    obtain ⟨A4, c4, hv4⟩ := Kd.R_slice ho
    subst hv4
    replace HB := Aside0.mk (below_alloc (below_step HB.out hb) (.cells #[.int .i64 0, .int .u64 0, .int .i64 0, .int .u64 0, .slice A4 0 c4] 31))
    clear ho hb b0 b1 b2
    go_wp2_with fail
    refine (lim_live.calls _).mono ?_
    rintro x w5 ⟨rfl, hb⟩
    replace HB := Aside0.mk (below_step HB.out hb)
    clear hb
    go_wp2_with fail
    go_ret
    exact ⟨rfl, HB.out⟩
end Go.Proofs.Ytgdjoochbgeokaa.Hand
