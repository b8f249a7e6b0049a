/- LimitPlays: the walk. -/
import Derived.Test.YtgdjoochbgeokaaLimBO
import Derived.Test.YtgdjoochbgeokaaLimBR
namespace Go.Proofs.Ytgdjoochbgeokaa.Hand
open Go.RowKit Go.Maps Go.Proofs.YtgdjoochbgeokaaW.PrintWords Go.Proofs.YtgdjoochbgeokaaW.PrintLast Go.Proofs.YtgdjoochbgeokaaW.PrintMore Go.Proofs.Ytgdjoochbgeokaa.Q Go.Proofs.Ytgdjoochbgeokaa.PLimitMost
set_option linter.unusedVariables false
set_option linter.unusedSimpArgs false
theorem played.all {w : World} {g m : Nat} {tr mo sp ck : Int} {v : Value} {l : List DocW} {Es : List Win} (h : PairL w g m tr mo sp ck v l Es) (hlt : (l.length : Int) < 4398046511104) (s : ByteArray) (hz : s.size ≤ 9223372036854775807) (now : Int) (hnow : 0 ≤ now ∧ now ≤ 18446744073709551615) (k : Int) :
    Calls Try.prog 14 #[.pointer (some ⟨g, 0, none⟩), .agg #[.int .i64 tr, .int .u64 sp, .int .i64 mo, .int .u64 ck, v], .agg #[.int .i64 k, .string s, .int .u64 now]] w (PlayedPost w g m tr mo sp l.length) := by
  by_cases h1 : k = 1
  · subst h1; exact played_Try h hlt s hz now hnow
  by_cases h2 : k = 2
  · subst h2; exact played_Left h hlt s hz now hnow
  by_cases h3 : k = 3
  · subst h3; exact played_Wait h hlt s hz now hnow
  by_cases h4 : k = 4
  · subst h4; exact played_Forgive h hlt s hz now hnow
  by_cases h5 : k = 5
  · subst h5; exact played_Sweep h hlt s hz now hnow
  by_cases h6 : k = 6
  · subst h6; exact played_Subjects h hlt s hz now hnow
  by_cases h7 : k = 7
  · subst h7; exact played_Clear h hlt s hz now hnow
  exact played_other h hlt s hz now hnow k h1 h2 h3 h4 h5 h6 h7
/-- Where the blocks of the law lie. -/
def Sep (w : World) (B B7 B9 g m g2 m2 : Nat) : Prop := ∃ s1 s2 s3, w.heap.size ≤ B ∧ B < s1 ∧ s1 ≤ g ∧ s1 ≤ m ∧ g < s2 ∧ m < s2 ∧ s2 ≤ g2 ∧ s2 ≤ m2 ∧ g2 < s3 ∧ m2 < s3 ∧ s3 ≤ B7 ∧ B7 < B9
/-- Two limits, the document's beside them, and the story. -/
structure Duo (w wr : World) (B B7 B9 g m g2 m2 : Nat) (tr mo sp ck ck2 : Int) (v v2 : Value) (l l2 : List DocW) (Es Es2 : List Win) (cs : Array Value) (i : Nat) : Prop where
  p1 : PairL wr g m tr mo sp ck v l Es
  p2 : PairL wr g2 m2 tr mo sp ck2 v2 l2 Es2
  box : wr.heap[B]? = some (.cells cs 25 (0, 0))
  b7 : wr.heap[B7]? = some (.cells #[.int .i64 tr, .int .u64 sp, .int .i64 mo, .int .u64 ck, v] 31 (0, 0))
  b9 : wr.heap[B9]? = some (.cells #[.int .i64 tr, .int .u64 sp, .int .i64 mo, .int .u64 ck2, v2] 31 (0, 0))
  bel : Below w.heap.size w wr
  len : l.length ≤ i ∧ l2.length ≤ i
theorem Duo.swap {w wr : World} {B B7 B9 g m g2 m2 : Nat} {tr mo sp ck ck2 : Int} {v v2 : Value} {l l2 : List DocW} {Es Es2 : List Win} {cs : Array Value} {i : Nat} (h : Duo w wr B B7 B9 g m g2 m2 tr mo sp ck ck2 v v2 l l2 Es Es2 cs i) : Duo w wr B B9 B7 g2 m2 g m tr mo sp ck2 ck v2 v l2 l Es2 Es cs i :=
  ⟨h.p2, h.p1, h.box, h.b9, h.b7, h.bel, h.len.2, h.len.1⟩
theorem Duo.drew {w wr : World} {B B7 B9 g m g2 m2 : Nat} {tr mo sp ck ck2 : Int} {v v2 : Value} {l l2 : List DocW} {Es Es2 : List Win} {cs : Array Value} {i : Nat} (h : Duo w wr B B7 B9 g m g2 m2 tr mo sp ck ck2 v v2 l l2 Es Es2 cs i) : Duo w wr.drew B B7 B9 g m g2 m2 tr mo sp ck ck2 v v2 l l2 Es Es2 cs i :=
  ⟨h.p1.below (below_drew1 (Below.refl _ _)), h.p2.below (below_drew1 (Below.refl _ _)), blk_drew h.box, blk_drew h.b7, blk_drew h.b9, below_drew1 h.bel, h.len⟩
/-- The first limit was asked: its answer is written. -/
theorem Duo.step {w wr w5 : World} {B B7 B9 g m g2 m2 : Nat} {tr mo sp ck ck2 ck5 : Int} {v v2 v5 : Value} {l l2 l5 : List DocW} {Es Es2 Es5 : List Win} {cs : Array Value} {i : Nat} (h : Duo w wr B B7 B9 g m g2 m2 tr mo sp ck ck2 v v2 l l2 Es Es2 cs i)
    (hup : w.heap.size ≤ g ∧ w.heap.size ≤ m ∧ w.heap.size ≤ B7) (h1 : B ≠ g ∧ B ≠ m ∧ B ≠ B7) (h2 : B9 ≠ g ∧ B9 ≠ m ∧ B9 ≠ B7) (h3 : B7 ≠ g ∧ B7 ≠ m) (h4 : g2 ≠ g ∧ g2 ≠ m) (h5 : m2 ≠ g ∧ m2 ≠ m)
    (hk : KeptL (Gm g m) wr w5) (hp : PairL w5 g m tr mo sp ck5 v5 l5 Es5) (hl : l5.length ≤ l.length + 1) :
    Duo w (((((w5.setCell ⟨B7, 0, none⟩ (.int .i64 tr)).setCell ⟨B7, 1, none⟩ (.int .u64 sp)).setCell ⟨B7, 2, none⟩ (.int .i64 mo)).setCell ⟨B7, 3, none⟩ (.int .u64 ck5)).setCell ⟨B7, 4, none⟩ (v5)) B B7 B9 g m g2 m2 tr mo sp ck5 ck2 v5 v2 l5 l2 Es5 Es2 cs (i + 1) := by
  have hb7 : w5.heap[B7]? = some (.cells #[.int .i64 tr, .int .u64 sp, .int .i64 mo, .int .u64 ck, v] 31 (0, 0)) := (hk.block B7 (blk_lt h.b7) (fun hh => hh.elim h3.1 h3.2)).trans h.b7
  have hb9 : w5.heap[B9]? = some (.cells #[.int .i64 tr, .int .u64 sp, .int .i64 mo, .int .u64 ck2, v2] 31 (0, 0)) := (hk.block B9 (blk_lt h.b9) (fun hh => hh.elim h2.1 h2.2.1)).trans h.b9
  have hbx : w5.heap[B]? = some (.cells cs 25 (0, 0)) := (hk.block B (blk_lt h.box) (fun hh => hh.elim h1.1 h1.2.1)).trans h.box
  refine ⟨hp.farB hb7 _ _ _ _ _, (h.p2.kept h.p1.st hk h4 h5).farB hb7 _ _ _ _ _, blk_five_far hbx h1.2.2 _ _ _ _ _, blk_five hb7 _ _ _ _ _, blk_five_far hb9 h2.2.2 _ _ _ _ _, ?_, ?_⟩
  · exact below_five (below_step2 h.bel hk (fun b hb => by rcases hb with rfl | rfl; exact hup.1; exact hup.2.1)) hup.2.2 _ _ _ _ _
  · have := h.len; omega
theorem R_empty {α β : Type} {d : Kd α} {d' : Kd β} {e base : Nat} {w : World} {ok : Nat → Prop} {v : Value} (hs : d.sz = d'.sz) (h : d.R e w base ok v []) : d'.R e w base ok v [] := by
  obtain ⟨h1, inner, ho, hr⟩ := h
  rw [hs] at ho
  exact ⟨h1, inner, ho, ⟨by rw [hr.1]; simp, fun j p hj => by simp at hj⟩⟩
theorem LSt.fresh {w : World} {g m : Nat} {tr mo sp : Int} (hn : okNew tr sp mo) (hsp : 0 ≤ sp ∧ sp ≤ 18446744073709551615) (hL : LimAt w g m tr mo sp 0) (hO : Owns w m 0 (.map [])) : LSt w g m tr mo sp 0 [] where
  lim := hL
  own := ⟨0, _, hO, MapW.empty⟩
  nodup := List.nodup_nil
  beg := fun x hx => absurd hx List.not_mem_nil
  use := fun x hx => absurd hx List.not_mem_nil
  len := by obtain ⟨a, b, c, d, e⟩ := hn; simp; omega
  ckB := by omega
  trB := by obtain ⟨a, b, c, d, e⟩ := hn; omega
  moB := by obtain ⟨a, b, c, d, e⟩ := hn; omega
  spB := by obtain ⟨a, b, c, d, e⟩ := hn; omega
set_option maxHeartbeats 4000000 in
set_option maxRecDepth 100000 in
theorem limitPlays.walk (tr sp mo : Int) (A : Option Addr) (C : Nat) (ops : List OpT) (w : World) (hr : Kd.C kOp w A ops.length ops) (hsp : 0 ≤ sp ∧ sp ≤ 18446744073709551615) (hops : ∀ i, i < ops.length → (opN ops i).2.1.size ≤ 9223372036854775807 ∧ 0 ≤ (opN ops i).2.2 ∧ (opN ops i).2.2 ≤ 18446744073709551615) (hlen : ops.length ≤ 1048576) :
    Calls Try.prog 5 #[.agg #[.int .i64 tr, .int .u64 sp, .int .i64 mo, .slice A ops.length C]] w fun e w' => e = .returned (.bool true) ∧ Below w.heap.size w w' := by
  have HC := Aside0.mk hr
  have HOPS := Aside0.mk hops
  have HSP := Aside0.mk hsp
  obtain ⟨w1, hw1⟩ : ∃ w1, w1 = w.alloc (.cells #[.int .i64 tr, .int .u64 sp, .int .i64 mo, .slice A ops.length C] 25) := ⟨_, rfl⟩
  obtain ⟨B, hB⟩ : ∃ B, B = w.heap.size := ⟨_, rfl⟩
  have hX := blk_new w (.cells #[.int .i64 tr, .int .u64 sp, .int .i64 mo, .slice A ops.length C] 25 (0, 0))
  have hb1 := below_alloc (Below.refl w.heap.size w) (.cells #[.int .i64 tr, .int .u64 sp, .int .i64 mo, .slice A ops.length C] 25)
  have d0 := (blk_cell hX 0).trans rfl
  have d1 := (blk_cell hX 1).trans rfl
  have d2 := (blk_cell hX 2).trans rfl
  have d3 := (blk_cell hX 3).trans rfl
  rw [← hw1] at hb1
  rw [← hB, ← hw1] at hX
  have HX := Aside0.mk hX
  have HB := Aside0.mk hb1
  clear hr hops hsp hX hb1
  go_enter Try.func5, Try.ntmps5
  go_wp2_with fail
  rw [← hw1]
  rw [← hB]
  have HBW : Aside0 (w.heap.size ≤ B) := ⟨by rw [hB]; exact Nat.le_refl _⟩
  clear d0 d1 d2 d3 hB hw1
  by_cases hn : okNew tr sp mo
  · refine (limit_New.good tr sp mo w1 hn).mono ?_
    rintro x w2 ⟨g, m, rfl, hL, hO, hb2, hg, hm⟩
    have HL := Aside0.mk hL
    have HO := Aside0.mk hO
    have HX2 := Aside0.mk (blk_below HX.out hb2)
    have d0 := (blk_cell HX2.out 0).trans rfl
    have d1 := (blk_cell HX2.out 1).trans rfl
    have d2 := (blk_cell HX2.out 2).trans rfl
    go_wp2_with fail
    refine (limit_New.good tr sp mo w2 hn).mono ?_
    rintro x w3 ⟨g2, m2, rfl, hL2, hO2, hb3, hg2, hm2⟩
    have HX3 := Aside0.mk (blk_below HX2.out hb3)
    clear d0 d1 d2
    have d0 := (blk_cell HX3.out 0).trans rfl
    have d1 := (blk_cell HX3.out 1).trans rfl
    have d2 := (blk_cell HX3.out 2).trans rfl
    go_wp2_with fail
    refine (wicketref08_New.calls tr sp mo tr sp mo 0 [] 0 w3 (refNew_good hn)).mono ?_
    rintro x w4 ⟨v4, rfl, ho4, hb4⟩
    obtain ⟨A4, c4, rfl⟩ := Kd.R_slice ho4
    have ho5 : Kd.R kD 73 w4 w3.heap.size (fun _ => True) (.slice A4 0 c4) [] := R_empty (d := Go.Proofs.Ytgdjoochbgeokaa.PLimitMost.k73) rfl ho4
    have HX4 := Aside0.mk (blk_below HX3.out hb4)
    have hL4 := (hL.below hb3).below hb4
    have hO4 := Owns.below (Owns.below hO hb3) hb4
    have hp1 : PairL w4 g m tr mo sp 0 (.slice A4 0 c4) [] [] := ⟨LSt.fresh hn HSP.out hL4 hO4, Kd.R_mono (Kd.R_lower ho5 (Nat.zero_le _)) (fun _ _ => trivial), RelL.empty (by obtain ⟨_, _, _, h, _⟩ := hn; omega), fun x hx => absurd hx List.not_mem_nil⟩
    have hp2 : PairL w4 g2 m2 tr mo sp 0 (.slice A4 0 c4) [] [] := ⟨LSt.fresh hn HSP.out (hL2.below hb4) (Owns.below hO2 hb4), Kd.R_mono (Kd.R_lower ho5 (Nat.zero_le _)) (fun _ _ => trivial), RelL.empty (by obtain ⟨_, _, _, h, _⟩ := hn; omega), fun x hx => absurd hx List.not_mem_nil⟩
    obtain ⟨w5, hw5⟩ : ∃ w5, w5 = w4.alloc (.cells #[.int .i64 tr, .int .u64 sp, .int .i64 mo, .int .u64 0, .slice A4 0 c4] 31) := ⟨_, rfl⟩
    have q5 := below_alloc (Below.refl w4.heap.size w4) (.cells #[.int .i64 tr, .int .u64 sp, .int .i64 mo, .int .u64 0, .slice A4 0 c4] 31)
    rw [← hw5] at q5
    have hb7 : w5.heap[w4.heap.size]? = some (.cells #[.int .i64 tr, .int .u64 sp, .int .i64 mo, .int .u64 0, .slice A4 0 c4] 31 (0, 0)) := by rw [hw5]; exact blk_new _ _
    have HP1 := Aside0.mk (hp1.below q5)
    have HP2 := Aside0.mk (hp2.below q5)
    have HX5 := Aside0.mk (blk_below HX4.out q5)
    have hsp3 : ∀ B9, w5.heap.size ≤ B9 → Sep w B w4.heap.size B9 g m g2 m2 := fun B9 h9 => by
      have e0 := HBW.out
      have e1 := blk_lt HX.out
      have e2 := blk_lt hL
      have e3 := hO.lt
      have e4 := blk_lt hL2
      have e5 := hO2.lt
      have e6 := hb4.size
      have e7 : w5.heap.size = w4.heap.size + 1 := by rw [hw5]; simp
      exact ⟨w1.heap.size, w2.heap.size, w3.heap.size, by omega, by omega, hg, hm, e2, e3, hg2, hm2, e4, e5, e6, by omega⟩
    have HSEP := Aside0.mk hsp3
    have HB5 := Aside0.mk (below_step (below_step (below_step (below_step HB.out hb2) hb3) hb4) q5)
    have HB7 := Aside0.mk hb7
    have HN := Aside0.mk hn
    clear d0 d1 d2 hL hO hL2 hO2 hb2 hb3 hb4 hg hm hg2 hm2 ho4 ho5 hL4 hO4 hp1 hp2 q5 hb7 hsp3 HL HO
    go_wp2_with fail
    rw [← hw5]
    refine (lim_live.calls w5).mono ?_
    rintro x w6 ⟨rfl, hb6⟩
    replace HP1 := Aside0.mk (HP1.out.below hb6)
    replace HP2 := Aside0.mk (HP2.out.below hb6)
    replace HX5 := Aside0.mk (blk_below HX5.out hb6)
    replace HB5 := Aside0.mk (below_step HB5.out hb6)
    replace HB7 := Aside0.mk (blk_below HB7.out hb6)
    have HSZ := Aside0.mk hb6.size
    clear hb6 hw5
    go_wp2_with fail
    refine (wicketlaw08_num.calls _ _ _ rfl).mono ?_
    rintro x w7 ⟨rfl, hd7⟩
    have hb7 := drawn_belowL hd7
    replace HP1 := Aside0.mk (HP1.out.below hb7)
    replace HP2 := Aside0.mk (HP2.out.below hb7)
    replace HX5 := Aside0.mk (blk_below HX5.out hb7)
    replace HB5 := Aside0.mk (below_step HB5.out hb7)
    replace HB7 := Aside0.mk (blk_below HB7.out hb7)
    replace HSZ := Aside0.mk (Nat.le_trans HSZ.out hb7.size)
    clear hb7 hd7
    go_wp2_with fail
    refine (wicketlaw08_num.calls _ _ _ rfl).mono ?_
    rintro x w8 ⟨rfl, hd8⟩
    have hb8 := drawn_belowL hd8
    replace HP1 := Aside0.mk (HP1.out.below hb8)
    replace HP2 := Aside0.mk (HP2.out.below hb8)
    replace HX5 := Aside0.mk (blk_below HX5.out hb8)
    replace HB5 := Aside0.mk (below_step HB5.out hb8)
    replace HB7 := Aside0.mk (blk_below HB7.out hb8)
    replace HSZ := Aside0.mk (Nat.le_trans HSZ.out hb8.size)
    clear hb8 hd8
    have d0 := (blk_cell HB7.out 0).trans rfl
    have d1 := (blk_cell HB7.out 1).trans rfl
    have d2 := (blk_cell HB7.out 2).trans rfl
    have d3 := (blk_cell HB7.out 3).trans rfl
    have d4 := (blk_cell HB7.out 4).trans rfl
    have dx3 := (blk_cell (blk_alloc HX5.out (.cells #[.int .i64 tr, .int .u64 sp, .int .i64 mo, .int .u64 0, .slice A4 0 c4] 31)) 3).trans rfl
    have HDUO : Aside0 (Duo w (w8.alloc (.cells #[.int .i64 tr, .int .u64 sp, .int .i64 mo, .int .u64 0, .slice A4 0 c4] 31)) B w4.heap.size w8.heap.size g m g2 m2 tr mo sp 0 0 (.slice A4 0 c4) (.slice A4 0 c4) [] [] [] [] #[.int .i64 tr, .int .u64 sp, .int .i64 mo, .slice A ops.length C] 0) := ⟨HP1.out.below (below_alloc (Below.refl _ _) _), HP2.out.below (below_alloc (Below.refl _ _) _), blk_alloc HX5.out _, blk_alloc HB7.out _, blk_new _ (.cells #[.int .i64 tr, .int .u64 sp, .int .i64 mo, .int .u64 0, .slice A4 0 c4] 31 (0, 0)), below_alloc HB5.out _, Nat.le_refl _, Nat.le_refl _⟩
    have HSP9 := Aside0.mk (HSEP.out w8.heap.size HSZ.out)
    obtain ⟨N, hN⟩ : ∃ N, N = ops.length := ⟨_, rfl⟩
    have HNL := Aside0.mk hN
    rw [← hN] at HOPS hlen HDUO HX5 dx3
    go_wp2_with fail
    rw [← hN]
    obtain ⟨w9, hw9⟩ : ∃ w9, w9 = w8.alloc (.cells #[.int .i64 tr, .int .u64 sp, .int .i64 mo, .int .u64 0, .slice A4 0 c4] 31) := ⟨_, rfl⟩
    obtain ⟨B7, hB7⟩ : ∃ B7, B7 = w4.heap.size := ⟨_, rfl⟩
    obtain ⟨B9, hB9⟩ : ∃ B9, B9 = w8.heap.size := ⟨_, rfl⟩
    rw [← hw9, ← hB7, ← hB9] at HDUO
    rw [← hB7, ← hB9] at HSP9
    rw [← hw9, ← hB7, ← hB9]
    clear hN hw9 hB7 hB9 d0 d1 d2 d3 d4 dx3 HP1 HP2 HX5 HB5 HB7 HSZ HSEP HX2 HX3 HX4
    go_loopw [10] (fun v10 wr => ∃ (i : Nat) (ck ck2 : Int) (v v2 : Value) (l l2 : List DocW) (Es Es2 : List Win), i ≤ N ∧ v10 = .int .i64 i ∧ Aside0 (Duo w wr B B7 B9 g m g2 m2 tr mo sp ck ck2 v v2 l l2 Es Es2 #[.int .i64 tr, .int .u64 sp, .int .i64 mo, .slice A N C] i)) (fun v10 _ => N - (intOf v10).toNat)
    case atStart => exact ⟨0, 0, 0, _, _, _, _, _, _, Nat.zero_le _, rfl, HDUO⟩
    case round =>
      clear HDUO
      obtain ⟨i, ck, ck2, v, v2, l, l2, Es, Es2, hi, rfl, HJ⟩ := hrel
      have b3 := (blk_cell HJ.out.box 3).trans rfl
      by_cases hlt : i < N
      · obtain ⟨⟨kd, s, now⟩, hop⟩ : ∃ o, o = opN ops i := ⟨_, rfl⟩
        have hoi := HOPS.out i hlt
        obtain ⟨ad, hA, o0, o1, o2⟩ := op_at (Kd.C_below HC.out HJ.out.bel) i (by rw [← HNL.out]; exact hlt)
        rw [← hop] at o0 o1 o2 hoi
        simp only at o0 o1 o2 hoi
        subst hA
        have HOI := Aside0.mk hoi
        have hi20 : i ≤ 1048576 := by omega
        obtain ⟨s1, s2, s3, hs⟩ := HSP9.out
        clear hop hoi
        have hpar : (i : Int) % 2 = 0 ∨ (i : Int) % 2 = 1 := by omega
        rcases hpar with hp | hp
        · have tp : ((i : Int) % 2 == 0) = true := by rw [hp]; rfl
          obtain ⟨An, cn, rfl, _, _⟩ := HJ.out.p1.doc.view
          have HSEPF : Aside0 (_) := ⟨And.intro (show w.heap.size ≤ g ∧ w.heap.size ≤ m ∧ w.heap.size ≤ B7 by omega) (And.intro (show B ≠ g ∧ B ≠ m ∧ B ≠ B7 by omega) (And.intro (show B9 ≠ g ∧ B9 ≠ m ∧ B9 ≠ B7 by omega) (And.intro (show B7 ≠ g ∧ B7 ≠ m by omega) (And.intro (show g2 ≠ g ∧ g2 ≠ m by omega) (show m2 ≠ g ∧ m2 ≠ m by omega)))))⟩
          clear hp hs
          have d0 := (blk_cell HJ.out.b7 0).trans rfl
          have d1 := (blk_cell HJ.out.b7 1).trans rfl
          have d2 := (blk_cell HJ.out.b7 2).trans rfl
          have d3 := (blk_cell HJ.out.b7 3).trans rfl
          have d4 := (blk_cell HJ.out.b7 4).trans rfl
          have HLL : Aside0 ((l.length : Int) < 4398046511104) := ⟨by have := HJ.out.len; omega⟩
          go_wp2_with fail
          refine start_ (n := 13) (S := fun w' => w'.cell? ⟨B7, 0, none⟩ = some (.int .i64 tr) ∧ w'.cell? ⟨B7, 1, none⟩ = some (.int .u64 sp) ∧ w'.cell? ⟨B7, 2, none⟩ = some (.int .i64 mo) ∧ w'.cell? ⟨B7, 3, none⟩ = some (.int .u64 ck) ∧ w'.cell? ⟨B7, 4, none⟩ = some (.slice An l.length cn) ∧ w'.cell? ⟨B, 3, none⟩ = some (.slice (some ad) N C) ∧ w'.cell? (ad.add (i * 3)) = some (.int .i64 kd) ∧ w'.cell? ⟨(ad.add (i * 3)).block, (ad.add (i * 3)).off + 1, none⟩ = some (.string s) ∧ w'.cell? ⟨(ad.add (i * 3)).block, (ad.add (i * 3)).off + 2, none⟩ = some (.int .u64 now)) (ds := [7, 11]) #[false, false, false, false, false, false, false, false, false, false, false, false, false] (by kernel_rfl) rfl rfl ⟨d0, d1, d2, d3, d4, b3, o0, o1, o2⟩ (fun hHeld => ?_)
          refine pure_ (i := 0) (N := some 84) (v := ?_) (a' := ?_) #[true, false, false, false, false, false, false, false, false, false, false, false, false] rfl rfl (by kernel_rfl) (fun _ _ _ h => h) (Or.inl ⟨by rfl, ?_⟩) ?_ ?_
          rotate_left
          · intro w'
            go_simp
            with_reducible rfl
          rotate_left
          · simp only [Act.put, List.setIfInBounds_toArray, List.set_cons_zero, List.set_cons_succ, i64_w, i32_w]
            rfl
          refine pure_ (i := 2) (N := some 86) (v := ?_) (a' := ?_) #[true, false, true, false, false, false, false, false, false, false, false, false, false] rfl rfl (by kernel_rfl) (fun _ _ _ h => h) (Or.inl ⟨by rfl, ?_⟩) ?_ ?_
          rotate_left
          · intro w'
            go_simp
            with_reducible rfl
          rotate_left
          · simp only [Act.put, List.setIfInBounds_toArray, List.set_cons_zero, List.set_cons_succ, i64_w, i32_w]
            rfl
          refine pure_ (i := 4) (N := some 88) (v := ?_) (a' := ?_) #[true, false, true, false, true, false, false, false, false, false, false, false, false] rfl rfl (by kernel_rfl) (fun _ _ _ h => h) (Or.inl ⟨by rfl, ?_⟩) ?_ ?_
          rotate_left
          · intro w'
            go_simp
            with_reducible rfl
          rotate_left
          · simp only [Act.put, List.setIfInBounds_toArray, List.set_cons_zero, List.set_cons_succ, i64_w, i32_w]
            rfl
          refine take_ (i := 1) (N := some 85) (v := ?_) (a' := ?_) #[true, true, true, false, true, false, false, false, false, false, false, false, false] rfl rfl (by kernel_rfl) (fun _ _ _ h => h) (Or.inl ⟨by rfl, ?_⟩) hHeld ?_ ?_
          rotate_left
          · rintro w' ⟨s0, s1, s2, s3, s4, s5, s6, s7, s8⟩
            go_simp
            with_reducible rfl
          rotate_left
          · simp only [Act.put, List.setIfInBounds_toArray, List.set_cons_zero, List.set_cons_succ, i64_w, i32_w]
            rfl
          refine take_ (i := 3) (N := some 87) (v := ?_) (a' := ?_) #[true, true, true, true, true, false, false, false, false, false, false, false, false] rfl rfl (by kernel_rfl) (fun _ _ _ h => h) (Or.inl ⟨by rfl, ?_⟩) hHeld ?_ ?_
          rotate_left
          · rintro w' ⟨s0, s1, s2, s3, s4, s5, s6, s7, s8⟩
            go_simp
            with_reducible rfl
          rotate_left
          · simp only [Act.put, List.setIfInBounds_toArray, List.set_cons_zero, List.set_cons_succ, i64_w, i32_w]
            rfl
          refine pure_ (i := 5) (N := some 89) (v := ?_) (a' := ?_) #[true, true, true, true, true, true, false, false, false, false, false, false, false] rfl rfl (by kernel_rfl) (fun _ _ _ h => h) (Or.inl ⟨by rfl, ?_⟩) ?_ ?_
          rotate_left
          · intro w'
            go_simp
            with_reducible rfl
          rotate_left
          · simp only [Act.put, List.setIfInBounds_toArray, List.set_cons_zero, List.set_cons_succ, i64_w, i32_w]
            rfl
          refine take_ (i := 6) (N := some 90) (v := ?_) (a' := ?_) #[true, true, true, true, true, true, true, false, false, false, false, false, false] rfl rfl (by kernel_rfl) (fun _ _ _ h => h) (Or.inl ⟨by rfl, ?_⟩) hHeld ?_ ?_
          rotate_left
          · rintro w' ⟨s0, s1, s2, s3, s4, s5, s6, s7, s8⟩
            go_simp
            with_reducible rfl
          rotate_left
          · simp only [Act.put, List.setIfInBounds_toArray, List.set_cons_zero, List.set_cons_succ, i64_w, i32_w]
            rfl
          refine last_ (i := 7) (N := some 91) #[true, true, true, true, true, true, true, true, false, false, false, false, false] rfl rfl (by kernel_rfl) (by decide) (fun K hK => ?_)
          refine goes_ Try.func14 (by kernel_rfl) rfl #[.pointer (some ⟨g, 0, none⟩), .agg #[.int .i64 tr, .int .u64 sp, .int .i64 mo, .int .u64 ck, .slice An l.length cn], .agg #[.int .i64 kd, .string s, .int .u64 now]] (by rfl) rfl rfl (by simp only [List.map_toArray, List.map_cons, List.map_nil]; rfl) ?_
          with_reducible refine (played.all HJ.out.drew.p1 HLL.out s HOI.out.1 now HOI.out.2 kd).mono ?_
          rintro e w5 ⟨ck5, v5, l5, Es5, rfl, hP5, hK5, hl5⟩
          obtain ⟨A5, c5, rfl, _, _⟩ := hP5.doc.view
          have HP5 := Aside0.mk hP5
          have HK5 := Aside0.mk hK5
          have HLN5 := Aside0.mk hl5
          have hb7 : w5.heap[B7]? = _ := (hK5.block B7 (blk_lt HJ.out.drew.b7) (fun hh => hh.elim HSEPF.out.2.2.2.1.1 HSEPF.out.2.2.2.1.2)).trans HJ.out.drew.b7
          have r0 := (blk_cell hb7 0).trans rfl
          have r1 := (blk_cell hb7 1).trans rfl
          have r2 := (blk_cell hb7 2).trans rfl
          have r3 := (blk_cell hb7 3).trans rfl
          have r4 := (blk_cell hb7 4).trans rfl
          have rz0 := blk_frozen hb7 0
          have rz1 := blk_frozen hb7 1
          have rz2 := blk_frozen hb7 2
          have rz3 := blk_frozen hb7 3
          have rz4 := blk_frozen hb7 4
          clear hP5 hK5 hl5 hb7
          refine ⟨_, rfl, ?_⟩
          refine hK.out _ _ ?_
          clear hK K
          refine norm_ (a' := ?_) ?_ ?_
          rotate_left
          · show Act.put _ (some 91) _ = _
            simp only [Act.put, List.setIfInBounds_toArray, List.set_cons_zero, List.set_cons_succ, i64_w, i32_w]
            rfl
          refine pure_ (i := 8) (N := some 83) (v := ?_) (a' := ?_) #[true, true, true, true, true, true, true, true, true, false, false, false, false] rfl rfl (by kernel_rfl) (fun _ _ _ h => h) (Or.inl ⟨by rfl, ?_⟩) ?_ ?_
          rotate_left
          · intro w'
            go_simp
            with_reducible rfl
          rotate_left
          · simp only [Act.put, List.setIfInBounds_toArray, List.set_cons_zero, List.set_cons_succ, i64_w, i32_w]
            rfl
          refine pure_ (i := 9) (N := some 92) (v := ?_) (a' := ?_) #[true, true, true, true, true, true, true, true, true, true, false, false, false] rfl rfl (by kernel_rfl) (fun _ _ _ h => h) (Or.inl ⟨by rfl, ?_⟩) ?_ ?_
          rotate_left
          · intro w'
            go_simp
            with_reducible rfl
          rotate_left
          · simp only [Act.put, List.setIfInBounds_toArray, List.set_cons_zero, List.set_cons_succ, i64_w, i32_w]
            rfl
          refine pure_ (i := 10) (N := some 93) (v := ?_) (a' := ?_) #[true, true, true, true, true, true, true, true, true, true, true, false, false] rfl rfl (by kernel_rfl) (fun _ _ _ h => h) (Or.inl ⟨by rfl, ?_⟩) ?_ ?_
          rotate_left
          · intro w'
            go_simp
            with_reducible rfl
          rotate_left
          · simp only [Act.put, List.setIfInBounds_toArray, List.set_cons_zero, List.set_cons_succ, i64_w, i32_w]
            rfl
          refine last_ (i := 11) (N := none) #[true, true, true, true, true, true, true, true, true, true, true, true, false] rfl rfl (by kernel_rfl) (by decide) (fun K hK => ?_)
          refine skip_ (w1 := (((((w5.setCell ⟨B7, 0, none⟩ (.int .i64 tr)).setCell ⟨B7, 1, none⟩ (.int .u64 sp)).setCell ⟨B7, 2, none⟩ (.int .i64 mo)).setCell ⟨B7, 3, none⟩ (.int .u64 ck5)).setCell ⟨B7, 4, none⟩ (.slice A5 l5.length c5))) (by rfl) rfl ?_ ?_
          · go_simp
            try rfl
          refine hK.out _ _ ?_
          clear hK K
          refine pure_ (i := 12) (N := some 11) (v := ?_) (a' := ?_) #[true, true, true, true, true, true, true, true, true, true, true, true, true] rfl rfl (by kernel_rfl) (fun _ _ _ h => h) (Or.inl ⟨by rfl, ?_⟩) ?_ ?_
          rotate_left
          · intro w'
            go_simp
            with_reducible rfl
          rotate_left
          · simp only [Act.put, List.setIfInBounds_toArray, List.set_cons_zero, List.set_cons_succ, i64_w, i32_w]
            rfl
          refine done_ (by kernel_rfl) ?_
          have HJ6 : Aside0 (Duo w (((((w5.setCell ⟨B7, 0, none⟩ (.int .i64 tr)).setCell ⟨B7, 1, none⟩ (.int .u64 sp)).setCell ⟨B7, 2, none⟩ (.int .i64 mo)).setCell ⟨B7, 3, none⟩ (.int .u64 ck5)).setCell ⟨B7, 4, none⟩ (.slice A5 l5.length c5)) B B7 B9 g m g2 m2 tr mo sp ck5 ck2 (.slice A5 l5.length c5) v2 l5 l2 Es5 Es2 #[.int .i64 tr, .int .u64 sp, .int .i64 mo, .slice (some ad) N C] (i + 1)) := ⟨HJ.out.drew.step HSEPF.out.1 HSEPF.out.2.1 HSEPF.out.2.2.1 HSEPF.out.2.2.2.1 HSEPF.out.2.2.2.2.1 HSEPF.out.2.2.2.2.2 HK5.out HP5.out HLN5.out⟩
          clear d0 d1 d2 d3 d4 o0 o1 o2 b3 tp
          go_wp2_with fail
          go_roundw
          case rel => exact ⟨i + 1, _, _, _, _, _, _, _, _, by omega, by go_num, HJ6⟩
          case measure => simp [intOf]; omega
        · have tp : ((i : Int) % 2 == 0) = false := by rw [hp]; rfl
          obtain ⟨An, cn, rfl, _, _⟩ := HJ.out.p2.doc.view
          have HSEPF : Aside0 (_) := ⟨And.intro (show w.heap.size ≤ g2 ∧ w.heap.size ≤ m2 ∧ w.heap.size ≤ B9 by omega) (And.intro (show B ≠ g2 ∧ B ≠ m2 ∧ B ≠ B9 by omega) (And.intro (show B7 ≠ g2 ∧ B7 ≠ m2 ∧ B7 ≠ B9 by omega) (And.intro (show B9 ≠ g2 ∧ B9 ≠ m2 by omega) (And.intro (show g ≠ g2 ∧ g ≠ m2 by omega) (show m ≠ g2 ∧ m ≠ m2 by omega)))))⟩
          clear hp hs
          have d0 := (blk_cell HJ.out.b9 0).trans rfl
          have d1 := (blk_cell HJ.out.b9 1).trans rfl
          have d2 := (blk_cell HJ.out.b9 2).trans rfl
          have d3 := (blk_cell HJ.out.b9 3).trans rfl
          have d4 := (blk_cell HJ.out.b9 4).trans rfl
          have HLL : Aside0 ((l2.length : Int) < 4398046511104) := ⟨by have := HJ.out.len; omega⟩
          go_wp2_with fail
          refine start_ (n := 13) (S := fun w' => w'.cell? ⟨B9, 0, none⟩ = some (.int .i64 tr) ∧ w'.cell? ⟨B9, 1, none⟩ = some (.int .u64 sp) ∧ w'.cell? ⟨B9, 2, none⟩ = some (.int .i64 mo) ∧ w'.cell? ⟨B9, 3, none⟩ = some (.int .u64 ck2) ∧ w'.cell? ⟨B9, 4, none⟩ = some (.slice An l2.length cn) ∧ w'.cell? ⟨B, 3, none⟩ = some (.slice (some ad) N C) ∧ w'.cell? (ad.add (i * 3)) = some (.int .i64 kd) ∧ w'.cell? ⟨(ad.add (i * 3)).block, (ad.add (i * 3)).off + 1, none⟩ = some (.string s) ∧ w'.cell? ⟨(ad.add (i * 3)).block, (ad.add (i * 3)).off + 2, none⟩ = some (.int .u64 now)) (ds := [7, 11]) #[false, false, false, false, false, false, false, false, false, false, false, false, false] (by kernel_rfl) rfl rfl ⟨d0, d1, d2, d3, d4, b3, o0, o1, o2⟩ (fun hHeld => ?_)
          refine pure_ (i := 0) (N := some 95) (v := ?_) (a' := ?_) #[true, false, false, false, false, false, false, false, false, false, false, false, false] rfl rfl (by kernel_rfl) (fun _ _ _ h => h) (Or.inl ⟨by rfl, ?_⟩) ?_ ?_
          rotate_left
          · intro w'
            go_simp
            with_reducible rfl
          rotate_left
          · simp only [Act.put, List.setIfInBounds_toArray, List.set_cons_zero, List.set_cons_succ, i64_w, i32_w]
            rfl
          refine pure_ (i := 2) (N := some 97) (v := ?_) (a' := ?_) #[true, false, true, false, false, false, false, false, false, false, false, false, false] rfl rfl (by kernel_rfl) (fun _ _ _ h => h) (Or.inl ⟨by rfl, ?_⟩) ?_ ?_
          rotate_left
          · intro w'
            go_simp
            with_reducible rfl
          rotate_left
          · simp only [Act.put, List.setIfInBounds_toArray, List.set_cons_zero, List.set_cons_succ, i64_w, i32_w]
            rfl
          refine pure_ (i := 4) (N := some 99) (v := ?_) (a' := ?_) #[true, false, true, false, true, false, false, false, false, false, false, false, false] rfl rfl (by kernel_rfl) (fun _ _ _ h => h) (Or.inl ⟨by rfl, ?_⟩) ?_ ?_
          rotate_left
          · intro w'
            go_simp
            with_reducible rfl
          rotate_left
          · simp only [Act.put, List.setIfInBounds_toArray, List.set_cons_zero, List.set_cons_succ, i64_w, i32_w]
            rfl
          refine take_ (i := 1) (N := some 96) (v := ?_) (a' := ?_) #[true, true, true, false, true, false, false, false, false, false, false, false, false] rfl rfl (by kernel_rfl) (fun _ _ _ h => h) (Or.inl ⟨by rfl, ?_⟩) hHeld ?_ ?_
          rotate_left
          · rintro w' ⟨s0, s1, s2, s3, s4, s5, s6, s7, s8⟩
            go_simp
            with_reducible rfl
          rotate_left
          · simp only [Act.put, List.setIfInBounds_toArray, List.set_cons_zero, List.set_cons_succ, i64_w, i32_w]
            rfl
          refine take_ (i := 3) (N := some 98) (v := ?_) (a' := ?_) #[true, true, true, true, true, false, false, false, false, false, false, false, false] rfl rfl (by kernel_rfl) (fun _ _ _ h => h) (Or.inl ⟨by rfl, ?_⟩) hHeld ?_ ?_
          rotate_left
          · rintro w' ⟨s0, s1, s2, s3, s4, s5, s6, s7, s8⟩
            go_simp
            with_reducible rfl
          rotate_left
          · simp only [Act.put, List.setIfInBounds_toArray, List.set_cons_zero, List.set_cons_succ, i64_w, i32_w]
            rfl
          refine pure_ (i := 5) (N := some 100) (v := ?_) (a' := ?_) #[true, true, true, true, true, true, false, false, false, false, false, false, false] rfl rfl (by kernel_rfl) (fun _ _ _ h => h) (Or.inl ⟨by rfl, ?_⟩) ?_ ?_
          rotate_left
          · intro w'
            go_simp
            with_reducible rfl
          rotate_left
          · simp only [Act.put, List.setIfInBounds_toArray, List.set_cons_zero, List.set_cons_succ, i64_w, i32_w]
            rfl
          refine take_ (i := 6) (N := some 101) (v := ?_) (a' := ?_) #[true, true, true, true, true, true, true, false, false, false, false, false, false] rfl rfl (by kernel_rfl) (fun _ _ _ h => h) (Or.inl ⟨by rfl, ?_⟩) hHeld ?_ ?_
          rotate_left
          · rintro w' ⟨s0, s1, s2, s3, s4, s5, s6, s7, s8⟩
            go_simp
            with_reducible rfl
          rotate_left
          · simp only [Act.put, List.setIfInBounds_toArray, List.set_cons_zero, List.set_cons_succ, i64_w, i32_w]
            rfl
          refine last_ (i := 7) (N := some 102) #[true, true, true, true, true, true, true, true, false, false, false, false, false] rfl rfl (by kernel_rfl) (by decide) (fun K hK => ?_)
          refine goes_ Try.func14 (by kernel_rfl) rfl #[.pointer (some ⟨g2, 0, none⟩), .agg #[.int .i64 tr, .int .u64 sp, .int .i64 mo, .int .u64 ck2, .slice An l2.length cn], .agg #[.int .i64 kd, .string s, .int .u64 now]] (by rfl) rfl rfl (by simp only [List.map_toArray, List.map_cons, List.map_nil]; rfl) ?_
          with_reducible refine (played.all HJ.out.drew.p2 HLL.out s HOI.out.1 now HOI.out.2 kd).mono ?_
          rintro e w5 ⟨ck5, v5, l5, Es5, rfl, hP5, hK5, hl5⟩
          obtain ⟨A5, c5, rfl, _, _⟩ := hP5.doc.view
          have HP5 := Aside0.mk hP5
          have HK5 := Aside0.mk hK5
          have HLN5 := Aside0.mk hl5
          have hb7 : w5.heap[B9]? = _ := (hK5.block B9 (blk_lt HJ.out.drew.b9) (fun hh => hh.elim HSEPF.out.2.2.2.1.1 HSEPF.out.2.2.2.1.2)).trans HJ.out.drew.b9
          have r0 := (blk_cell hb7 0).trans rfl
          have r1 := (blk_cell hb7 1).trans rfl
          have r2 := (blk_cell hb7 2).trans rfl
          have r3 := (blk_cell hb7 3).trans rfl
          have r4 := (blk_cell hb7 4).trans rfl
          have rz0 := blk_frozen hb7 0
          have rz1 := blk_frozen hb7 1
          have rz2 := blk_frozen hb7 2
          have rz3 := blk_frozen hb7 3
          have rz4 := blk_frozen hb7 4
          clear hP5 hK5 hl5 hb7
          refine ⟨_, rfl, ?_⟩
          refine hK.out _ _ ?_
          clear hK K
          refine norm_ (a' := ?_) ?_ ?_
          rotate_left
          · show Act.put _ (some 102) _ = _
            simp only [Act.put, List.setIfInBounds_toArray, List.set_cons_zero, List.set_cons_succ, i64_w, i32_w]
            rfl
          refine pure_ (i := 8) (N := some 94) (v := ?_) (a' := ?_) #[true, true, true, true, true, true, true, true, true, false, false, false, false] rfl rfl (by kernel_rfl) (fun _ _ _ h => h) (Or.inl ⟨by rfl, ?_⟩) ?_ ?_
          rotate_left
          · intro w'
            go_simp
            with_reducible rfl
          rotate_left
          · simp only [Act.put, List.setIfInBounds_toArray, List.set_cons_zero, List.set_cons_succ, i64_w, i32_w]
            rfl
          refine pure_ (i := 9) (N := some 103) (v := ?_) (a' := ?_) #[true, true, true, true, true, true, true, true, true, true, false, false, false] rfl rfl (by kernel_rfl) (fun _ _ _ h => h) (Or.inl ⟨by rfl, ?_⟩) ?_ ?_
          rotate_left
          · intro w'
            go_simp
            with_reducible rfl
          rotate_left
          · simp only [Act.put, List.setIfInBounds_toArray, List.set_cons_zero, List.set_cons_succ, i64_w, i32_w]
            rfl
          refine pure_ (i := 10) (N := some 104) (v := ?_) (a' := ?_) #[true, true, true, true, true, true, true, true, true, true, true, false, false] rfl rfl (by kernel_rfl) (fun _ _ _ h => h) (Or.inl ⟨by rfl, ?_⟩) ?_ ?_
          rotate_left
          · intro w'
            go_simp
            with_reducible rfl
          rotate_left
          · simp only [Act.put, List.setIfInBounds_toArray, List.set_cons_zero, List.set_cons_succ, i64_w, i32_w]
            rfl
          refine last_ (i := 11) (N := none) #[true, true, true, true, true, true, true, true, true, true, true, true, false] rfl rfl (by kernel_rfl) (by decide) (fun K hK => ?_)
          refine skip_ (w1 := (((((w5.setCell ⟨B9, 0, none⟩ (.int .i64 tr)).setCell ⟨B9, 1, none⟩ (.int .u64 sp)).setCell ⟨B9, 2, none⟩ (.int .i64 mo)).setCell ⟨B9, 3, none⟩ (.int .u64 ck5)).setCell ⟨B9, 4, none⟩ (.slice A5 l5.length c5))) (by rfl) rfl ?_ ?_
          · go_simp
            try rfl
          refine hK.out _ _ ?_
          clear hK K
          refine pure_ (i := 12) (N := some 11) (v := ?_) (a' := ?_) #[true, true, true, true, true, true, true, true, true, true, true, true, true] rfl rfl (by kernel_rfl) (fun _ _ _ h => h) (Or.inl ⟨by rfl, ?_⟩) ?_ ?_
          rotate_left
          · intro w'
            go_simp
            with_reducible rfl
          rotate_left
          · simp only [Act.put, List.setIfInBounds_toArray, List.set_cons_zero, List.set_cons_succ, i64_w, i32_w]
            rfl
          refine done_ (by kernel_rfl) ?_
          have HJ6 : Aside0 (Duo w (((((w5.setCell ⟨B9, 0, none⟩ (.int .i64 tr)).setCell ⟨B9, 1, none⟩ (.int .u64 sp)).setCell ⟨B9, 2, none⟩ (.int .i64 mo)).setCell ⟨B9, 3, none⟩ (.int .u64 ck5)).setCell ⟨B9, 4, none⟩ (.slice A5 l5.length c5)) B B7 B9 g m g2 m2 tr mo sp ck ck5 v (.slice A5 l5.length c5) l l5 Es Es5 #[.int .i64 tr, .int .u64 sp, .int .i64 mo, .slice (some ad) N C] (i + 1)) := ⟨(HJ.out.drew.swap.step HSEPF.out.1 HSEPF.out.2.1 HSEPF.out.2.2.1 HSEPF.out.2.2.2.1 HSEPF.out.2.2.2.2.1 HSEPF.out.2.2.2.2.2 HK5.out HP5.out HLN5.out).swap⟩
          clear d0 d1 d2 d3 d4 o0 o1 o2 b3 tp
          go_wp2_with fail
          go_roundw
          case rel => exact ⟨i + 1, _, _, _, _, _, _, _, _, by omega, by go_num, HJ6⟩
          case measure => simp [intOf]; omega
      · obtain rfl : N = i := by omega
        go_wp2_with fail
        go_ret
        exact ⟨rfl, HJ.out.bel⟩
  · refine (limit_New.bad tr sp mo w1 hn).mono ?_
    rintro x w2 ⟨rfl, hb2⟩
    have HX2 := Aside0.mk (blk_below HX.out hb2)
    have d0 := (blk_cell HX2.out 0).trans rfl
    have d1 := (blk_cell HX2.out 1).trans rfl
    have d2 := (blk_cell HX2.out 2).trans rfl
    go_wp2_with fail
    refine (limit_New.bad tr sp mo w2 hn).mono ?_
    rintro x w3 ⟨rfl, hb3⟩
    have HX3 := Aside0.mk (blk_below HX2.out hb3)
    clear d0 d1 d2
    have d0 := (blk_cell HX3.out 0).trans rfl
    have d1 := (blk_cell HX3.out 1).trans rfl
    have d2 := (blk_cell HX3.out 2).trans rfl
    go_wp2_with fail
    refine (wicketref08_New.calls tr sp mo 0 0 0 0 [] 2 w3 (refNew_bad hn)).mono ?_
    rintro x w4 ⟨v4, rfl, ho4, hb4⟩
    obtain ⟨A4, c4, rfl⟩ := Kd.R_slice ho4
    replace HB := Aside0.mk (below_step (below_step (below_step HB.out hb2) hb3) hb4)
    clear d0 d1 d2 ho4 hb2 hb3 hb4
    replace HB := Aside0.mk (below_alloc HB.out (.cells #[.int .i64 0, .int .u64 0, .int .i64 0, .int .u64 0, .slice A4 0 c4] 31))
    go_wp2_with fail
    refine (lim_live.calls _).mono ?_
    rintro x w5 ⟨rfl, hb5⟩
    replace HB := Aside0.mk (below_step HB.out hb5)
    clear hb5
    go_wp2_with (go_at_call 11; (with_reducible refine (wicketlaw08_num.calls _ _ _ rfl).mono ?_); rintro e w7 ⟨rfl, hd⟩; replace HB := Aside0.mk (below_step HB.out (drawn_belowL hd)); clear hd)
    go_ret
    exact ⟨rfl, HB.out⟩
end Go.Proofs.Ytgdjoochbgeokaa.Hand
