/- law01's FrameEaches: the walk. -/
import Derived.Test.YtdlfhpkkkhfhdaaDoorHEachW
import Derived.Test.YtdlfhpkkkhfhdaaDoorHLive
import Derived.Test.YtdlfhpkkkhfhdaaDoorHAlone
import Derived.Test.YtdlfhpkkkhfhdaaDoorWhlBR
import Derived.Laws.EntriesVeiled
import Derived.Shelf.Abstract
namespace Go.Proofs.YtdlfhpkkkhfhdaaDoor.Hand
open Go.RowKit Go.Shelf Go.Proofs.YtdlfhpkkkhfhdaaDoorW.PrintWords Go.Proofs.YtdlfhpkkkhfhdaaDoorW.PrintLast Go.Proofs.YtdlfhpkkkhfhdaaDoorW.PrintMore Go.Proofs.YtdlfhpkkkhfhdaaDoor.Q
set_option linter.unusedVariables false
set_option linter.unusedSimpArgs false
attribute [local go_sem] Oper.semAt_some
/-- Whatever lay in w lies as it lay, but the blocks of S. -/
structure KeptE (S : Nat → Prop) (w w' : World) : Prop where
  os : w'.os = w.os
  tape : w'.tape = w.tape
  output : w'.output = w.output
  size : w.heap.size ≤ w'.heap.size
  same : ∀ k, k < w.heap.size → ¬ S k → w'.heap[k]? = w.heap[k]?
theorem KeptE.refl (S : Nat → Prop) (w : World) : KeptE S w w := ⟨rfl, rfl, rfl, Nat.le_refl _, fun _ _ _ => rfl⟩
theorem KeptE.trans {S T : Nat → Prop} {a b c : World} (h : KeptE S a b) (k : KeptE T b c) (hT : ∀ i, T i → S i ∨ a.heap.size ≤ i) : KeptE S a c :=
  ⟨k.os.trans h.os, k.tape.trans h.tape, k.output.trans h.output, Nat.le_trans h.size k.size, fun i hi hn => (k.same i (Nat.lt_of_lt_of_le hi h.size) (fun ht => by rcases hT i ht with h1 | h1; exact hn h1; omega)).trans (h.same i hi hn)⟩
theorem KeptE.of_below {S : Nat → Prop} {w w' : World} (h : Below w.heap.size w w') : KeptE S w w' := ⟨h.os, h.tape, h.output, h.size, fun k hk _ => h.block k hk⟩
theorem KeptE.of_grown {w w' : World} {row : Option Nat} (h : w.grownBy w' row) : KeptE (fun k => row = some k) w w' := ⟨h.os, h.tape, h.output, h.size, fun k hk hn => h.block k hk (fun e => hn e.symm)⟩
theorem KeptE.set (w : World) (b o : Nat) (v : Value) : KeptE (fun k => k = b) w (w.setCell ⟨b, o, none⟩ v) :=
  ⟨rfl, rfl, rfl, by simp [World.setCell], fun k _ hk => Below.heap_setCell w ⟨b, o, none⟩ v k hk⟩
theorem KeptE.mono {S T : Nat → Prop} {w w' : World} (h : KeptE S w w') (hs : ∀ k, S k → T k) : KeptE T w w' := ⟨h.os, h.tape, h.output, h.size, fun k hk hn => h.same k hk (fun hs' => hn (hs k hs'))⟩
theorem KeptE.below {S : Nat → Prop} {w w' : World} {B : Nat} (h : KeptE S w w') (hB : B ≤ w.heap.size) (hS : ∀ k, S k → B ≤ k) : Below B w w' :=
  ⟨h.os, h.tape, h.output, h.size, fun k hk => h.same k (Nat.lt_of_lt_of_le hk hB) (fun hs => by have := hS k hs; omega)⟩
theorem KeptE.ownFrom {β : Type} {S : Nat → Prop} {w : World} : OwnFrom w.heap.size (fun (_ : β) W => KeptE S w W) := fun _ W W' row hs hg hr =>
  hs.trans (KeptE.of_grown hg) (fun k e => .inr (hr k e).1)
theorem KeptE.box {S : Nat → Prop} {w w' : World} {B : Nat} {t : TypeId} {v : Value} (h : KeptE S w w') (hb : Boxed w B t v) (hn : ¬ S B) : Boxed w' B t v := (h.same B hb.lt hn).trans hb
/-- Either way out of the block. -/
theorem inBlock_both {id : Nat} {Q : Exit → Act → World → Prop} {e : Exit} {a : Act} {w : World} (he : e = .normal ∨ e = .exit id) (h : Q .normal a w) : Exit.inBlock id Q e a w := by
  rcases he with rfl | rfl
  · exact h
  · show (if id = id then Q .normal a w else _)
    rw [if_pos rfl]
    exact h
theorem row_set {W : World} {base g n cap : Nat} {xs : List Int} (h : Kd.R (Kd.int .u8) 5 W base (fun _ => True) (.slice (some ⟨g, 0, none⟩) n cap) xs) (i : Nat) (y : Int) : Kd.R (Kd.int .u8) 5 (W.setCell ⟨g, i, none⟩ (.int .u8 y)) base (fun _ => True) (.slice (some ⟨g, 0, none⟩) n cap) (xs.set i y) := by
  have ho := Kd.own_of_R h
  rw [← (Kd.R_reads' h).1] at ho
  refine Kd.R_of_own (enc := Value.int .u8) ?_ (fun _ _ => trivial)
  rw [List.length_set, ← (Kd.R_reads' h).1]
  have h := (own_store ho (i : Int) y).1
  rw [Int.toNat_natCast] at h
  exact h
theorem R_own {α : Type} {d : Kd α} {e base : Nat} {ok : Nat → Prop} {W W' : World} {v : Value} {xs : List α} {row : Option Nat} (h : Kd.R d e W base ok v xs) (hg : W.grownBy W' row) (hr : ∀ r, row = some r → ∃ o : Obj, W.heap[r]? = some o ∧ o.isCells = false) : Kd.R d e W' base ok v xs :=
  Kd.R_mono (Kd.R_step (Kd.R_bound h) (fun k ho hk => hg.block k hk (fun e => by
    obtain ⟨o, h1, h2⟩ := hr k e.symm
    obtain ⟨_, _, _, q, _, cells, hc⟩ := ho
    rw [hc] at h1
    injection h1 with h1
    rw [← h1] at h2
    cases h2))) (fun _ hk => hk.1)
/-- What FrameEaches has laid before its loops. -/
structure EP where
  top : Nat
  b3 : Nat
  b4 : Nat
  b5 : Nat
  b9 : Nat
  Bs : Nat
  n0 : Nat
  n1 : Nat
  r0 : Nat
  r1 : Nat
  stop : Int
  A1 : Option Addr
  Ak : Option Addr
  N1 : Nat
  c1 : Nat
  N : Nat
  ck : Nat
  l : List Int
  Ls : List S44
def EP.mem (p : EP) (k : Nat) : Prop := k = 0 ∨ k = p.b3 ∨ k = p.b4 ∨ k = p.b5 ∨ k = p.b9 ∨ (p.n0 ≤ k ∧ k < p.n1) ∨ (p.r0 ≤ k ∧ k < p.r1)
structure EW (p : EP) (W : World) : Prop where
  lt : ∀ k, p.mem k → k < p.top
  bs : p.n0 ≤ p.Bs ∧ p.Bs < p.n1
  size : p.top ≤ W.heap.size
  tb : Tb W
  s3 : Boxed W p.b3 3 (.int .i64 p.stop)
  s4 : Boxed W p.b4 4 (.bool false)
  s5 : Boxed W p.b5 55 (.slice p.A1 p.N1 p.c1)
  s9 : Boxed W p.b9 61 (.func (.func 44) #[] #[.pointer (some ⟨p.Bs, 0, none⟩)])
  rows : Kd.R k44 44 W 0 (fun k => p.r0 ≤ k ∧ k < p.r1) (.slice p.A1 p.N1 p.c1) p.Ls
  kb : KB W p.n0 p.n1 (.slice p.Ak p.N p.ck) p.l
  cs : W.cell? ⟨p.Bs, 0, none⟩ = some (.slice p.Ak p.N p.ck)
theorem EW.move {p : EP} {W W' : World} (h : EW p W) (hs : p.top ≤ W'.heap.size) (hk : ∀ k, p.mem k → W'.heap[k]? = W.heap[k]?) : EW p W' where
  lt := h.lt
  bs := h.bs
  size := hs
  tb := ⟨fun i h0 h1 => by rw [World.cell?_of_block (hk 0 (.inl rfl))]; exact h.tb.out i h0 h1⟩
  s3 := (hk _ (.inr (.inl rfl))).trans h.s3
  s4 := (hk _ (.inr (.inr (.inl rfl)))).trans h.s4
  s5 := (hk _ (.inr (.inr (.inr (.inl rfl))))).trans h.s5
  s9 := (hk _ (.inr (.inr (.inr (.inr (.inl rfl)))))).trans h.s9
  rows := Kd.R_step h.rows (fun k ho _ => hk k (.inr (.inr (.inr (.inr (.inr (.inr ho)))))))
  kb := Kd.R_step h.kb (fun k ho _ => hk k (.inr (.inr (.inr (.inr (.inr (.inl ho)))))))
  cs := by rw [World.cell?_of_block (hk p.Bs (.inr (.inr (.inr (.inr (.inr (.inl h.bs)))))))]; exact h.cs
theorem EW.kept {p : EP} {W W' : World} {S : Nat → Prop} (h : EW p W) (hk : KeptE S W W') (hS : ∀ k, S k → ¬ p.mem k) : EW p W' :=
  h.move (Nat.le_trans h.size hk.size) (fun k hm => hk.same k (Nat.lt_of_lt_of_le (h.lt k hm) h.size) (fun hs => hS k hs hm))
theorem EW.above {p : EP} {W W' : World} {S : Nat → Prop} (h : EW p W) (hk : KeptE S W W') (hS : ∀ k, S k → p.top ≤ k) : EW p W' := h.kept hk (fun k hs hm => by have := hS k hs; have := h.lt k hm; omega)
theorem EW.kpE {p : EP} {W W' : World} {S : Nat → Prop} (h : EW p W) (hk : KeptE S W W') (hS : ∀ k, S k → p.top ≤ k) : KpE p.n0 p.n1 W W' :=
  ⟨hk.size, fun k hm => by
    have hm : p.mem k := hm.elim (fun h => .inl h) (fun h => .inr (.inr (.inr (.inr (.inr (.inl h))))))
    exact hk.same k (Nat.lt_of_lt_of_le (h.lt k hm) h.size) (fun hs => by have := hS k hs; have := h.lt k hm; omega)⟩
/-- What the box of a round holds, and the load that was handed over. -/
def BxE (Ls : List S44) (B : Nat) (pre : List EV) (x : EV) (b : Nat) (W : World) : Prop := B ≤ b ∧ W.heap[b]? = some (.cells #[.int .u8 (frN Ls x.1).f0, .slice x.2.1 x.2.2.1 x.2.2.2] 40 (0, 0)) ∧ YE Ls B pre x W
theorem bxE_own (Ls : List S44) (B B' : Nat) (pre : List EV) (x : EV) (b : Nat) : OwnFrom B' (fun (_ : Unit) W => BxE Ls B pre x b W) := fun s W W' row ⟨h1, h2, h3, h4, h5⟩ hg hr =>
  ⟨h1, (hg.block b (blk_lt h2) (fun e => by
    obtain ⟨_, o, ho, hc⟩ := hr b e.symm
    rw [h2] at ho
    injection ho with ho
    rw [← ho] at hc
    cases hc)).trans h2, h3, h4, R_own h5 hg (fun r e => (hr r e).2)⟩
theorem keepsOthers_below {W W' : World} (h : Below W.heap.size W W') : KeepsOthers W W' := ⟨h.size, fun k o hk _ => (h.block k (Array.getElem?_eq_some_iff.1 hk).1).trans hk⟩
/-- A load that is written over: whatever lies elsewhere lies as it lay. -/
structure OverE (B : Nat) (w7 wq : World) (Ax : Option Addr) (L cx : Nat) : Prop where
  row : ∃ bs : List Int, Kd.R (Kd.int .u8) 5 wq B (fun _ => True) (.slice Ax L cx) bs
  kept : KeptE (fun k => (Value.slice Ax L cx).ownBlock = some k) w7 wq
  others : KeepsOthers w7 wq
theorem OverE.start {B : Nat} {w7 : World} {Ax : Option Addr} {L cx : Nat} {ld : List Int} (h : Kd.R (Kd.int .u8) 5 w7 B (fun _ => True) (.slice Ax L cx) ld) : OverE B w7 w7 Ax L cx := ⟨⟨ld, h⟩, KeptE.refl _ _, KeepsOthers.refl _⟩
theorem OverE.elem {B : Nat} {w7 wq : World} {Ax : Option Addr} {L cx i : Nat} (h : OverE B w7 wq Ax L cx) (hi : i < L) : ∃ g7, Ax = some ⟨g7, 0, none⟩ ∧ (∃ y, wq.cell? ⟨g7, i, none⟩ = some (.int .u8 y)) ∧ wq.frozen? ⟨g7, i, none⟩ = false ∧ OverE B w7 (wq.setCell ⟨g7, i, none⟩ (.int .u8 221)) Ax L cx := by
  obtain ⟨bs, hR⟩ := h.row
  have hl := (Kd.R_reads' hR).1
  obtain ⟨g7, cap, hv, _, _, _⟩ := Kd.R_form hR (by omega)
  injection hv with hA _ hcc
  subst hA
  obtain ⟨k1, k2⟩ := Kd.R_celln (0 : Int) hR (i : Int) (by omega) (by omega)
  rw [Int.toNat_natCast] at k1 k2
  exact ⟨g7, rfl, ⟨_, k1⟩, k2, ⟨_, row_set hR i 221⟩, h.kept.trans (KeptE.set wq g7 i _) (fun k hk => .inl (by rw [hk]; rfl)), h.others.trans (KeepsOthers.setCell _ _ _)⟩
theorem OverE.blk {B : Nat} {w7 wq : World} {Ax : Option Addr} {L cx b : Nat} {ld : List Int} {cells : Array Value} {t : TypeId} (h : OverE B w7 wq Ax L cx) (hR : Kd.R (Kd.int .u8) 5 w7 B (fun _ => True) (.slice Ax L cx) ld) (hb : w7.heap[b]? = some (.cells cells t (0, 0))) (ht : 5 ≠ t) : wq.heap[b]? = some (.cells cells t (0, 0)) :=
  (h.kept.same b (blk_lt hb) (fun e => Kd.R_ne hR hb ht e.symm)).trans hb
theorem OverE.low {B : Nat} {w7 wq : World} {Ax : Option Addr} {L cx k : Nat} {ld : List Int} (h : OverE B w7 wq Ax L cx) (hR : Kd.R (Kd.int .u8) 5 w7 B (fun _ => True) (.slice Ax L cx) ld) (hk : k < B) (hB : B ≤ w7.heap.size) : wq.heap[k]? = w7.heap[k]? :=
  h.kept.same k (by omega) (fun e => by have := Kd.R_base hR k e; omega)
theorem OverE.above {B : Nat} {w7 wq : World} {Ax : Option Addr} {L cx : Nat} {ld : List Int} (h : OverE B w7 wq Ax L cx) (hR : Kd.R (Kd.int .u8) 5 w7 B (fun _ => True) (.slice Ax L cx) ld) : KeptE (fun k => B ≤ k) w7 wq := h.kept.mono (fun k e => Kd.R_base hR k e)
theorem seqY_inRound {α : Type} {F : Fence} {n : Nat} {P : Program} {g : Nat} {lb : Array Value} {encs : α → Array Value} {Y : List α → α → World → Prop} {Kp : World → World → Prop} {S Sp : List α → Prop} {w : World} (l : Nat) (h : SeqY F n P g lb encs Y Kp S Sp w) : SeqY (F.inRound l) n P g lb encs Y Kp S Sp w := h
/-- A round's end: the counter is one more. -/
theorem close2 {p : EP} {w6 Wb Wx : World} {Bn j : Nat} (hE : EW p Wb) (ht : p.top ≤ Bn) (hKL : KeptE (fun k => k = Bn) w6 Wb) (hb : Boxed Wb Bn 3 (.int .i64 (j : Int))) (hKB : KeptE (fun k => Wb.heap.size ≤ k) Wb Wx) :
    KeepsFrom w6.heap.size Wb (Wx.setCell ⟨Bn, 0, none⟩ (.int .i64 ((j : Int) + 1))) ∧ KpE p.n0 p.n1 Wb (Wx.setCell ⟨Bn, 0, none⟩ (.int .i64 ((j : Int) + 1))) ∧ Boxed (Wx.setCell ⟨Bn, 0, none⟩ (.int .i64 ((j : Int) + 1))) Bn 3 (.int .i64 ((j : Int) + 1)) ∧ KeptE (fun k => k = Bn) w6 (Wx.setCell ⟨Bn, 0, none⟩ (.int .i64 ((j : Int) + 1))) := by
  have hbl := hb.lt
  have hS : KeptE (fun k => Wb.heap.size ≤ k ∨ k = Bn) Wb (Wx.setCell ⟨Bn, 0, none⟩ (.int .i64 ((j : Int) + 1))) := (hKB.mono (fun k h => .inl h)).trans (KeptE.set Wx Bn 0 (.int .i64 ((j : Int) + 1))) (fun k h => .inl (.inr h))
  have hbx : Boxed Wx Bn 3 (.int .i64 (j : Int)) := hKB.box hb (by omega)
  refine ⟨⟨hS.size, fun k o _ hk ho => (hS.same k (Array.getElem?_eq_some_iff.1 hk).1 (fun h => ?_)).trans hk⟩, hE.kpE hS (fun k h => h.elim (fun h => Nat.le_trans hE.size h) (fun h => by rw [h]; exact ht)), hbx.set _, hKL.trans hS (fun k h => h.elim (fun h => .inr (Nat.le_trans hKL.size h)) .inl)⟩
  rcases h with h | h
  · have := (Array.getElem?_eq_some_iff.1 hk).1; omega
  · subst h
    rw [show Wb.heap[k]? = _ from hb] at hk
    injection hk with hk
    rw [← hk] at ho
    cases ho
/-- What the walk of FrameEaches is told. -/
structure EachT (l F : List Int) (Ls : List S44) : Prop where
  len : l.length ≤ 100000000
  bytes : Bytes l
  ls : Ls = eachP l l.length 0
  take : F.take l.length = l
  more : l.length < F.length
  flen : F.length ≤ 200000000
  llen : Ls.length ≤ l.length
  short : ∀ x ∈ Ls, x.f1.length ≤ l.length
set_option maxHeartbeats 2000000 in
set_option maxRecDepth 100000 in
theorem frameEaches.walk (kk : Nat) (A : Option Addr) (c : Nat) (l F : List Int) (Ls : List S44) (n2 e2 stop : Int) (w : World) (hTb : Tb w) (hr : Kd.C (Kd.int .u8) w A l.length l) (hc : l.length ≤ c) (hst : -9223372036854775808 ≤ stop ∧ stop ≤ 9223372036854775807)
    (h1 : wicketref01_Scan.f kk l = some (Ls, n2, e2)) (h2 : wicketlaw01_lent.f kk l = some F) (hE : EachT l F Ls) (h8 : wicketlaw01_live.f = some true) :
    Calls Tryd.prog 9 #[.slice A l.length c, .int .i64 stop] w fun e w' => e = .returned (.bool true) ∧ Below w.heap.size w w' := by
  obtain ⟨N, hN⟩ : ∃ N, N = l.length := ⟨_, rfl⟩
  rw [← hN] at hr hc
  rw [← hN]
  have HN := Aside0.mk hN
  have HC := Aside0.mk hr
  have HE := Aside0.mk hE
  have hNb : (N : Int) ≤ 100000000 := by have := hE.len; omega
  obtain ⟨w0, hw0⟩ : ∃ w0, w0 = (w.alloc (.cells #[.int .i64 stop] 3)).alloc (.cells #[.bool false] 4) := ⟨_, rfl⟩
  have hb0 : Below w.heap.size w w0 := by rw [hw0]; exact below_alloc (below_alloc (Below.refl _ _) _) _
  have hs0 : w0.heap.size = w.heap.size + 2 := by rw [hw0]; simp
  have B3 : Boxed w0 w.heap.size 3 (.int .i64 stop) := by rw [hw0]; exact (Boxed.new _ _ _).alloc _
  have B4 : Boxed w0 (w.heap.size + 1) 4 (.bool false) := by
    rw [hw0]
    have h := Boxed.new (w.alloc (.cells #[.int .i64 stop] 3)) 4 (.bool false)
    rw [World.size_alloc] at h
    exact h
  have HB0 := Aside0.mk hb0
  have HS0 := Aside0.mk hs0
  have HB3 := Aside0.mk B3
  have HB4 := Aside0.mk B4
  have HW0 := Aside0.mk hw0
  have HT0 := Aside0.mk (hTb.below hb0)
  have HST := Aside0.mk hst
  have h0w := Aside0.mk (tb_pos hTb)
  have H1 := Aside0.mk h1
  have H2 := Aside0.mk h2
  have H8 := Aside0.mk h8
  have hq : ∀ B W, (binOp BinOp.eql 61 (.func (.func 44) #[] #[.pointer (some ⟨B, 0, none⟩)]) .nilFunc).run Tryd.prog W = .ok (.bool false) W := fun B W => by kernel_rfl
  clear hN hr hE hb0 hs0 B3 B4 hw0 hTb hst h1 h2 h8
  refine (callsIn_wide (n := 9)).1 ?_
  refine callsIn_of_wp_marks Tryd.func9 rfl trivial ?_ rfl
  simp only [Tryd.ntmps9, List.size_toArray, List.length_cons, List.length_nil, Nat.reduceAdd, Nat.reduceSub, Array.replicate_succ, Array.replicate_zero, List.push_toArray, List.append_toArray, List.nil_append, List.cons_append]
  gi_wp2
  refine ⟨trivial, ?_⟩
  rw [← HW0.out]
  clear HW0
  have hsc := wicketref01_Scan.calls kk A c l Ls n2 e2 w0 (by rw [← HN.out]; exact Kd.C_below HC.out HB0.out) (by rw [← HN.out]; exact hc) H1.out
  rw [← HN.out] at hsc
  refine (callsIn_wide.2 hsc).mono ?_
  clear hsc
  rintro e w1 ⟨v1, rfl, ho1, hb1⟩
  obtain ⟨A1, c1, hv1⟩ := Kd.S_slice ho1
  obtain ⟨N1, hN1⟩ : ∃ N1, N1 = Ls.length := ⟨_, rfl⟩
  rw [← hN1] at hv1
  subst hv1
  have HN1 := Aside0.mk hN1
  clear hN1
  gi_wp2
  refine ⟨trivial, ?_⟩
  obtain ⟨w1', hw1⟩ : ∃ w1', w1' = w1.alloc (.cells #[.slice A1 N1 c1] 55) := ⟨_, rfl⟩
  have hb11 : Below w1.heap.size w1 w1' := by rw [hw1]; exact below_alloc (Below.refl _ _) _
  have HZ1 : Aside0 (w0.heap.size ≤ w1.heap.size ∧ w1'.heap.size = w1.heap.size + 1) := ⟨hb1.size, by rw [hw1]; simp⟩
  have B5 : Boxed w1' w1.heap.size 55 (.slice A1 N1 c1) := by rw [hw1]; exact Boxed.new _ _ _
  have HB01 := Aside0.mk (below_step hb1 hb11)
  have HB5 := Aside0.mk B5
  have HO1 := Aside0.mk (Kd.S_below (Kd.S_mono (ok' := fun k => w0.heap.size ≤ k ∧ k < w1.heap.size) (Kd.S_bound ho1) (fun k hk => ⟨hk.2.1, hk.2.2.1⟩)) hb11)
  rw [← hw1]
  clear hw1 ho1 B5 hb1 hb11
  have hsc := wicketlaw01_lent.calls kk A c l F w1' (by rw [← HN.out]; exact Kd.C_below HC.out (below_step HB0.out HB01.out)) (by rw [← HN.out]; exact hc) H2.out
  rw [← HN.out] at hsc
  refine (callsIn_wide.2 hsc).mono ?_
  clear hsc
  rintro e w2 ⟨v2, rfl, ho2, hb2⟩
  obtain ⟨g, cap, hv2, hg0, hg1, _⟩ := Kd.R_form ho2 (by have := HE.out.more; omega)
  subst hv2
  have hcap := (Kd.R_reads' ho2).2.1
  have hFN : N ≤ F.length := by have := HE.out.more; have := HN.out; omega
  have hcut := cut_own (some ⟨g, 0, none⟩) F.length cap N hFN hcap
  have hCF : Kd.C (Kd.int .u8) w2 (some ⟨g, 0, none⟩) N l := by
    have h := Kd.C_take (m := N) (Kd.R_reads' ho2).2.2 hFN
    rw [HN.out, HE.out.take] at h
    rw [HN.out]
    exact h
  have hNcap : N ≤ cap := by omega
  obtain ⟨NF, hNF⟩ : ∃ NF, NF = F.length := ⟨_, rfl⟩
  rw [← hNF] at hcut ho2 hcap
  rw [← hNF]
  have HNF := Aside0.mk hNF
  have HO2 := Aside0.mk ho2
  have HB12 := Aside0.mk hb2
  have HG := Aside0.mk (And.intro hg0 hg1)
  clear hNF hFN ho2 hb2 hg0 hg1
  gi_wp2
  refine ⟨trivial, ?_⟩
  have hsc := frame_Each.calls (w := w2) (A := some ⟨g, 0, none⟩) (c := cap) (l := l) (by rw [← HN.out]; exact hCF) (by rw [← HN.out]; exact hNcap) HE.out.len
  rw [← HN.out] at hsc
  refine (callsIn_wide.2 hsc).mono ?_
  clear hsc
  rintro e w3 ⟨Bs, Ak, ck, rfl, hs3, hs3b, hc3, hr3, hb3⟩
  obtain ⟨w3', hw3⟩ : ∃ w3', w3' = w3.alloc (.cells #[.func (.func 44) #[] #[.pointer (some ⟨Bs, 0, none⟩)]] 61) := ⟨_, rfl⟩
  have hb33 : Below w3.heap.size w3 w3' := by rw [hw3]; exact below_alloc (Below.refl _ _) _
  have hs33 : w3'.heap.size = w3.heap.size + 1 := by rw [hw3]; simp
  have B9 : Boxed w3' w3.heap.size 61 (.func (.func 44) #[] #[.pointer (some ⟨Bs, 0, none⟩)]) := by rw [hw3]; exact Boxed.new _ _ _
  have d9 := B9.cell
  have HB9 := Aside0.mk B9
  have HR3 : Aside0 (Kd.R (Kd.int .u8) 5 w3' 0 (fun k => w2.heap.size ≤ k ∧ k < w3.heap.size) (.slice Ak N ck) l) := ⟨Kd.R_below (Kd.R_lower (Kd.R_mono (Kd.R_bound hr3) (fun k hk => ⟨hk.2.1, hk.2.2.1⟩)) (Nat.zero_le _)) hb33⟩
  have HC3 : Aside0 (w3'.cell? ⟨Bs, 0, none⟩ = some (.slice Ak N ck)) := ⟨pw_cell_below hb33 hc3⟩
  have HBS : Aside0 (w2.heap.size ≤ Bs ∧ Bs < w3.heap.size ∧ w2.heap.size ≤ w3.heap.size) := ⟨hs3, hs3b, hb3.size⟩
  have HB23 := Aside0.mk (below_step hb3 hb33)
  have HO3 := Aside0.mk (Kd.R_below HO2.out (below_step hb3 hb33))
  have HS33 := Aside0.mk hs33
  clear hs3 hs3b hc3 hr3 hb3 hb33 hs33 B9 hcut hCF
  have HW3 := Aside0.mk hw3
  clear hw3
  have hNFb : (NF : Int) ≤ 200000000 := by have := HE.out.flen; have := HNF.out; omega
  gi_wp2
  rw [← HW3.out]
  clear HW3 d9
  gi_loopw [10] (fun v10 wr => ∃ i : Nat, i ≤ NF ∧ v10 = .int .i64 i ∧ Aside0 ((∃ Fi : List Int, Kd.R (Kd.int .u8) 5 wr w1'.heap.size (fun _ => True) (.slice (some ⟨g, 0, none⟩) NF cap) Fi) ∧ KeptE (fun k => k = g) w3' wr)) (fun v10 _ => NF - (intOf v10).toNat)
  case atStart => exact ⟨0, Nat.zero_le _, rfl, ⟨_, HO3.out⟩, KeptE.refl _ _⟩
  case round =>
    obtain ⟨i, hi, rfl, HI⟩ := hrel
    by_cases hlt : i < NF
    · obtain ⟨⟨Fi, hRi⟩, hKi⟩ := HI.out
      obtain ⟨k1, k2⟩ := Kd.R_celln (0 : Int) hRi (i : Int) (by omega) (by omega)
      rw [Int.toNat_natCast] at k1 k2
      have HN2 : Aside0 ((∃ Fi : List Int, Kd.R (Kd.int .u8) 5 (wr.setCell ⟨g, i, none⟩ (.int .u8 238)) w1'.heap.size (fun _ => True) (.slice (some ⟨g, 0, none⟩) NF cap) Fi) ∧ KeptE (fun k => k = g) w3' (wr.setCell ⟨g, i, none⟩ (.int .u8 238))) := ⟨⟨_, row_set hRi i 238⟩, hKi.trans (KeptE.set wr g i _) (fun _ h => .inl h)⟩
      clear hRi hKi HI
      gi_wp2
      go_roundw
      case rel => exact ⟨i + 1, by omega, by go_num, HN2⟩
      case measure => simp [intOf]; omega
    · obtain rfl : i = NF := by omega
      clear hi
      have hKi := HI.out.2
      have hg3 : g < w3'.heap.size := Nat.lt_of_lt_of_le HG.out.2 HB23.out.size
      obtain ⟨w4, hw4⟩ : ∃ w4, w4 = wr := ⟨_, rfl⟩
      have hgb : g ≠ w3.heap.size := by have := HG.out.2; have := HBS.out.2.2; omega
      have B9 : Boxed wr w3.heap.size 61 (.func (.func 44) #[] #[.pointer (some ⟨Bs, 0, none⟩)]) := hKi.box HB9.out (fun e => hgb e.symm)
      have q9 := (B9.alloc (.cells #[.int .i64 0] 3)).cell
      have HB9R := Aside0.mk B9
      have HKR := Aside0.mk hKi
      have HGB := Aside0.mk hgb
      clear hKi B9 hgb hw4 hg3
      gi_wp2
      clear q9
      obtain ⟨w5, hw5⟩ : ∃ w5, w5 = wr.alloc (.cells #[.int .i64 0] 3) := ⟨_, rfl⟩
      obtain ⟨Bn, hBn⟩ : ∃ Bn, Bn = wr.heap.size := ⟨_, rfl⟩
      have hb45 : Below wr.heap.size wr w5 := by rw [hw5]; exact below_alloc (Below.refl _ _) _
      have hs5 : w5.heap.size = Bn + 1 := by rw [hw5, hBn]; simp
      have BN : Boxed w5 Bn 3 (.int .i64 0) := by rw [hw5, hBn]; exact Boxed.new _ _ _
      have hK5 : KeptE (fun k => k = g) w3' w5 := HKR.out.trans (KeptE.of_below (S := fun _ => False) hb45) (fun _ h => h.elim)
      have hbn3 : w3'.heap.size ≤ Bn := by rw [hBn]; exact HKR.out.size
      rw [← hw5, ← hBn]
      clear hb45 hw5 hBn HKR HB9R HI
      have h03 : Below w0.heap.size w0 w3' := below_step (below_step HB01.out HB12.out) HB23.out
      have h13 : Below w1'.heap.size w1' w3' := below_step HB12.out HB23.out
      have hz1 := HZ1.out
      have hz2 : w1'.heap.size ≤ w2.heap.size := HB12.out.size
      have hz3 := HBS.out.2.2
      have hz4 := HS33.out
      have hz0 := HS0.out
      have h0p : 0 < w.heap.size := h0w.out
      have HEW3 : EW ⟨w3'.heap.size, w.heap.size, w.heap.size + 1, w1.heap.size, w3.heap.size, Bs, w2.heap.size, w3.heap.size, w0.heap.size, w1.heap.size, stop, A1, Ak, N1, c1, N, ck, l, Ls⟩ w3' :=
        { lt := fun k hk => by
            show k < w3'.heap.size
            rcases hk with hk | hk | hk | hk | hk | hk | hk <;> (try simp only at hk) <;> omega
          bs := ⟨HBS.out.1, HBS.out.2.1⟩
          size := Nat.le_refl _
          tb := HT0.out.below h03
          s3 := (h03.block w.heap.size (by omega)).trans HB3.out
          s4 := (h03.block (w.heap.size + 1) (by omega)).trans HB4.out
          s5 := (h13.block w1.heap.size (by omega)).trans HB5.out
          s9 := HB9.out
          rows := Kd.R_lower (Kd.R_below (Kd.S_R HO1.out) h13) (Nat.zero_le _)
          kb := HR3.out
          cs := HC3.out }
      have hgm : ∀ k, k = g → ¬ EP.mem ⟨w3'.heap.size, w.heap.size, w.heap.size + 1, w1.heap.size, w3.heap.size, Bs, w2.heap.size, w3.heap.size, w0.heap.size, w1.heap.size, stop, A1, Ak, N1, c1, N, ck, l, Ls⟩ k := fun k hk hm => by
        have h1 := HG.out
        rcases hm with hm | hm | hm | hm | hm | hm | hm <;> (try simp only at hm) <;> omega
      have HEW := Aside0.mk (HEW3.kept hK5 hgm)
      have hcs : w5.cell? ⟨Bs, 0, none⟩ = some (.slice Ak l.length ck) := by rw [← HN.out]; exact HEW.out.cs
      have hkb : KB w5 w2.heap.size w3.heap.size (.slice Ak l.length ck) l := by rw [← HN.out]; exact HEW.out.kb
      have hBB : w3.heap.size ≤ w5.heap.size := by omega
      have h5p : 0 < w5.heap.size := by omega
      have HTOP : Aside0 (w3'.heap.size ≤ Bn ∧ w5.heap.size = Bn + 1 ∧ w3.heap.size ≤ w3'.heap.size ∧ w.heap.size ≤ w3'.heap.size) := ⟨by omega⟩
      have HB05 : Aside0 (Below w.heap.size w w5) := ⟨by
        have h1 := below_step HB0.out h03
        exact h1.trans (hK5.below h1.size (fun k hk => by have := HG.out.1; omega))⟩
      clear hz1 hz2 hz3 hz4 hz0 h0p h03 h13 HEW3 hgm hK5 hbn3 hs5 HB01 HB12 HB23 HO1 HO2 HO3 HB3 HB4 HB5 HB9 HR3 HC3 HB0 hlt HGB
      refine wpIn_rangeB_tail (id := 2) rfl (by omega) (gf := 44) (lb := #[.pointer (some ⟨Bs, 0, none⟩)]) rfl trivial (enters_of Tryd.func44 (by kernel_rfl) rfl)
        (each1_seq _ (by omega) Bs w2.heap.size w3.heap.size Ak ck l Ls w5 HBS.out.1 HBS.out.2.1 hBB HEW.out.tb hcs hkb HE.out.len HE.out.bytes HE.out.ls) kpE_t (kpE_b hBB h5p) (Below.refl _ _) (fun _ => rfl)
        (fun pre W => Boxed W Bn 3 (.int .i64 (pre.length : Int)) ∧ KeptE (fun k => k = Bn) w5 W)
        (fun c pre W => c = .exit 2 ∧ (∃ v, Boxed W Bn 3 v) ∧ KeptE (fun k => k = Bn) w5 W)
        (BxE Ls w5.heap.size) (OwnFrom.and (Own.from (boxed_own _ _ _) _) KeptE.ownFrom) (fun c => ?ix) (fun pre x b => bxE_own _ _ _ _ _ _)
        ⟨BN, KeptE.refl _ _⟩ ?a1 ?assign ?body (fun D W => (∃ v, Boxed W Bn 3 v) ∧ KeptE (fun k => k = Bn) w5 W) ?t1 ?t2 ?rest
      case ix => exact fun s W W' row ⟨h1, ⟨v, h2⟩, h3⟩ hg hr => ⟨h1, ⟨v, h2.kept hg (fun e => by have := (hr Bn e.symm).1; have := HTOP.out; omega)⟩, KeptE.ownFrom (β := Unit) () W W' row h3 hg hr⟩
      case t1 => exact fun D xs W hD hS hi hd => ⟨⟨_, hi.1⟩, hi.2⟩
      case t2 => exact fun D c pre W hD hS hi hd => ⟨hi.1, hi.2⟩
      case assign =>
        intro l' pre x W hl hi hy
        unfold encE
        have hWs := hi.2.size
        gi_wp2
        have hba := below_alloc (Below.refl W.heap.size W) (.cells #[.int .u8 (frN Ls x.1).f0, .slice x.2.1 x.2.2.1 x.2.2.2] 40)
        refine ⟨W.heap.size, ?_, (KeepsOthers.alloc W _).from _, KpE.of_below hba (Nat.le_trans hBB hWs) (Nat.lt_of_lt_of_le h5p hWs), ⟨hi.1.alloc _, hi.2.trans (KeptE.of_below (S := fun _ => False) hba) (fun _ h => h.elim)⟩, hWs, blk_new W _, hy.1, hy.2.1, Kd.R_below hy.2.2 hba⟩
        obtain ⟨b, hb⟩ : ∃ b, b = W.heap.size := ⟨_, rfl⟩
        rw [← hb]
      case body =>
        rintro l' pre ⟨j, Ax, L, cx⟩ b W hl hr ⟨hbn, hK⟩ ⟨hbb, hbx, hj1, hj2, hxR⟩
        simp only at hbx hj1 hj2 hxR
        obtain ⟨k, hk⟩ : ∃ k, k = pre.length := ⟨_, rfl⟩
        obtain rfl : j = k := hj1.trans hk.symm
        rw [← hk] at hbn
        have hE5 := HEW.out.above hK (fun k hk => by rw [hk]; exact HTOP.out.1)
        have n0 := hbn.cell
        have y0 := hbn.frozen
        have q3 : W.cell? ⟨w.heap.size, 0, none⟩ = some (.int .i64 stop) := hE5.s3.cell
        have q5 : W.cell? ⟨w1.heap.size, 0, none⟩ = some (.slice A1 N1 c1) := hE5.s5.cell
        have hC5 : Kd.C k44 W A1 N1 Ls := by have h := (Kd.R_reads' hE5.rows).2.2; rw [← HN1.out] at h; exact h
        have hjN : j < N1 := by rw [HN1.out]; exact hj2
        obtain ⟨ad, A7, c7, hA, h0, h1, h2, hc7, hC7⟩ := at_T44 hC5 (j : Int) (by omega) (by omega)
        subst hA
        rw [show rd_T44 Ls (j : Int) = frN Ls j from by unfold rd_T44 frN; rw [Int.toNat_natCast]] at h0 h1 h2 hc7 hC7
        rw [Int.toNat_natCast] at h0 h1 h2
        obtain ⟨⟨kd, ld, pa⟩, hfr⟩ : ∃ f, f = frN Ls j := ⟨_, rfl⟩
        try dsimp only
        rw [← hfr] at h0 h1 h2 hc7 hC7 hbx hxR ⊢
        try dsimp only
        simp only at h0 h1 h2 hc7 hC7 hbx hxR
        have hLd : L = ld.length := (Kd.R_reads' hxR).1
        have hcx := (Kd.R_reads' hxR).2.1
        have hCx := (Kd.R_reads' hxR).2.2
        have x0 := (blk_cell hbx 0).trans rfl
        have x1 := (blk_cell hbx 1).trans rfl
        have hsm := fun (W2 : World) (hb : Below W.heap.size W W2) => wicketlaw01_same.calls Ax cx ld A7 c7 ld true W2 (Kd.C_below hCx hb) (by omega) (Kd.C_below hC7 hb) hc7 (same_ev ld)
        rw [← hLd] at hsm h1
        have HSM := Aside0.mk hsm
        have HX := Aside0.mk hxR
        have HBX := Aside0.mk hbx
        have HFR := Aside0.mk hfr
        have HK := Aside0.mk hK
        have HKP := Aside0.mk hk
        have HBN := Aside0.mk hbn
        have HBB := Aside0.mk hbb
        have bk : decide ((j : Int) ≥ (N1 : Int)) = false := decide_eq_false (by omega)
        have bk2 : decide (N1 ≤ j) = false := decide_eq_false (by omega)
        have hnk : ¬ (N1 ≤ j) := by omega
        have hkb2 : (j : Int) ≤ 100000000 := by have h9 := HE.out.llen; have h8 := HE.out.len; have := HN1.out; omega
        clear hsm hxR hbx hfr hK hk hbn hbb hE5 hC5 hcx hCx hC7 hc7 hj1 hj2 hLd hcs hkb hq
        gi_wp2
        refine startIn_ (n := 34) (S := fun w' => w'.cell? ⟨Bn, 0, none⟩ = some (.int .i64 j) ∧ w'.cell? ⟨w1.heap.size, 0, none⟩ = some (.slice (some ad) N1 c1) ∧ w'.cell? ⟨b, 0, none⟩ = some (.int .u8 kd) ∧ w'.cell? ⟨b, 1, none⟩ = some (.slice Ax L cx) ∧ w'.cell? (ad.add (j * 3)) = some (.int .u8 kd) ∧ w'.cell? ⟨(ad.add (j * 3)).block, (ad.add (j * 3)).off + 1, none⟩ = some (.slice A7 L c7) ∧ w'.cell? ⟨(ad.add (j * 3)).block, (ad.add (j * 3)).off + 2, none⟩ = some (.int .i64 pa)) (ds := [31]) #[false, false, false, false, false, false, false, false, false, false, false, false, false, false, false, false, false, false, false, false, false, false, false, false, false, false, false, false, false, false, false, false, false, false] (by kernel_rfl) rfl rfl ⟨n0, q5, x0, x1, h0, h1, h2⟩ (fun hHeld => ?_)
        refine take_ (i := 0) (N := some 47) (v := ?_) (a' := ?_) #[true, false, false, false, false, false, false, false, false, false, false, false, false, false, false, false, false, false, false, false, false, false, false, false, false, false, false, false, false, false, false, false, false, false] rfl rfl (by kernel_rfl) (fun _ _ _ h => h) (Or.inl ⟨by rfl, ?_⟩) hHeld ?_ ?_
        rotate_left
        · rintro w' ⟨s0, s1, s2, s3, s4, s5, s6⟩
          go_simp
          with_reducible rfl
        rotate_left
        · simp only [Act.put, List.setIfInBounds_toArray, List.set_cons_zero, List.set_cons_succ, i64_w, i32_w]
          rfl
        refine take_ (i := 1) (N := some 48) (v := ?_) (a' := ?_) #[true, true, false, false, false, false, false, false, false, false, false, false, false, false, false, false, false, false, false, false, false, false, false, false, false, false, false, false, false, false, false, false, false, false] rfl rfl (by kernel_rfl) (fun _ _ _ h => h) (Or.inl ⟨by rfl, ?_⟩) hHeld ?_ ?_
        rotate_left
        · rintro w' ⟨s0, s1, s2, s3, s4, s5, s6⟩
          go_simp
          with_reducible rfl
        rotate_left
        · simp only [Act.put, List.setIfInBounds_toArray, List.set_cons_zero, List.set_cons_succ, i64_w, i32_w]
          rfl
        refine pure_ (i := 2) (N := some 49) (v := ?_) (a' := ?_) #[true, true, true, false, false, false, false, false, false, false, false, false, false, false, false, false, false, false, false, false, false, false, false, false, false, false, false, false, false, false, false, false, false, false] rfl rfl (by kernel_rfl) (fun _ _ _ h => h) (Or.inl ⟨by rfl, ?_⟩) ?_ ?_
        rotate_left
        · intro w'
          go_simp
          with_reducible rfl
        rotate_left
        · simp only [Act.put, List.setIfInBounds_toArray, List.set_cons_zero, List.set_cons_succ, i64_w, i32_w]
          rfl
        refine pure_ (i := 3) (N := some 50) (v := ?_) (a' := ?_) #[true, true, true, true, false, false, false, false, false, false, false, false, false, false, false, false, false, false, false, false, false, false, false, false, false, false, false, false, false, false, false, false, false, false] rfl rfl (by kernel_rfl) (fun _ _ _ h => h) (Or.inl ⟨by rfl, ?_⟩) ?_ ?_
        rotate_left
        · intro w'
          go_simp
          with_reducible rfl
        rotate_left
        · simp only [Act.put, List.setIfInBounds_toArray, List.set_cons_zero, List.set_cons_succ, i64_w, i32_w]
          rfl
        refine pure_ (i := 4) (N := some 51) (v := ?_) (a' := ?_) #[true, true, true, true, true, false, false, false, false, false, false, false, false, false, false, false, false, false, false, false, false, false, false, false, false, false, false, false, false, false, false, false, false, false] rfl rfl (by kernel_rfl) (fun _ _ _ h => h) (Or.inl ⟨by rfl, ?_⟩) ?_ ?_
        rotate_left
        · intro w'
          go_simp
          with_reducible rfl
        rotate_left
        · simp only [Act.put, List.setIfInBounds_toArray, List.set_cons_zero, List.set_cons_succ, i64_w, i32_w]
          rfl
        refine pure_ (i := 5) (N := some 52) (v := ?_) (a' := ?_) #[true, true, true, true, true, true, false, false, false, false, false, false, false, false, false, false, false, false, false, false, false, false, false, false, false, false, false, false, false, false, false, false, false, false] rfl rfl (by kernel_rfl) (fun _ _ _ h => h) (Or.inl ⟨by rfl, ?_⟩) ?_ ?_
        rotate_left
        · intro w'
          go_simp
          with_reducible rfl
        rotate_left
        · simp only [Act.put, List.setIfInBounds_toArray, List.set_cons_zero, List.set_cons_succ, i64_w, i32_w]
          rfl
        refine take_ (i := 6) (N := some 53) (v := ?_) (a' := ?_) #[true, true, true, true, true, true, true, false, false, false, false, false, false, false, false, false, false, false, false, false, false, false, false, false, false, false, false, false, false, false, false, false, false, false] rfl rfl (by kernel_rfl) (fun _ _ _ h => h) (Or.inl ⟨by rfl, ?_⟩) hHeld ?_ ?_
        rotate_left
        · rintro w' ⟨s0, s1, s2, s3, s4, s5, s6⟩
          go_simp
          with_reducible rfl
        rotate_left
        · simp only [Act.put, List.setIfInBounds_toArray, List.set_cons_zero, List.set_cons_succ, i64_w, i32_w]
          rfl
        refine take_ (i := 7) (N := some 54) (v := ?_) (a' := ?_) #[true, true, true, true, true, true, true, true, false, false, false, false, false, false, false, false, false, false, false, false, false, false, false, false, false, false, false, false, false, false, false, false, false, false] rfl rfl (by kernel_rfl) (fun _ _ _ h => h) (Or.inl ⟨by rfl, ?_⟩) hHeld ?_ ?_
        rotate_left
        · rintro w' ⟨s0, s1, s2, s3, s4, s5, s6⟩
          go_simp
          with_reducible rfl
        rotate_left
        · simp only [Act.put, List.setIfInBounds_toArray, List.set_cons_zero, List.set_cons_succ, i64_w, i32_w]
          rfl
        refine pure_ (i := 8) (N := some 55) (v := ?_) (a' := ?_) #[true, true, true, true, true, true, true, true, true, false, false, false, false, false, false, false, false, false, false, false, false, false, false, false, false, false, false, false, false, false, false, false, false, false] rfl rfl (by kernel_rfl) (fun _ _ _ h => h) (Or.inl ⟨by rfl, ?_⟩) ?_ ?_
        rotate_left
        · intro w'
          go_simp
          with_reducible rfl
        rotate_left
        · simp only [Act.put, List.setIfInBounds_toArray, List.set_cons_zero, List.set_cons_succ, i64_w, i32_w]
          rfl
        refine pure_ (i := 9) (N := some 56) (v := ?_) (a' := ?_) #[true, true, true, true, true, true, true, true, true, true, false, false, false, false, false, false, false, false, false, false, false, false, false, false, false, false, false, false, false, false, false, false, false, false] rfl rfl (by kernel_rfl) (fun _ _ _ h => h) (Or.inl ⟨by rfl, ?_⟩) ?_ ?_
        rotate_left
        · intro w'
          go_simp
          with_reducible rfl
        rotate_left
        · simp only [Act.put, List.setIfInBounds_toArray, List.set_cons_zero, List.set_cons_succ, i64_w, i32_w]
          rfl
        refine take_ (i := 10) (N := some 57) (v := ?_) (a' := ?_) #[true, true, true, true, true, true, true, true, true, true, true, false, false, false, false, false, false, false, false, false, false, false, false, false, false, false, false, false, false, false, false, false, false, false] rfl rfl (by kernel_rfl) (fun _ _ _ h => h) (Or.inl ⟨by rfl, ?_⟩) hHeld ?_ ?_
        rotate_left
        · rintro w' ⟨s0, s1, s2, s3, s4, s5, s6⟩
          go_simp
          with_reducible rfl
        rotate_left
        · simp only [Act.put, List.setIfInBounds_toArray, List.set_cons_zero, List.set_cons_succ, i64_w, i32_w]
          rfl
        refine pure_ (i := 11) (N := some 58) (v := ?_) (a' := ?_) #[true, true, true, true, true, true, true, true, true, true, true, true, false, false, false, false, false, false, false, false, false, false, false, false, false, false, false, false, false, false, false, false, false, false] rfl rfl (by kernel_rfl) (fun _ _ _ h => h) (Or.inl ⟨by rfl, ?_⟩) ?_ ?_
        rotate_left
        · intro w'
          go_simp
          with_reducible rfl
        rotate_left
        · simp only [Act.put, List.setIfInBounds_toArray, List.set_cons_zero, List.set_cons_succ, i64_w, i32_w]
          rfl
        refine pure_ (i := 12) (N := some 59) (v := ?_) (a' := ?_) #[true, true, true, true, true, true, true, true, true, true, true, true, true, false, false, false, false, false, false, false, false, false, false, false, false, false, false, false, false, false, false, false, false, false] rfl rfl (by kernel_rfl) (fun _ _ _ h => h) (Or.inl ⟨by rfl, ?_⟩) ?_ ?_
        rotate_left
        · intro w'
          go_simp
          with_reducible rfl
        rotate_left
        · simp only [Act.put, List.setIfInBounds_toArray, List.set_cons_zero, List.set_cons_succ, i64_w, i32_w]
          rfl
        refine pure_ (i := 13) (N := some 60) (v := ?_) (a' := ?_) #[true, true, true, true, true, true, true, true, true, true, true, true, true, true, false, false, false, false, false, false, false, false, false, false, false, false, false, false, false, false, false, false, false, false] rfl rfl (by kernel_rfl) (fun _ _ _ h => h) (Or.inl ⟨by rfl, ?_⟩) ?_ ?_
        rotate_left
        · intro w'
          go_simp
          with_reducible rfl
        rotate_left
        · simp only [Act.put, List.setIfInBounds_toArray, List.set_cons_zero, List.set_cons_succ, i64_w, i32_w]
          rfl
        refine pure_ (i := 14) (N := some 61) (v := ?_) (a' := ?_) #[true, true, true, true, true, true, true, true, true, true, true, true, true, true, true, false, false, false, false, false, false, false, false, false, false, false, false, false, false, false, false, false, false, false] rfl rfl (by kernel_rfl) (fun _ _ _ h => h) (Or.inl ⟨by rfl, ?_⟩) ?_ ?_
        rotate_left
        · intro w'
          go_simp
          with_reducible rfl
        rotate_left
        · simp only [Act.put, List.setIfInBounds_toArray, List.set_cons_zero, List.set_cons_succ, i64_w, i32_w]
          rfl
        refine take_ (i := 15) (N := some 62) (v := ?_) (a' := ?_) #[true, true, true, true, true, true, true, true, true, true, true, true, true, true, true, true, false, false, false, false, false, false, false, false, false, false, false, false, false, false, false, false, false, false] rfl rfl (by kernel_rfl) (fun _ _ _ h => h) (Or.inl ⟨by rfl, ?_⟩) hHeld ?_ ?_
        rotate_left
        · rintro w' ⟨s0, s1, s2, s3, s4, s5, s6⟩
          go_simp
          with_reducible rfl
        rotate_left
        · simp only [Act.put, List.setIfInBounds_toArray, List.set_cons_zero, List.set_cons_succ, i64_w, i32_w]
          rfl
        refine take_ (i := 16) (N := some 63) (v := ?_) (a' := ?_) #[true, true, true, true, true, true, true, true, true, true, true, true, true, true, true, true, true, false, false, false, false, false, false, false, false, false, false, false, false, false, false, false, false, false] rfl rfl (by kernel_rfl) (fun _ _ _ h => h) (Or.inl ⟨by rfl, ?_⟩) hHeld ?_ ?_
        rotate_left
        · rintro w' ⟨s0, s1, s2, s3, s4, s5, s6⟩
          go_simp
          with_reducible rfl
        rotate_left
        · simp only [Act.put, List.setIfInBounds_toArray, List.set_cons_zero, List.set_cons_succ, i64_w, i32_w]
          rfl
        refine take_ (i := 17) (N := some 64) (v := ?_) (a' := ?_) #[true, true, true, true, true, true, true, true, true, true, true, true, true, true, true, true, true, true, false, false, false, false, false, false, false, false, false, false, false, false, false, false, false, false] rfl rfl (by kernel_rfl) (fun _ _ _ h => h) (Or.inl ⟨by rfl, ?_⟩) hHeld ?_ ?_
        rotate_left
        · rintro w' ⟨s0, s1, s2, s3, s4, s5, s6⟩
          go_simp
          with_reducible rfl
        rotate_left
        · simp only [Act.put, List.setIfInBounds_toArray, List.set_cons_zero, List.set_cons_succ, i64_w, i32_w]
          rfl
        refine pure_ (i := 18) (N := some 65) (v := ?_) (a' := ?_) #[true, true, true, true, true, true, true, true, true, true, true, true, true, true, true, true, true, true, true, false, false, false, false, false, false, false, false, false, false, false, false, false, false, false] rfl rfl (by kernel_rfl) (fun _ _ _ h => h) (Or.inl ⟨by rfl, ?_⟩) ?_ ?_
        rotate_left
        · intro w'
          go_simp
          with_reducible rfl
        rotate_left
        · simp only [Act.put, List.setIfInBounds_toArray, List.set_cons_zero, List.set_cons_succ, i64_w, i32_w]
          rfl
        refine pure_ (i := 19) (N := some 66) (v := ?_) (a' := ?_) #[true, true, true, true, true, true, true, true, true, true, true, true, true, true, true, true, true, true, true, true, false, false, false, false, false, false, false, false, false, false, false, false, false, false] rfl rfl (by kernel_rfl) (fun _ _ _ h => h) (Or.inl ⟨by rfl, ?_⟩) ?_ ?_
        rotate_left
        · intro w'
          go_simp
          with_reducible rfl
        rotate_left
        · simp only [Act.put, List.setIfInBounds_toArray, List.set_cons_zero, List.set_cons_succ, i64_w, i32_w]
          rfl
        refine take_ (i := 20) (N := some 67) (v := ?_) (a' := ?_) #[true, true, true, true, true, true, true, true, true, true, true, true, true, true, true, true, true, true, true, true, true, false, false, false, false, false, false, false, false, false, false, false, false, false] rfl rfl (by kernel_rfl) (fun _ _ _ h => h) (Or.inl ⟨by rfl, ?_⟩) hHeld ?_ ?_
        rotate_left
        · rintro w' ⟨s0, s1, s2, s3, s4, s5, s6⟩
          go_simp
          with_reducible rfl
        rotate_left
        · simp only [Act.put, List.setIfInBounds_toArray, List.set_cons_zero, List.set_cons_succ, i64_w, i32_w]
          rfl
        refine pure_ (i := 21) (N := some 68) (v := ?_) (a' := ?_) #[true, true, true, true, true, true, true, true, true, true, true, true, true, true, true, true, true, true, true, true, true, true, false, false, false, false, false, false, false, false, false, false, false, false] rfl rfl (by kernel_rfl) (fun _ _ _ h => h) (Or.inl ⟨by rfl, ?_⟩) ?_ ?_
        rotate_left
        · intro w'
          go_simp
          with_reducible rfl
        rotate_left
        · simp only [Act.put, List.setIfInBounds_toArray, List.set_cons_zero, List.set_cons_succ, i64_w, i32_w]
          rfl
        refine pure_ (i := 22) (N := some 69) (v := ?_) (a' := ?_) #[true, true, true, true, true, true, true, true, true, true, true, true, true, true, true, true, true, true, true, true, true, true, true, false, false, false, false, false, false, false, false, false, false, false] rfl rfl (by kernel_rfl) (fun _ _ _ h => h) (Or.inl ⟨by rfl, ?_⟩) ?_ ?_
        rotate_left
        · intro w'
          go_simp
          with_reducible rfl
        rotate_left
        · simp only [Act.put, List.setIfInBounds_toArray, List.set_cons_zero, List.set_cons_succ, i64_w, i32_w]
          rfl
        refine pure_ (i := 23) (N := some 70) (v := ?_) (a' := ?_) #[true, true, true, true, true, true, true, true, true, true, true, true, true, true, true, true, true, true, true, true, true, true, true, true, false, false, false, false, false, false, false, false, false, false] rfl rfl (by kernel_rfl) (fun _ _ _ h => h) (Or.inl ⟨by rfl, ?_⟩) ?_ ?_
        rotate_left
        · intro w'
          go_simp
          with_reducible rfl
        rotate_left
        · simp only [Act.put, List.setIfInBounds_toArray, List.set_cons_zero, List.set_cons_succ, i64_w, i32_w]
          rfl
        refine pure_ (i := 24) (N := some 71) (v := ?_) (a' := ?_) #[true, true, true, true, true, true, true, true, true, true, true, true, true, true, true, true, true, true, true, true, true, true, true, true, true, false, false, false, false, false, false, false, false, false] rfl rfl (by kernel_rfl) (fun _ _ _ h => h) (Or.inl ⟨by rfl, ?_⟩) ?_ ?_
        rotate_left
        · intro w'
          go_simp
          with_reducible rfl
        rotate_left
        · simp only [Act.put, List.setIfInBounds_toArray, List.set_cons_zero, List.set_cons_succ, i64_w, i32_w]
          rfl
        refine take_ (i := 25) (N := some 72) (v := ?_) (a' := ?_) #[true, true, true, true, true, true, true, true, true, true, true, true, true, true, true, true, true, true, true, true, true, true, true, true, true, true, false, false, false, false, false, false, false, false] rfl rfl (by kernel_rfl) (fun _ _ _ h => h) (Or.inl ⟨by rfl, ?_⟩) hHeld ?_ ?_
        rotate_left
        · rintro w' ⟨s0, s1, s2, s3, s4, s5, s6⟩
          go_simp
          with_reducible rfl
        rotate_left
        · simp only [Act.put, List.setIfInBounds_toArray, List.set_cons_zero, List.set_cons_succ, i64_w, i32_w]
          rfl
        refine take_ (i := 26) (N := some 73) (v := ?_) (a' := ?_) #[true, true, true, true, true, true, true, true, true, true, true, true, true, true, true, true, true, true, true, true, true, true, true, true, true, true, true, false, false, false, false, false, false, false] rfl rfl (by kernel_rfl) (fun _ _ _ h => h) (Or.inl ⟨by rfl, ?_⟩) hHeld ?_ ?_
        rotate_left
        · rintro w' ⟨s0, s1, s2, s3, s4, s5, s6⟩
          go_simp
          with_reducible rfl
        rotate_left
        · simp only [Act.put, List.setIfInBounds_toArray, List.set_cons_zero, List.set_cons_succ, i64_w, i32_w]
          rfl
        refine take_ (i := 27) (N := some 74) (v := ?_) (a' := ?_) #[true, true, true, true, true, true, true, true, true, true, true, true, true, true, true, true, true, true, true, true, true, true, true, true, true, true, true, true, false, false, false, false, false, false] rfl rfl (by kernel_rfl) (fun _ _ _ h => h) (Or.inl ⟨by rfl, ?_⟩) hHeld ?_ ?_
        rotate_left
        · rintro w' ⟨s0, s1, s2, s3, s4, s5, s6⟩
          go_simp
          with_reducible rfl
        rotate_left
        · simp only [Act.put, List.setIfInBounds_toArray, List.set_cons_zero, List.set_cons_succ, i64_w, i32_w]
          rfl
        refine pure_ (i := 28) (N := some 75) (v := ?_) (a' := ?_) #[true, true, true, true, true, true, true, true, true, true, true, true, true, true, true, true, true, true, true, true, true, true, true, true, true, true, true, true, true, false, false, false, false, false] rfl rfl (by kernel_rfl) (fun _ _ _ h => h) (Or.inl ⟨by rfl, ?_⟩) ?_ ?_
        rotate_left
        · intro w'
          go_simp
          with_reducible rfl
        rotate_left
        · simp only [Act.put, List.setIfInBounds_toArray, List.set_cons_zero, List.set_cons_succ, i64_w, i32_w]
          rfl
        refine pure_ (i := 29) (N := some 76) (v := ?_) (a' := ?_) #[true, true, true, true, true, true, true, true, true, true, true, true, true, true, true, true, true, true, true, true, true, true, true, true, true, true, true, true, true, true, false, false, false, false] rfl rfl (by kernel_rfl) (fun _ _ _ h => h) (Or.inl ⟨by rfl, ?_⟩) ?_ ?_
        rotate_left
        · intro w'
          go_simp
          with_reducible rfl
        rotate_left
        · simp only [Act.put, List.setIfInBounds_toArray, List.set_cons_zero, List.set_cons_succ, i64_w, i32_w]
          rfl
        refine take_ (i := 30) (N := some 77) (v := ?_) (a' := ?_) #[true, true, true, true, true, true, true, true, true, true, true, true, true, true, true, true, true, true, true, true, true, true, true, true, true, true, true, true, true, true, true, false, false, false] rfl rfl (by kernel_rfl) (fun _ _ _ h => h) (Or.inl ⟨by rfl, ?_⟩) hHeld ?_ ?_
        rotate_left
        · rintro w' ⟨s0, s1, s2, s3, s4, s5, s6⟩
          go_simp
          with_reducible rfl
        rotate_left
        · simp only [Act.put, List.setIfInBounds_toArray, List.set_cons_zero, List.set_cons_succ, i64_w, i32_w]
          rfl
        refine last_ (i := 31) (N := some 78) #[true, true, true, true, true, true, true, true, true, true, true, true, true, true, true, true, true, true, true, true, true, true, true, true, true, true, true, true, true, true, true, true, false, false] rfl rfl (by kernel_rfl) (by decide) (fun K hK => ?_)
        refine goes_ Tryd.func23 (by kernel_rfl) rfl #[.slice Ax L cx, .slice A7 L c7] (by rfl) rfl rfl (by simp only [List.map_toArray, List.map_cons, List.map_nil]; rfl) ?_
        with_reducible refine (HSM.out _ (below_drew1 (Below.refl _ _))).mono ?_
        rintro e w7 ⟨rfl, hd7⟩
        have HD7 := Aside0.mk (below_step (below_drew1 (Below.refl W.heap.size W)) hd7.below)
        clear hd7
        refine ⟨_, rfl, ?_⟩
        refine hK.out _ _ ?_
        clear hK K
        refine norm_ (a' := ?_) ?_ ?_
        rotate_left
        · show Act.put _ (some 78) _ = _
          simp only [Act.put, List.setIfInBounds_toArray, List.set_cons_zero, List.set_cons_succ, i64_w, i32_w]
          rfl
        refine pure_ (i := 32) (N := some 79) (v := ?_) (a' := ?_) #[true, true, true, true, true, true, true, true, true, true, true, true, true, true, true, true, true, true, true, true, true, true, true, true, true, true, true, true, true, true, true, true, true, false] rfl rfl (by kernel_rfl) (fun _ _ _ h => h) (Or.inl ⟨by rfl, ?_⟩) ?_ ?_
        rotate_left
        · intro w'
          go_simp
          with_reducible rfl
        rotate_left
        · simp only [Act.put, List.setIfInBounds_toArray, List.set_cons_zero, List.set_cons_succ, i64_w, i32_w]
          rfl
        refine pure_ (i := 33) (N := some 80) (v := ?_) (a' := ?_) #[true, true, true, true, true, true, true, true, true, true, true, true, true, true, true, true, true, true, true, true, true, true, true, true, true, true, true, true, true, true, true, true, true, true] rfl rfl (by kernel_rfl) (fun _ _ _ h => h) (Or.inl ⟨by rfl, ?_⟩) ?_ ?_
        rotate_left
        · intro w'
          go_simp
          with_reducible rfl
        rotate_left
        · simp only [Act.put, List.setIfInBounds_toArray, List.set_cons_zero, List.set_cons_succ, i64_w, i32_w]
          rfl
        refine done_ (by kernel_rfl) ?_
        simp only [normOnly]
        clear hHeld
        have hR7 := Kd.R_below HX.out HD7.out
        have hbx7 := blk_below HBX.out HD7.out
        have hbn7 : Boxed w7 Bn 3 (.int .i64 j) := blk_below HBN.out HD7.out
        have q37 := pw_cell_below HD7.out q3
        have y1 := (blk_cell hbx7 1).trans rfl
        have HOV : Aside0 (OverE w5.heap.size w7 w7 Ax L cx) := ⟨OverE.start hR7⟩
        have HR7 := Aside0.mk hR7
        have HBX7 := Aside0.mk hbx7
        have HBN7 := Aside0.mk hbn7
        have HQ37 := Aside0.mk q37
        have hLb : (L : Int) ≤ 9223372036854775807 := by have h9 := (Kd.R_reads' hR7).1; have h8 := HE.out.short _ (show frN Ls j ∈ Ls from by unfold frN; rw [List.getD_eq_getElem?_getD, List.getElem?_eq_getElem (by have := HN1.out; omega)]; exact List.getElem_mem _); have h7 := HE.out.len; have h6 := HFR.out; rw [← h6] at h8; simp only at h8; omega
        clear hR7 hbx7 hbn7 q37 n0 y0 q3 q5 x0 x1 h0 h1 h2 HX HBX HBN bk bk2 hnk
        gi_wp2
        clear y1
        gi_loopw [14] (fun v14 wq => ∃ i2 : Nat, i2 ≤ L ∧ v14 = .int .i64 i2 ∧ Aside0 (OverE w5.heap.size w7 wq Ax L cx)) (fun v14 _ => L - (intOf v14).toNat)
        case atStart => exact ⟨0, Nat.zero_le _, rfl, HOV⟩
        case round =>
          clear HOV
          obtain ⟨i2, hi2, rfl, HI2⟩ := hrel
          have y1 := (blk_cell (HI2.out.blk HR7.out HBX7.out (by decide)) 1).trans rfl
          by_cases hlt2 : i2 < L
          · obtain ⟨g7, hg7, ⟨y7, k1⟩, k2, hnx⟩ := HI2.out.elem hlt2
            subst hg7
            have HNX := Aside0.mk hnx
            clear hnx HI2
            gi_wp2
            go_roundw
            case rel => exact ⟨i2 + 1, by omega, by go_num, HNX⟩
            case measure => simp [intOf]; omega
          · obtain rfl : i2 = L := by omega
            clear hi2
            have h5W : w5.heap.size ≤ w7.heap.size := Nat.le_trans HK.out.size HD7.out.size
            have hbr : Boxed wr Bn 3 (.int .i64 j) := HI2.out.blk HR7.out HBN7.out (by decide)
            have n0 := hbr.cell
            have y0 := hbr.frozen
            have q3 : wr.cell? ⟨w.heap.size, 0, none⟩ = some (.int .i64 stop) := by rw [World.cell?_of_block (HI2.out.low HR7.out (k := w.heap.size) (by have := HTOP.out; omega) h5W)]; exact HQ37.out
            have HKW : Aside0 (KeptE (fun k => w5.heap.size ≤ k) W wr) := ⟨(KeptE.of_below HD7.out).trans (HI2.out.above HR7.out) (fun k h => .inl h)⟩
            have HKO : Aside0 (KeepsOthers W wr) := ⟨(keepsOthers_below HD7.out).trans HI2.out.others⟩
            have HKR : Aside0 (KeptE (fun k => k = Bn) w5 wr) := ⟨HK.out.trans HKW.out (fun k h => .inr h)⟩
            have HBR := Aside0.mk hbr
            clear hbr HI2 HSM
            by_cases hst2 : (j : Int) = stop
            · have b9 : ((j : Int) == stop) = true := beq_iff_eq.mpr hst2
              clear hst2
              gi_wp2
              exact ⟨HKO.out.from _, rfl, ⟨_, HBR.out⟩, HKR.out⟩
            · have b9 : ((j : Int) == stop) = false := beq_eq_false_iff_ne.mpr hst2
              clear hst2
              gi_wp2
              have hln : ((pre ++ [((j, Ax, i2, cx) : EV)]).length : Int) = (j : Int) + 1 := by rw [List.length_append, ← HKP.out]; simp
              have hE5 := HEW.out.above HK.out (fun k hk => by rw [hk]; exact HTOP.out.1)
              refine ⟨(HKO.out.trans (KeepsOthers.setCell _ _ _)).from _, hE5.kpE (S := fun k => Bn ≤ k) (HKW.out.mono (fun k hk => by have := HTOP.out.2.1; omega) |>.trans (KeptE.set wr Bn 0 _) (fun k hk => .inl (by rw [hk]; exact Nat.le_refl _))) (fun k hk => Nat.le_trans HTOP.out.1 hk), ?_, HKR.out.trans (KeptE.set wr Bn 0 _) (fun k hk => .inl hk)⟩
              show Boxed _ Bn 3 (.int .i64 ((pre ++ [((j, Ax, i2, cx) : EV)]).length : Int))
              rw [hln]
              exact HBR.out.set _
      case rest =>
        rintro D W hD ⟨⟨v, hv⟩, hK⟩ hd
        have cB := hv.cell
        have fB := hv.frozen
        have hE5 := HEW.out.above hK (fun k hk => by rw [hk]; exact HTOP.out.1)
        obtain ⟨w6, hw6⟩ : ∃ w6, w6 = W.setCell ⟨Bn, 0, none⟩ (.int .i64 (0 : Int)) := ⟨_, rfl⟩
        have hKs := KeptE.set W Bn 0 (.int .i64 (0 : Int))
        have hE6 := hE5.above hKs (fun k hk => by rw [hk]; exact HTOP.out.1)
        have BN6 := hv.set (.int .i64 (0 : Int))
        have q9 : (W.setCell ⟨Bn, 0, none⟩ (.int .i64 (0 : Int))).cell? ⟨w3.heap.size, 0, none⟩ = some (.func (.func 44) #[] #[.pointer (some ⟨Bs, 0, none⟩)]) := hE6.s9.cell
        have hDl : D < W.heap.size := (Array.getElem?_eq_some_iff.1 hd).1
        have hd6 : (W.setCell ⟨Bn, 0, none⟩ (.int .i64 (0 : Int))).heap[D]? = some (.deferred (some [])) := (hKs.same D hDl (fun e => by have := HTOP.out.2.1; omega)).trans hd
        have hs6 : W.heap.size ≤ (W.setCell ⟨Bn, 0, none⟩ (.int .i64 (0 : Int))).heap.size := hKs.size
        have HK6 := Aside0.mk (hK.trans hKs (fun k h => .inl h))
        have HW6 := Aside0.mk hw6
        have HD6 : Aside0 (D < W.heap.size ∧ w5.heap.size ≤ D ∧ w5.heap.size ≤ W.heap.size) := ⟨hDl, hD, hK.size⟩
        have HDE := Aside0.mk hd6
        clear hE5 hv hK hKs hd hDl hw6 hcs hkb hq hD
        gi_wp2
        clear q9 cB fB
        rw [← HW6.out] at hE6 BN6 HK6 hs6 HDE
        rw [← HW6.out]
        clear HW6
        have HEW6 := Aside0.mk hE6
        have hcs : w6.cell? ⟨Bs, 0, none⟩ = some (.slice Ak l.length ck) := by rw [← HN.out]; exact hE6.cs
        have hkb : KB w6 w2.heap.size w3.heap.size (.slice Ak l.length ck) l := by rw [← HN.out]; exact hE6.kb
        have HT6 : Aside0 (w5.heap.size ≤ w6.heap.size ∧ D < w6.heap.size ∧ Bn < w6.heap.size) := ⟨by have := HD6.out; have := HTOP.out; omega⟩
        have hBB6 : w3.heap.size ≤ w6.heap.size := by have := HT6.out; omega
        have h6p : 0 < w6.heap.size := by have := HT6.out; omega
        clear hs6 hE6
        refine wpIn_rangeB_tail (id := 6) rfl (by omega) (gf := 44) (lb := #[.pointer (some ⟨Bs, 0, none⟩)]) rfl trivial (enters_of Tryd.func44 (by kernel_rfl) rfl)
          (each1_seq _ (by omega) Bs w2.heap.size w3.heap.size Ak ck l Ls w6 HBS.out.1 HBS.out.2.1 hBB6 HEW6.out.tb hcs hkb HE.out.len HE.out.bytes HE.out.ls) kpE_t (kpE_b hBB6 h6p) (Below.refl _ _) (fun _ => rfl)
          (fun pre W => Boxed W Bn 3 (.int .i64 (pre.length : Int)) ∧ KeptE (fun k => k = Bn) w6 W) (fun c pre W => False)
          (BxE Ls w6.heap.size) (OwnFrom.and (Own.from (boxed_own _ _ _) _) KeptE.ownFrom) (fun c s W W' row h _ _ => h) (fun pre x b => bxE_own _ _ _ _ _ _)
          ⟨BN6, KeptE.refl _ _⟩ ?a2 ?assign2 ?body2 (fun D2 W => Boxed W Bn 3 (.int .i64 (N1 : Int)) ∧ KeptE (fun k => k = Bn) w6 W) ?u1 ?u2 ?rest2
        case u1 => exact fun D2 xs W hD hS hi hd => ⟨by rw [HN1.out, ← hS]; exact hi.1, hi.2⟩
        case u2 => exact fun D2 c pre W hD hS hi hd => hi.elim
        case assign2 =>
          intro l' pre x W hl hi hy
          unfold encE
          have hWs := hi.2.size
          gi_wp2
          have hba := below_alloc (Below.refl W.heap.size W) (.cells #[.int .u8 (frN Ls x.1).f0, .slice x.2.1 x.2.2.1 x.2.2.2] 40)
          refine ⟨W.heap.size, ?_, (KeepsOthers.alloc W _).from _, KpE.of_below hba (Nat.le_trans hBB6 hWs) (Nat.lt_of_lt_of_le h6p hWs), ⟨hi.1.alloc _, hi.2.trans (KeptE.of_below (S := fun _ => False) hba) (fun _ h => h.elim)⟩, hWs, blk_new W _, hy.1, hy.2.1, Kd.R_below hy.2.2 hba⟩
          obtain ⟨b, hb⟩ : ∃ b, b = W.heap.size := ⟨_, rfl⟩
          rw [← hb]
        case body2 =>
          rintro lb preb ⟨jb, Axb, Lb, cxb⟩ bb Wb hl hr ⟨hbn, hK⟩ ⟨hbb, hbx, hj1, hj2, hxR⟩
          simp only at hbx hj1 hj2 hxR
          obtain ⟨k, hk⟩ : ∃ k, k = preb.length := ⟨_, rfl⟩
          obtain rfl : jb = k := hj1.trans hk.symm
          rw [← hk] at hbn
          have hE5 := HEW6.out.above hK (fun k hk => by rw [hk]; exact HTOP.out.1)
          have n0 := hbn.cell
          have y0 := hbn.frozen
          have q5 : Wb.cell? ⟨w1.heap.size, 0, none⟩ = some (.slice A1 N1 c1) := hE5.s5.cell
          have hC5 : Kd.C k44 Wb A1 N1 Ls := by have h := (Kd.R_reads' hE5.rows).2.2; rw [← HN1.out] at h; exact h
          have hjN : jb < N1 := by rw [HN1.out]; exact hj2
          obtain ⟨adb, A7b, c7b, hA, h0, h1, h2, hc7, hC7⟩ := at_T44 hC5 (jb : Int) (by omega) (by omega)
          subst hA
          rw [show rd_T44 Ls (jb : Int) = frN Ls jb from by unfold rd_T44 frN; rw [Int.toNat_natCast]] at h0 h1 h2 hc7 hC7
          rw [Int.toNat_natCast] at h0 h1 h2
          obtain ⟨⟨kdb, ldb, pab⟩, hfr⟩ : ∃ f, f = frN Ls jb := ⟨_, rfl⟩
          try dsimp only
          rw [← hfr] at h0 h1 h2 hc7 hC7 hbx hxR ⊢
          try dsimp only
          simp only at h0 h1 h2 hc7 hC7 hbx hxR
          have hLd : Lb = ldb.length := (Kd.R_reads' hxR).1
          have hcx := (Kd.R_reads' hxR).2.1
          have hCx := (Kd.R_reads' hxR).2.2
          have x0 := (blk_cell hbx 0).trans rfl
          have x1 := (blk_cell hbx 1).trans rfl
          have hsm := fun (W2 : World) (hb : Below Wb.heap.size Wb W2) => wicketlaw01_same.calls Axb cxb ldb A7b c7b ldb true W2 (Kd.C_below hCx hb) (by omega) (Kd.C_below hC7 hb) hc7 (same_ev ldb)
          rw [← hLd] at hsm h1
          have HSM := Aside0.mk hsm
          have HKLb := Aside0.mk hK
          have HKPb := Aside0.mk hk
          have HBNb := Aside0.mk hbn
          have HRLb := Aside0.mk hr
          have bk : decide ((jb : Int) ≥ (N1 : Int)) = false := decide_eq_false (by omega)
          have bk2 : decide (N1 ≤ jb) = false := decide_eq_false (by omega)
          have hnk : ¬ (N1 ≤ jb) := by omega
          have hkb2b : (jb : Int) ≤ 100000000 := by have h9 := HE.out.llen; have h8 := HE.out.len; have := HN1.out; omega
          clear hsm hxR hbx hK hk hbn hbb hE5 hC5 hcx hCx hC7 hc7 hj1 hj2 hLd hr
          gi_wp2
          refine startIn_ (n := 34) (S := fun w' => w'.cell? ⟨Bn, 0, none⟩ = some (.int .i64 jb) ∧ w'.cell? ⟨w1.heap.size, 0, none⟩ = some (.slice (some adb) N1 c1) ∧ w'.cell? ⟨bb, 0, none⟩ = some (.int .u8 kdb) ∧ w'.cell? ⟨bb, 1, none⟩ = some (.slice Axb Lb cxb) ∧ w'.cell? (adb.add (jb * 3)) = some (.int .u8 kdb) ∧ w'.cell? ⟨(adb.add (jb * 3)).block, (adb.add (jb * 3)).off + 1, none⟩ = some (.slice A7b Lb c7b) ∧ w'.cell? ⟨(adb.add (jb * 3)).block, (adb.add (jb * 3)).off + 2, none⟩ = some (.int .i64 pab)) (ds := [31]) #[false, false, false, false, false, false, false, false, false, false, false, false, false, false, false, false, false, false, false, false, false, false, false, false, false, false, false, false, false, false, false, false, false, false] (by kernel_rfl) rfl rfl ⟨n0, q5, x0, x1, h0, h1, h2⟩ (fun hHeld => ?_)
          refine take_ (i := 0) (N := some 100) (v := ?_) (a' := ?_) #[true, false, false, false, false, false, false, false, false, false, false, false, false, false, false, false, false, false, false, false, false, false, false, false, false, false, false, false, false, false, false, false, false, false] rfl rfl (by kernel_rfl) (fun _ _ _ h => h) (Or.inl ⟨by rfl, ?_⟩) hHeld ?_ ?_
          rotate_left
          · rintro w' ⟨s0, s1, s2, s3, s4, s5, s6⟩
            go_simp
            with_reducible rfl
          rotate_left
          · simp only [Act.put, List.setIfInBounds_toArray, List.set_cons_zero, List.set_cons_succ, i64_w, i32_w]
            rfl
          refine take_ (i := 1) (N := some 101) (v := ?_) (a' := ?_) #[true, true, false, false, false, false, false, false, false, false, false, false, false, false, false, false, false, false, false, false, false, false, false, false, false, false, false, false, false, false, false, false, false, false] rfl rfl (by kernel_rfl) (fun _ _ _ h => h) (Or.inl ⟨by rfl, ?_⟩) hHeld ?_ ?_
          rotate_left
          · rintro w' ⟨s0, s1, s2, s3, s4, s5, s6⟩
            go_simp
            with_reducible rfl
          rotate_left
          · simp only [Act.put, List.setIfInBounds_toArray, List.set_cons_zero, List.set_cons_succ, i64_w, i32_w]
            rfl
          refine pure_ (i := 2) (N := some 102) (v := ?_) (a' := ?_) #[true, true, true, false, false, false, false, false, false, false, false, false, false, false, false, false, false, false, false, false, false, false, false, false, false, false, false, false, false, false, false, false, false, false] rfl rfl (by kernel_rfl) (fun _ _ _ h => h) (Or.inl ⟨by rfl, ?_⟩) ?_ ?_
          rotate_left
          · intro w'
            go_simp
            with_reducible rfl
          rotate_left
          · simp only [Act.put, List.setIfInBounds_toArray, List.set_cons_zero, List.set_cons_succ, i64_w, i32_w]
            rfl
          refine pure_ (i := 3) (N := some 103) (v := ?_) (a' := ?_) #[true, true, true, true, false, false, false, false, false, false, false, false, false, false, false, false, false, false, false, false, false, false, false, false, false, false, false, false, false, false, false, false, false, false] rfl rfl (by kernel_rfl) (fun _ _ _ h => h) (Or.inl ⟨by rfl, ?_⟩) ?_ ?_
          rotate_left
          · intro w'
            go_simp
            with_reducible rfl
          rotate_left
          · simp only [Act.put, List.setIfInBounds_toArray, List.set_cons_zero, List.set_cons_succ, i64_w, i32_w]
            rfl
          refine pure_ (i := 4) (N := some 104) (v := ?_) (a' := ?_) #[true, true, true, true, true, false, false, false, false, false, false, false, false, false, false, false, false, false, false, false, false, false, false, false, false, false, false, false, false, false, false, false, false, false] rfl rfl (by kernel_rfl) (fun _ _ _ h => h) (Or.inl ⟨by rfl, ?_⟩) ?_ ?_
          rotate_left
          · intro w'
            go_simp
            with_reducible rfl
          rotate_left
          · simp only [Act.put, List.setIfInBounds_toArray, List.set_cons_zero, List.set_cons_succ, i64_w, i32_w]
            rfl
          refine pure_ (i := 5) (N := some 105) (v := ?_) (a' := ?_) #[true, true, true, true, true, true, false, false, false, false, false, false, false, false, false, false, false, false, false, false, false, false, false, false, false, false, false, false, false, false, false, false, false, false] rfl rfl (by kernel_rfl) (fun _ _ _ h => h) (Or.inl ⟨by rfl, ?_⟩) ?_ ?_
          rotate_left
          · intro w'
            go_simp
            with_reducible rfl
          rotate_left
          · simp only [Act.put, List.setIfInBounds_toArray, List.set_cons_zero, List.set_cons_succ, i64_w, i32_w]
            rfl
          refine take_ (i := 6) (N := some 106) (v := ?_) (a' := ?_) #[true, true, true, true, true, true, true, false, false, false, false, false, false, false, false, false, false, false, false, false, false, false, false, false, false, false, false, false, false, false, false, false, false, false] rfl rfl (by kernel_rfl) (fun _ _ _ h => h) (Or.inl ⟨by rfl, ?_⟩) hHeld ?_ ?_
          rotate_left
          · rintro w' ⟨s0, s1, s2, s3, s4, s5, s6⟩
            go_simp
            with_reducible rfl
          rotate_left
          · simp only [Act.put, List.setIfInBounds_toArray, List.set_cons_zero, List.set_cons_succ, i64_w, i32_w]
            rfl
          refine take_ (i := 7) (N := some 107) (v := ?_) (a' := ?_) #[true, true, true, true, true, true, true, true, false, false, false, false, false, false, false, false, false, false, false, false, false, false, false, false, false, false, false, false, false, false, false, false, false, false] rfl rfl (by kernel_rfl) (fun _ _ _ h => h) (Or.inl ⟨by rfl, ?_⟩) hHeld ?_ ?_
          rotate_left
          · rintro w' ⟨s0, s1, s2, s3, s4, s5, s6⟩
            go_simp
            with_reducible rfl
          rotate_left
          · simp only [Act.put, List.setIfInBounds_toArray, List.set_cons_zero, List.set_cons_succ, i64_w, i32_w]
            rfl
          refine pure_ (i := 8) (N := some 108) (v := ?_) (a' := ?_) #[true, true, true, true, true, true, true, true, true, false, false, false, false, false, false, false, false, false, false, false, false, false, false, false, false, false, false, false, false, false, false, false, false, false] rfl rfl (by kernel_rfl) (fun _ _ _ h => h) (Or.inl ⟨by rfl, ?_⟩) ?_ ?_
          rotate_left
          · intro w'
            go_simp
            with_reducible rfl
          rotate_left
          · simp only [Act.put, List.setIfInBounds_toArray, List.set_cons_zero, List.set_cons_succ, i64_w, i32_w]
            rfl
          refine pure_ (i := 9) (N := some 109) (v := ?_) (a' := ?_) #[true, true, true, true, true, true, true, true, true, true, false, false, false, false, false, false, false, false, false, false, false, false, false, false, false, false, false, false, false, false, false, false, false, false] rfl rfl (by kernel_rfl) (fun _ _ _ h => h) (Or.inl ⟨by rfl, ?_⟩) ?_ ?_
          rotate_left
          · intro w'
            go_simp
            with_reducible rfl
          rotate_left
          · simp only [Act.put, List.setIfInBounds_toArray, List.set_cons_zero, List.set_cons_succ, i64_w, i32_w]
            rfl
          refine take_ (i := 10) (N := some 110) (v := ?_) (a' := ?_) #[true, true, true, true, true, true, true, true, true, true, true, false, false, false, false, false, false, false, false, false, false, false, false, false, false, false, false, false, false, false, false, false, false, false] rfl rfl (by kernel_rfl) (fun _ _ _ h => h) (Or.inl ⟨by rfl, ?_⟩) hHeld ?_ ?_
          rotate_left
          · rintro w' ⟨s0, s1, s2, s3, s4, s5, s6⟩
            go_simp
            with_reducible rfl
          rotate_left
          · simp only [Act.put, List.setIfInBounds_toArray, List.set_cons_zero, List.set_cons_succ, i64_w, i32_w]
            rfl
          refine pure_ (i := 11) (N := some 111) (v := ?_) (a' := ?_) #[true, true, true, true, true, true, true, true, true, true, true, true, false, false, false, false, false, false, false, false, false, false, false, false, false, false, false, false, false, false, false, false, false, false] rfl rfl (by kernel_rfl) (fun _ _ _ h => h) (Or.inl ⟨by rfl, ?_⟩) ?_ ?_
          rotate_left
          · intro w'
            go_simp
            with_reducible rfl
          rotate_left
          · simp only [Act.put, List.setIfInBounds_toArray, List.set_cons_zero, List.set_cons_succ, i64_w, i32_w]
            rfl
          refine pure_ (i := 12) (N := some 112) (v := ?_) (a' := ?_) #[true, true, true, true, true, true, true, true, true, true, true, true, true, false, false, false, false, false, false, false, false, false, false, false, false, false, false, false, false, false, false, false, false, false] rfl rfl (by kernel_rfl) (fun _ _ _ h => h) (Or.inl ⟨by rfl, ?_⟩) ?_ ?_
          rotate_left
          · intro w'
            go_simp
            with_reducible rfl
          rotate_left
          · simp only [Act.put, List.setIfInBounds_toArray, List.set_cons_zero, List.set_cons_succ, i64_w, i32_w]
            rfl
          refine pure_ (i := 13) (N := some 113) (v := ?_) (a' := ?_) #[true, true, true, true, true, true, true, true, true, true, true, true, true, true, false, false, false, false, false, false, false, false, false, false, false, false, false, false, false, false, false, false, false, false] rfl rfl (by kernel_rfl) (fun _ _ _ h => h) (Or.inl ⟨by rfl, ?_⟩) ?_ ?_
          rotate_left
          · intro w'
            go_simp
            with_reducible rfl
          rotate_left
          · simp only [Act.put, List.setIfInBounds_toArray, List.set_cons_zero, List.set_cons_succ, i64_w, i32_w]
            rfl
          refine pure_ (i := 14) (N := some 114) (v := ?_) (a' := ?_) #[true, true, true, true, true, true, true, true, true, true, true, true, true, true, true, false, false, false, false, false, false, false, false, false, false, false, false, false, false, false, false, false, false, false] rfl rfl (by kernel_rfl) (fun _ _ _ h => h) (Or.inl ⟨by rfl, ?_⟩) ?_ ?_
          rotate_left
          · intro w'
            go_simp
            with_reducible rfl
          rotate_left
          · simp only [Act.put, List.setIfInBounds_toArray, List.set_cons_zero, List.set_cons_succ, i64_w, i32_w]
            rfl
          refine take_ (i := 15) (N := some 115) (v := ?_) (a' := ?_) #[true, true, true, true, true, true, true, true, true, true, true, true, true, true, true, true, false, false, false, false, false, false, false, false, false, false, false, false, false, false, false, false, false, false] rfl rfl (by kernel_rfl) (fun _ _ _ h => h) (Or.inl ⟨by rfl, ?_⟩) hHeld ?_ ?_
          rotate_left
          · rintro w' ⟨s0, s1, s2, s3, s4, s5, s6⟩
            go_simp
            with_reducible rfl
          rotate_left
          · simp only [Act.put, List.setIfInBounds_toArray, List.set_cons_zero, List.set_cons_succ, i64_w, i32_w]
            rfl
          refine take_ (i := 16) (N := some 116) (v := ?_) (a' := ?_) #[true, true, true, true, true, true, true, true, true, true, true, true, true, true, true, true, true, false, false, false, false, false, false, false, false, false, false, false, false, false, false, false, false, false] rfl rfl (by kernel_rfl) (fun _ _ _ h => h) (Or.inl ⟨by rfl, ?_⟩) hHeld ?_ ?_
          rotate_left
          · rintro w' ⟨s0, s1, s2, s3, s4, s5, s6⟩
            go_simp
            with_reducible rfl
          rotate_left
          · simp only [Act.put, List.setIfInBounds_toArray, List.set_cons_zero, List.set_cons_succ, i64_w, i32_w]
            rfl
          refine take_ (i := 17) (N := some 117) (v := ?_) (a' := ?_) #[true, true, true, true, true, true, true, true, true, true, true, true, true, true, true, true, true, true, false, false, false, false, false, false, false, false, false, false, false, false, false, false, false, false] rfl rfl (by kernel_rfl) (fun _ _ _ h => h) (Or.inl ⟨by rfl, ?_⟩) hHeld ?_ ?_
          rotate_left
          · rintro w' ⟨s0, s1, s2, s3, s4, s5, s6⟩
            go_simp
            with_reducible rfl
          rotate_left
          · simp only [Act.put, List.setIfInBounds_toArray, List.set_cons_zero, List.set_cons_succ, i64_w, i32_w]
            rfl
          refine pure_ (i := 18) (N := some 118) (v := ?_) (a' := ?_) #[true, true, true, true, true, true, true, true, true, true, true, true, true, true, true, true, true, true, true, false, false, false, false, false, false, false, false, false, false, false, false, false, false, false] rfl rfl (by kernel_rfl) (fun _ _ _ h => h) (Or.inl ⟨by rfl, ?_⟩) ?_ ?_
          rotate_left
          · intro w'
            go_simp
            with_reducible rfl
          rotate_left
          · simp only [Act.put, List.setIfInBounds_toArray, List.set_cons_zero, List.set_cons_succ, i64_w, i32_w]
            rfl
          refine pure_ (i := 19) (N := some 119) (v := ?_) (a' := ?_) #[true, true, true, true, true, true, true, true, true, true, true, true, true, true, true, true, true, true, true, true, false, false, false, false, false, false, false, false, false, false, false, false, false, false] rfl rfl (by kernel_rfl) (fun _ _ _ h => h) (Or.inl ⟨by rfl, ?_⟩) ?_ ?_
          rotate_left
          · intro w'
            go_simp
            with_reducible rfl
          rotate_left
          · simp only [Act.put, List.setIfInBounds_toArray, List.set_cons_zero, List.set_cons_succ, i64_w, i32_w]
            rfl
          refine take_ (i := 20) (N := some 120) (v := ?_) (a' := ?_) #[true, true, true, true, true, true, true, true, true, true, true, true, true, true, true, true, true, true, true, true, true, false, false, false, false, false, false, false, false, false, false, false, false, false] rfl rfl (by kernel_rfl) (fun _ _ _ h => h) (Or.inl ⟨by rfl, ?_⟩) hHeld ?_ ?_
          rotate_left
          · rintro w' ⟨s0, s1, s2, s3, s4, s5, s6⟩
            go_simp
            with_reducible rfl
          rotate_left
          · simp only [Act.put, List.setIfInBounds_toArray, List.set_cons_zero, List.set_cons_succ, i64_w, i32_w]
            rfl
          refine pure_ (i := 21) (N := some 121) (v := ?_) (a' := ?_) #[true, true, true, true, true, true, true, true, true, true, true, true, true, true, true, true, true, true, true, true, true, true, false, false, false, false, false, false, false, false, false, false, false, false] rfl rfl (by kernel_rfl) (fun _ _ _ h => h) (Or.inl ⟨by rfl, ?_⟩) ?_ ?_
          rotate_left
          · intro w'
            go_simp
            with_reducible rfl
          rotate_left
          · simp only [Act.put, List.setIfInBounds_toArray, List.set_cons_zero, List.set_cons_succ, i64_w, i32_w]
            rfl
          refine pure_ (i := 22) (N := some 122) (v := ?_) (a' := ?_) #[true, true, true, true, true, true, true, true, true, true, true, true, true, true, true, true, true, true, true, true, true, true, true, false, false, false, false, false, false, false, false, false, false, false] rfl rfl (by kernel_rfl) (fun _ _ _ h => h) (Or.inl ⟨by rfl, ?_⟩) ?_ ?_
          rotate_left
          · intro w'
            go_simp
            with_reducible rfl
          rotate_left
          · simp only [Act.put, List.setIfInBounds_toArray, List.set_cons_zero, List.set_cons_succ, i64_w, i32_w]
            rfl
          refine pure_ (i := 23) (N := some 123) (v := ?_) (a' := ?_) #[true, true, true, true, true, true, true, true, true, true, true, true, true, true, true, true, true, true, true, true, true, true, true, true, false, false, false, false, false, false, false, false, false, false] rfl rfl (by kernel_rfl) (fun _ _ _ h => h) (Or.inl ⟨by rfl, ?_⟩) ?_ ?_
          rotate_left
          · intro w'
            go_simp
            with_reducible rfl
          rotate_left
          · simp only [Act.put, List.setIfInBounds_toArray, List.set_cons_zero, List.set_cons_succ, i64_w, i32_w]
            rfl
          refine pure_ (i := 24) (N := some 124) (v := ?_) (a' := ?_) #[true, true, true, true, true, true, true, true, true, true, true, true, true, true, true, true, true, true, true, true, true, true, true, true, true, false, false, false, false, false, false, false, false, false] rfl rfl (by kernel_rfl) (fun _ _ _ h => h) (Or.inl ⟨by rfl, ?_⟩) ?_ ?_
          rotate_left
          · intro w'
            go_simp
            with_reducible rfl
          rotate_left
          · simp only [Act.put, List.setIfInBounds_toArray, List.set_cons_zero, List.set_cons_succ, i64_w, i32_w]
            rfl
          refine take_ (i := 25) (N := some 125) (v := ?_) (a' := ?_) #[true, true, true, true, true, true, true, true, true, true, true, true, true, true, true, true, true, true, true, true, true, true, true, true, true, true, false, false, false, false, false, false, false, false] rfl rfl (by kernel_rfl) (fun _ _ _ h => h) (Or.inl ⟨by rfl, ?_⟩) hHeld ?_ ?_
          rotate_left
          · rintro w' ⟨s0, s1, s2, s3, s4, s5, s6⟩
            go_simp
            with_reducible rfl
          rotate_left
          · simp only [Act.put, List.setIfInBounds_toArray, List.set_cons_zero, List.set_cons_succ, i64_w, i32_w]
            rfl
          refine take_ (i := 26) (N := some 126) (v := ?_) (a' := ?_) #[true, true, true, true, true, true, true, true, true, true, true, true, true, true, true, true, true, true, true, true, true, true, true, true, true, true, true, false, false, false, false, false, false, false] rfl rfl (by kernel_rfl) (fun _ _ _ h => h) (Or.inl ⟨by rfl, ?_⟩) hHeld ?_ ?_
          rotate_left
          · rintro w' ⟨s0, s1, s2, s3, s4, s5, s6⟩
            go_simp
            with_reducible rfl
          rotate_left
          · simp only [Act.put, List.setIfInBounds_toArray, List.set_cons_zero, List.set_cons_succ, i64_w, i32_w]
            rfl
          refine take_ (i := 27) (N := some 127) (v := ?_) (a' := ?_) #[true, true, true, true, true, true, true, true, true, true, true, true, true, true, true, true, true, true, true, true, true, true, true, true, true, true, true, true, false, false, false, false, false, false] rfl rfl (by kernel_rfl) (fun _ _ _ h => h) (Or.inl ⟨by rfl, ?_⟩) hHeld ?_ ?_
          rotate_left
          · rintro w' ⟨s0, s1, s2, s3, s4, s5, s6⟩
            go_simp
            with_reducible rfl
          rotate_left
          · simp only [Act.put, List.setIfInBounds_toArray, List.set_cons_zero, List.set_cons_succ, i64_w, i32_w]
            rfl
          refine pure_ (i := 28) (N := some 128) (v := ?_) (a' := ?_) #[true, true, true, true, true, true, true, true, true, true, true, true, true, true, true, true, true, true, true, true, true, true, true, true, true, true, true, true, true, false, false, false, false, false] rfl rfl (by kernel_rfl) (fun _ _ _ h => h) (Or.inl ⟨by rfl, ?_⟩) ?_ ?_
          rotate_left
          · intro w'
            go_simp
            with_reducible rfl
          rotate_left
          · simp only [Act.put, List.setIfInBounds_toArray, List.set_cons_zero, List.set_cons_succ, i64_w, i32_w]
            rfl
          refine pure_ (i := 29) (N := some 129) (v := ?_) (a' := ?_) #[true, true, true, true, true, true, true, true, true, true, true, true, true, true, true, true, true, true, true, true, true, true, true, true, true, true, true, true, true, true, false, false, false, false] rfl rfl (by kernel_rfl) (fun _ _ _ h => h) (Or.inl ⟨by rfl, ?_⟩) ?_ ?_
          rotate_left
          · intro w'
            go_simp
            with_reducible rfl
          rotate_left
          · simp only [Act.put, List.setIfInBounds_toArray, List.set_cons_zero, List.set_cons_succ, i64_w, i32_w]
            rfl
          refine take_ (i := 30) (N := some 130) (v := ?_) (a' := ?_) #[true, true, true, true, true, true, true, true, true, true, true, true, true, true, true, true, true, true, true, true, true, true, true, true, true, true, true, true, true, true, true, false, false, false] rfl rfl (by kernel_rfl) (fun _ _ _ h => h) (Or.inl ⟨by rfl, ?_⟩) hHeld ?_ ?_
          rotate_left
          · rintro w' ⟨s0, s1, s2, s3, s4, s5, s6⟩
            go_simp
            with_reducible rfl
          rotate_left
          · simp only [Act.put, List.setIfInBounds_toArray, List.set_cons_zero, List.set_cons_succ, i64_w, i32_w]
            rfl
          refine last_ (i := 31) (N := some 131) #[true, true, true, true, true, true, true, true, true, true, true, true, true, true, true, true, true, true, true, true, true, true, true, true, true, true, true, true, true, true, true, true, false, false] rfl rfl (by kernel_rfl) (by decide) (fun K hK => ?_)
          refine goes_ Tryd.func23 (by kernel_rfl) rfl #[.slice Axb Lb cxb, .slice A7b Lb c7b] (by rfl) rfl rfl (by simp only [List.map_toArray, List.map_cons, List.map_nil]; rfl) ?_
          with_reducible refine (HSM.out _ (below_drew1 (Below.refl _ _))).mono ?_
          rintro e w7b ⟨rfl, hd7⟩
          have HD7b := Aside0.mk (below_step (below_drew1 (Below.refl Wb.heap.size Wb)) hd7.below)
          clear hd7
          refine ⟨_, rfl, ?_⟩
          refine hK.out _ _ ?_
          clear hK K
          refine norm_ (a' := ?_) ?_ ?_
          rotate_left
          · show Act.put _ (some 131) _ = _
            simp only [Act.put, List.setIfInBounds_toArray, List.set_cons_zero, List.set_cons_succ, i64_w, i32_w]
            rfl
          refine pure_ (i := 32) (N := some 132) (v := ?_) (a' := ?_) #[true, true, true, true, true, true, true, true, true, true, true, true, true, true, true, true, true, true, true, true, true, true, true, true, true, true, true, true, true, true, true, true, true, false] rfl rfl (by kernel_rfl) (fun _ _ _ h => h) (Or.inl ⟨by rfl, ?_⟩) ?_ ?_
          rotate_left
          · intro w'
            go_simp
            with_reducible rfl
          rotate_left
          · simp only [Act.put, List.setIfInBounds_toArray, List.set_cons_zero, List.set_cons_succ, i64_w, i32_w]
            rfl
          refine pure_ (i := 33) (N := some 133) (v := ?_) (a' := ?_) #[true, true, true, true, true, true, true, true, true, true, true, true, true, true, true, true, true, true, true, true, true, true, true, true, true, true, true, true, true, true, true, true, true, true] rfl rfl (by kernel_rfl) (fun _ _ _ h => h) (Or.inl ⟨by rfl, ?_⟩) ?_ ?_
          rotate_left
          · intro w'
            go_simp
            with_reducible rfl
          rotate_left
          · simp only [Act.put, List.setIfInBounds_toArray, List.set_cons_zero, List.set_cons_succ, i64_w, i32_w]
            rfl
          refine done_ (by kernel_rfl) ?_
          simp only [normOnly]
          clear hHeld
          have hbn7 : Boxed w7b Bn 3 (.int .i64 jb) := blk_below HBNb.out HD7b.out
          have n0 := hbn7.cell
          have y0 := hbn7.frozen
          have hK7 : KeptE (fun k => k = Bn) w6 w7b := HKLb.out.trans (KeptE.of_below (S := fun _ => False) HD7b.out) (fun _ h => h.elim)
          have hE7 := HEW6.out.above hK7 (fun k hk => by rw [hk]; exact HTOP.out.1)
          have HK7 := Aside0.mk hK7
          have HE7 := Aside0.mk hE7
          have HB7 := Aside0.mk hbn7
          clear hbn7 hK7 hE7 q5 x0 x1 h0 h1 h2 bk bk2 hnk HSM
          have HFRb := Aside0.mk hfr
          clear hfr
          by_cases h3 : jb < 3
          · have b3 : decide ((jb : Int) < 3) = true := decide_eq_true (by omega)
            obtain ⟨w9, hw9⟩ : ∃ w9, w9 = w7b.alloc (.cells #[.int .i64 0] 3) := ⟨_, rfl⟩
            obtain ⟨Bm, hBm⟩ : ∃ Bm, Bm = w7b.heap.size := ⟨_, rfl⟩
            have hb79 : Below w7b.heap.size w7b w9 := by rw [hw9]; exact below_alloc (Below.refl _ _) _
            have BM : Boxed w9 Bm 3 (.int .i64 0) := by rw [hw9, hBm]; exact Boxed.new _ _ _
            have hs9 : w9.heap.size = Bm + 1 := by rw [hw9, hBm]; simp
            have q9 := (HE7.out.s9.alloc (.cells #[.int .i64 0] 3)).cell
            simp only at q9
            have hE9 := HE7.out.above (KeptE.of_below (S := fun _ => False) hb79) (fun _ h => h.elim)
            have hKB9 : KeptE (fun k => Wb.heap.size ≤ k) Wb w9 := KeptE.of_below (below_step HD7b.out hb79)
            have HW9 := Aside0.mk hw9
            have HBM := Aside0.mk hBm
            have HM := Aside0.mk BM
            have hmt : w3'.heap.size ≤ Bm := by rw [hBm]; exact HE7.out.size
            have hmb : Wb.heap.size ≤ Bm := by rw [hBm]; exact HD7b.out.size
            have HMT : Aside0 (w3'.heap.size ≤ Bm ∧ w9.heap.size = Bm + 1 ∧ Wb.heap.size ≤ Bm) := ⟨hmt, hs9, hmb⟩
            have hlo : ∃ r, w9.heap[lb]? = some (.loop r) := by
              obtain ⟨r, hr⟩ := HRLb.out
              exact ⟨r, (hKB9.same lb (Array.getElem?_eq_some_iff.1 hr).1 (by have := (Array.getElem?_eq_some_iff.1 hr).1; omega)).trans hr⟩
            have HKB9 := Aside0.mk hKB9
            clear hw9 hBm hb79 BM hs9 hmt hmb hKB9 h3
            gi_wp2
            clear q9 n0 y0
            rw [← HW9.out, ← HBM.out]
            clear HW9 HBM
            obtain ⟨r9, hlo⟩ := hlo
            have HEW9 := Aside0.mk hE9
            have hcs : w9.cell? ⟨Bs, 0, none⟩ = some (.slice Ak l.length ck) := by rw [← HN.out]; exact hE9.cs
            have hkb : KB w9 w2.heap.size w3.heap.size (.slice Ak l.length ck) l := by rw [← HN.out]; exact hE9.kb
            have hBB9 : w3.heap.size ≤ w9.heap.size := by have := HMT.out; have := HTOP.out; omega
            have h9p : 0 < w9.heap.size := by have := HMT.out; omega
            clear hE9
            refine wpIn_rangeB_inner rfl hlo (by omega) (gf := 44) (lb := #[.pointer (some ⟨Bs, 0, none⟩)]) rfl trivial (enters_of Tryd.func44 (by kernel_rfl) rfl)
              (seqY_inRound _ (each1_seq _ (by omega) Bs w2.heap.size w3.heap.size Ak ck l Ls w9 HBS.out.1 HBS.out.2.1 hBB9 HEW9.out.tb hcs hkb HE.out.len HE.out.bytes HE.out.ls)) kpE_t (kpE_b hBB9 h9p) (Below.refl _ _) (fun _ => rfl)
              (fun pre W => Boxed W Bm 3 (.int .i64 (pre.length : Int)) ∧ KeptE (fun k => k = Bm) w9 W) (fun c pre W => False)
              (BxE Ls w9.heap.size) (OwnFrom.and (Own.from (boxed_own _ _ _) _) KeptE.ownFrom) (fun c s W W' row h _ _ => h) (fun pre x b => bxE_own _ _ _ _ _ _)
              ⟨HM.out, KeptE.refl _ _⟩ ?a3 ?assign3 ?body3 ?done3 ?stop3
            case stop3 => exact fun c pre W hS hi => hi.elim
            case assign3 =>
              intro l' pre x W hl hi hy
              unfold encE
              have hWs := hi.2.size
              gi_wp2
              have hba := below_alloc (Below.refl W.heap.size W) (.cells #[.int .u8 (frN Ls x.1).f0, .slice x.2.1 x.2.2.1 x.2.2.2] 40)
              refine ⟨W.heap.size, ?_, (KeepsOthers.alloc W _).from _, KpE.of_below hba (Nat.le_trans hBB9 hWs) (Nat.lt_of_lt_of_le h9p hWs), ⟨hi.1.alloc _, hi.2.trans (KeptE.of_below (S := fun _ => False) hba) (fun _ h => h.elim)⟩, hWs, blk_new W _, hy.1, hy.2.1, Kd.R_below hy.2.2 hba⟩
              obtain ⟨b, hb⟩ : ∃ b, b = W.heap.size := ⟨_, rfl⟩
              rw [← hb]
            case body3 =>
              rintro lc prec ⟨jc, Axc, Lc, cxc⟩ bc Wc hl hr ⟨hbn, hK⟩ ⟨hbb, hbx, hj1, hj2, hxR⟩
              simp only at hbx hj1 hj2 hxR
              obtain ⟨k, hk⟩ : ∃ k, k = prec.length := ⟨_, rfl⟩
              obtain rfl : jc = k := hj1.trans hk.symm
              rw [← hk] at hbn
              have hE5 := HEW9.out.above hK (fun k hk => by rw [hk]; exact HMT.out.1)
              have n0 := hbn.cell
              have y0 := hbn.frozen
              have q5 : Wc.cell? ⟨w1.heap.size, 0, none⟩ = some (.slice (some adb) N1 c1) := hE5.s5.cell
              have hC5 : Kd.C k44 Wc (some adb) N1 Ls := by have h := (Kd.R_reads' hE5.rows).2.2; rw [← HN1.out] at h; exact h
              have hjN : jc < N1 := by rw [HN1.out]; exact hj2
              obtain ⟨adc, A7c, c7c, hA, h0, h1, h2, hc7, hC7⟩ := at_T44 hC5 (jc : Int) (by omega) (by omega)
              injection hA with hA
              subst hA
              rw [show rd_T44 Ls (jc : Int) = frN Ls jc from by unfold rd_T44 frN; rw [Int.toNat_natCast]] at h0 h1 h2 hc7 hC7
              rw [Int.toNat_natCast] at h0 h1 h2
              obtain ⟨⟨kdc, ldc, pac⟩, hfr⟩ : ∃ f, f = frN Ls jc := ⟨_, rfl⟩
              try dsimp only
              rw [← hfr] at h0 h1 h2 hc7 hC7 hbx hxR ⊢
              try dsimp only
              simp only at h0 h1 h2 hc7 hC7 hbx hxR
              have hLd : Lc = ldc.length := (Kd.R_reads' hxR).1
              have hcx := (Kd.R_reads' hxR).2.1
              have hCx := (Kd.R_reads' hxR).2.2
              have x0 := (blk_cell hbx 0).trans rfl
              have x1 := (blk_cell hbx 1).trans rfl
              have hsm := fun (W2 : World) (hb : Below Wc.heap.size Wc W2) => wicketlaw01_same.calls Axc cxc ldc A7c c7c ldc true W2 (Kd.C_below hCx hb) (by omega) (Kd.C_below hC7 hb) hc7 (same_ev ldc)
              rw [← hLd] at hsm h1
              have HSM := Aside0.mk hsm
              have HKLc := Aside0.mk hK
              have HKPc := Aside0.mk hk
              have HBNc := Aside0.mk hbn
              have HRLc := Aside0.mk hr
              have bk : decide ((jc : Int) ≥ (N1 : Int)) = false := decide_eq_false (by omega)
              have bk2 : decide (N1 ≤ jc) = false := decide_eq_false (by omega)
              have hnk : ¬ (N1 ≤ jc) := by omega
              have hkb2c : (jc : Int) ≤ 100000000 := by have h9 := HE.out.llen; have h8 := HE.out.len; have := HN1.out; omega
              clear hsm hxR hbx hK hk hbn hbb hE5 hC5 hcx hCx hC7 hc7 hj1 hj2 hLd hr
              gi_wp2
              refine startIn_ (n := 24) (S := fun w' => w'.cell? ⟨Bm, 0, none⟩ = some (.int .i64 jc) ∧ w'.cell? ⟨w1.heap.size, 0, none⟩ = some (.slice (some adb) N1 c1) ∧ w'.cell? ⟨bc, 1, none⟩ = some (.slice Axc Lc cxc) ∧ w'.cell? ⟨(adb.add (jc * 3)).block, (adb.add (jc * 3)).off + 1, none⟩ = some (.slice A7c Lc c7c) ∧ w'.cell? ⟨(adb.add (jc * 3)).block, (adb.add (jc * 3)).off + 2, none⟩ = some (.int .i64 pac)) (ds := [21]) #[false, false, false, false, false, false, false, false, false, false, false, false, false, false, false, false, false, false, false, false, false, false, false, false] (by kernel_rfl) rfl rfl ⟨n0, q5, x1, h1, h2⟩ (fun hHeld => ?_)
              refine take_ (i := 0) (N := some 139) (v := ?_) (a' := ?_) #[true, false, false, false, false, false, false, false, false, false, false, false, false, false, false, false, false, false, false, false, false, false, false, false] rfl rfl (by kernel_rfl) (fun _ _ _ h => h) (Or.inl ⟨by rfl, ?_⟩) hHeld ?_ ?_
              rotate_left
              · rintro w' ⟨s0, s1, s2, s3, s4⟩
                go_simp
                with_reducible rfl
              rotate_left
              · simp only [Act.put, List.setIfInBounds_toArray, List.set_cons_zero, List.set_cons_succ, i64_w, i32_w]
                rfl
              refine take_ (i := 1) (N := some 140) (v := ?_) (a' := ?_) #[true, true, false, false, false, false, false, false, false, false, false, false, false, false, false, false, false, false, false, false, false, false, false, false] rfl rfl (by kernel_rfl) (fun _ _ _ h => h) (Or.inl ⟨by rfl, ?_⟩) hHeld ?_ ?_
              rotate_left
              · rintro w' ⟨s0, s1, s2, s3, s4⟩
                go_simp
                with_reducible rfl
              rotate_left
              · simp only [Act.put, List.setIfInBounds_toArray, List.set_cons_zero, List.set_cons_succ, i64_w, i32_w]
                rfl
              refine pure_ (i := 2) (N := some 141) (v := ?_) (a' := ?_) #[true, true, true, false, false, false, false, false, false, false, false, false, false, false, false, false, false, false, false, false, false, false, false, false] rfl rfl (by kernel_rfl) (fun _ _ _ h => h) (Or.inl ⟨by rfl, ?_⟩) ?_ ?_
              rotate_left
              · intro w'
                go_simp
                with_reducible rfl
              rotate_left
              · simp only [Act.put, List.setIfInBounds_toArray, List.set_cons_zero, List.set_cons_succ, i64_w, i32_w]
                rfl
              refine pure_ (i := 3) (N := some 142) (v := ?_) (a' := ?_) #[true, true, true, true, false, false, false, false, false, false, false, false, false, false, false, false, false, false, false, false, false, false, false, false] rfl rfl (by kernel_rfl) (fun _ _ _ h => h) (Or.inl ⟨by rfl, ?_⟩) ?_ ?_
              rotate_left
              · intro w'
                go_simp
                with_reducible rfl
              rotate_left
              · simp only [Act.put, List.setIfInBounds_toArray, List.set_cons_zero, List.set_cons_succ, i64_w, i32_w]
                rfl
              refine pure_ (i := 4) (N := some 143) (v := ?_) (a' := ?_) #[true, true, true, true, true, false, false, false, false, false, false, false, false, false, false, false, false, false, false, false, false, false, false, false] rfl rfl (by kernel_rfl) (fun _ _ _ h => h) (Or.inl ⟨by rfl, ?_⟩) ?_ ?_
              rotate_left
              · intro w'
                go_simp
                with_reducible rfl
              rotate_left
              · simp only [Act.put, List.setIfInBounds_toArray, List.set_cons_zero, List.set_cons_succ, i64_w, i32_w]
                rfl
              refine pure_ (i := 5) (N := some 144) (v := ?_) (a' := ?_) #[true, true, true, true, true, true, false, false, false, false, false, false, false, false, false, false, false, false, false, false, false, false, false, false] rfl rfl (by kernel_rfl) (fun _ _ _ h => h) (Or.inl ⟨by rfl, ?_⟩) ?_ ?_
              rotate_left
              · intro w'
                go_simp
                with_reducible rfl
              rotate_left
              · simp only [Act.put, List.setIfInBounds_toArray, List.set_cons_zero, List.set_cons_succ, i64_w, i32_w]
                rfl
              refine take_ (i := 6) (N := some 145) (v := ?_) (a' := ?_) #[true, true, true, true, true, true, true, false, false, false, false, false, false, false, false, false, false, false, false, false, false, false, false, false] rfl rfl (by kernel_rfl) (fun _ _ _ h => h) (Or.inl ⟨by rfl, ?_⟩) hHeld ?_ ?_
              rotate_left
              · rintro w' ⟨s0, s1, s2, s3, s4⟩
                go_simp
                with_reducible rfl
              rotate_left
              · simp only [Act.put, List.setIfInBounds_toArray, List.set_cons_zero, List.set_cons_succ, i64_w, i32_w]
                rfl
              refine take_ (i := 7) (N := some 146) (v := ?_) (a' := ?_) #[true, true, true, true, true, true, true, true, false, false, false, false, false, false, false, false, false, false, false, false, false, false, false, false] rfl rfl (by kernel_rfl) (fun _ _ _ h => h) (Or.inl ⟨by rfl, ?_⟩) hHeld ?_ ?_
              rotate_left
              · rintro w' ⟨s0, s1, s2, s3, s4⟩
                go_simp
                with_reducible rfl
              rotate_left
              · simp only [Act.put, List.setIfInBounds_toArray, List.set_cons_zero, List.set_cons_succ, i64_w, i32_w]
                rfl
              refine pure_ (i := 8) (N := some 147) (v := ?_) (a' := ?_) #[true, true, true, true, true, true, true, true, true, false, false, false, false, false, false, false, false, false, false, false, false, false, false, false] rfl rfl (by kernel_rfl) (fun _ _ _ h => h) (Or.inl ⟨by rfl, ?_⟩) ?_ ?_
              rotate_left
              · intro w'
                go_simp
                with_reducible rfl
              rotate_left
              · simp only [Act.put, List.setIfInBounds_toArray, List.set_cons_zero, List.set_cons_succ, i64_w, i32_w]
                rfl
              refine pure_ (i := 9) (N := some 148) (v := ?_) (a' := ?_) #[true, true, true, true, true, true, true, true, true, true, false, false, false, false, false, false, false, false, false, false, false, false, false, false] rfl rfl (by kernel_rfl) (fun _ _ _ h => h) (Or.inl ⟨by rfl, ?_⟩) ?_ ?_
              rotate_left
              · intro w'
                go_simp
                with_reducible rfl
              rotate_left
              · simp only [Act.put, List.setIfInBounds_toArray, List.set_cons_zero, List.set_cons_succ, i64_w, i32_w]
                rfl
              refine take_ (i := 10) (N := some 149) (v := ?_) (a' := ?_) #[true, true, true, true, true, true, true, true, true, true, true, false, false, false, false, false, false, false, false, false, false, false, false, false] rfl rfl (by kernel_rfl) (fun _ _ _ h => h) (Or.inl ⟨by rfl, ?_⟩) hHeld ?_ ?_
              rotate_left
              · rintro w' ⟨s0, s1, s2, s3, s4⟩
                go_simp
                with_reducible rfl
              rotate_left
              · simp only [Act.put, List.setIfInBounds_toArray, List.set_cons_zero, List.set_cons_succ, i64_w, i32_w]
                rfl
              refine pure_ (i := 11) (N := some 150) (v := ?_) (a' := ?_) #[true, true, true, true, true, true, true, true, true, true, true, true, false, false, false, false, false, false, false, false, false, false, false, false] rfl rfl (by kernel_rfl) (fun _ _ _ h => h) (Or.inl ⟨by rfl, ?_⟩) ?_ ?_
              rotate_left
              · intro w'
                go_simp
                with_reducible rfl
              rotate_left
              · simp only [Act.put, List.setIfInBounds_toArray, List.set_cons_zero, List.set_cons_succ, i64_w, i32_w]
                rfl
              refine pure_ (i := 12) (N := some 151) (v := ?_) (a' := ?_) #[true, true, true, true, true, true, true, true, true, true, true, true, true, false, false, false, false, false, false, false, false, false, false, false] rfl rfl (by kernel_rfl) (fun _ _ _ h => h) (Or.inl ⟨by rfl, ?_⟩) ?_ ?_
              rotate_left
              · intro w'
                go_simp
                with_reducible rfl
              rotate_left
              · simp only [Act.put, List.setIfInBounds_toArray, List.set_cons_zero, List.set_cons_succ, i64_w, i32_w]
                rfl
              refine pure_ (i := 13) (N := some 152) (v := ?_) (a' := ?_) #[true, true, true, true, true, true, true, true, true, true, true, true, true, true, false, false, false, false, false, false, false, false, false, false] rfl rfl (by kernel_rfl) (fun _ _ _ h => h) (Or.inl ⟨by rfl, ?_⟩) ?_ ?_
              rotate_left
              · intro w'
                go_simp
                with_reducible rfl
              rotate_left
              · simp only [Act.put, List.setIfInBounds_toArray, List.set_cons_zero, List.set_cons_succ, i64_w, i32_w]
                rfl
              refine pure_ (i := 14) (N := some 153) (v := ?_) (a' := ?_) #[true, true, true, true, true, true, true, true, true, true, true, true, true, true, true, false, false, false, false, false, false, false, false, false] rfl rfl (by kernel_rfl) (fun _ _ _ h => h) (Or.inl ⟨by rfl, ?_⟩) ?_ ?_
              rotate_left
              · intro w'
                go_simp
                with_reducible rfl
              rotate_left
              · simp only [Act.put, List.setIfInBounds_toArray, List.set_cons_zero, List.set_cons_succ, i64_w, i32_w]
                rfl
              refine take_ (i := 15) (N := some 154) (v := ?_) (a' := ?_) #[true, true, true, true, true, true, true, true, true, true, true, true, true, true, true, true, false, false, false, false, false, false, false, false] rfl rfl (by kernel_rfl) (fun _ _ _ h => h) (Or.inl ⟨by rfl, ?_⟩) hHeld ?_ ?_
              rotate_left
              · rintro w' ⟨s0, s1, s2, s3, s4⟩
                go_simp
                with_reducible rfl
              rotate_left
              · simp only [Act.put, List.setIfInBounds_toArray, List.set_cons_zero, List.set_cons_succ, i64_w, i32_w]
                rfl
              refine take_ (i := 16) (N := some 155) (v := ?_) (a' := ?_) #[true, true, true, true, true, true, true, true, true, true, true, true, true, true, true, true, true, false, false, false, false, false, false, false] rfl rfl (by kernel_rfl) (fun _ _ _ h => h) (Or.inl ⟨by rfl, ?_⟩) hHeld ?_ ?_
              rotate_left
              · rintro w' ⟨s0, s1, s2, s3, s4⟩
                go_simp
                with_reducible rfl
              rotate_left
              · simp only [Act.put, List.setIfInBounds_toArray, List.set_cons_zero, List.set_cons_succ, i64_w, i32_w]
                rfl
              refine take_ (i := 17) (N := some 156) (v := ?_) (a' := ?_) #[true, true, true, true, true, true, true, true, true, true, true, true, true, true, true, true, true, true, false, false, false, false, false, false] rfl rfl (by kernel_rfl) (fun _ _ _ h => h) (Or.inl ⟨by rfl, ?_⟩) hHeld ?_ ?_
              rotate_left
              · rintro w' ⟨s0, s1, s2, s3, s4⟩
                go_simp
                with_reducible rfl
              rotate_left
              · simp only [Act.put, List.setIfInBounds_toArray, List.set_cons_zero, List.set_cons_succ, i64_w, i32_w]
                rfl
              refine pure_ (i := 18) (N := some 157) (v := ?_) (a' := ?_) #[true, true, true, true, true, true, true, true, true, true, true, true, true, true, true, true, true, true, true, false, false, false, false, false] rfl rfl (by kernel_rfl) (fun _ _ _ h => h) (Or.inl ⟨by rfl, ?_⟩) ?_ ?_
              rotate_left
              · intro w'
                go_simp
                with_reducible rfl
              rotate_left
              · simp only [Act.put, List.setIfInBounds_toArray, List.set_cons_zero, List.set_cons_succ, i64_w, i32_w]
                rfl
              refine pure_ (i := 19) (N := some 158) (v := ?_) (a' := ?_) #[true, true, true, true, true, true, true, true, true, true, true, true, true, true, true, true, true, true, true, true, false, false, false, false] rfl rfl (by kernel_rfl) (fun _ _ _ h => h) (Or.inl ⟨by rfl, ?_⟩) ?_ ?_
              rotate_left
              · intro w'
                go_simp
                with_reducible rfl
              rotate_left
              · simp only [Act.put, List.setIfInBounds_toArray, List.set_cons_zero, List.set_cons_succ, i64_w, i32_w]
                rfl
              refine take_ (i := 20) (N := some 159) (v := ?_) (a' := ?_) #[true, true, true, true, true, true, true, true, true, true, true, true, true, true, true, true, true, true, true, true, true, false, false, false] rfl rfl (by kernel_rfl) (fun _ _ _ h => h) (Or.inl ⟨by rfl, ?_⟩) hHeld ?_ ?_
              rotate_left
              · rintro w' ⟨s0, s1, s2, s3, s4⟩
                go_simp
                with_reducible rfl
              rotate_left
              · simp only [Act.put, List.setIfInBounds_toArray, List.set_cons_zero, List.set_cons_succ, i64_w, i32_w]
                rfl
              refine last_ (i := 21) (N := some 160) #[true, true, true, true, true, true, true, true, true, true, true, true, true, true, true, true, true, true, true, true, true, true, false, false] rfl rfl (by kernel_rfl) (by decide) (fun K hK => ?_)
              refine goes_ Tryd.func23 (by kernel_rfl) rfl #[.slice Axc Lc cxc, .slice A7c Lc c7c] (by rfl) rfl rfl (by simp only [List.map_toArray, List.map_cons, List.map_nil]; rfl) ?_
              with_reducible refine (HSM.out _ (below_drew1 (Below.refl _ _))).mono ?_
              rintro e w7c ⟨rfl, hd7⟩
              have HD7c := Aside0.mk (below_step (below_drew1 (Below.refl Wc.heap.size Wc)) hd7.below)
              clear hd7
              refine ⟨_, rfl, ?_⟩
              refine hK.out _ _ ?_
              clear hK K
              refine norm_ (a' := ?_) ?_ ?_
              rotate_left
              · show Act.put _ (some 160) _ = _
                simp only [Act.put, List.setIfInBounds_toArray, List.set_cons_zero, List.set_cons_succ, i64_w, i32_w]
                rfl
              refine pure_ (i := 22) (N := some 161) (v := ?_) (a' := ?_) #[true, true, true, true, true, true, true, true, true, true, true, true, true, true, true, true, true, true, true, true, true, true, true, false] rfl rfl (by kernel_rfl) (fun _ _ _ h => h) (Or.inl ⟨by rfl, ?_⟩) ?_ ?_
              rotate_left
              · intro w'
                go_simp
                with_reducible rfl
              rotate_left
              · simp only [Act.put, List.setIfInBounds_toArray, List.set_cons_zero, List.set_cons_succ, i64_w, i32_w]
                rfl
              refine pure_ (i := 23) (N := some 162) (v := ?_) (a' := ?_) #[true, true, true, true, true, true, true, true, true, true, true, true, true, true, true, true, true, true, true, true, true, true, true, true] rfl rfl (by kernel_rfl) (fun _ _ _ h => h) (Or.inl ⟨by rfl, ?_⟩) ?_ ?_
              rotate_left
              · intro w'
                go_simp
                with_reducible rfl
              rotate_left
              · simp only [Act.put, List.setIfInBounds_toArray, List.set_cons_zero, List.set_cons_succ, i64_w, i32_w]
                rfl
              refine done_ (by kernel_rfl) ?_
              simp only [normOnly]
              clear hHeld
              have hbn7 : Boxed w7c Bm 3 (.int .i64 jc) := blk_below HBNc.out HD7c.out
              have n0 := hbn7.cell
              have y0 := hbn7.frozen
              have hEc := HEW9.out.above HKLc.out (fun k hk => by rw [hk]; exact HMT.out.1)
              have hcl := close2 hEc HMT.out.1 HKLc.out HBNc.out (KeptE.of_below HD7c.out)
              have HCL := Aside0.mk hcl
              have hln : ((prec ++ [((jc, Axc, Lc, cxc) : EV)]).length : Int) = (jc : Int) + 1 := by rw [List.length_append, ← HKPc.out]; simp
              have HLN := Aside0.mk hln
              clear hbn7 hEc hcl hln q5 x0 x1 h0 h1 h2 bk bk2 hnk HSM hfr
              gi_wp2
              refine ⟨HCL.out.1, HCL.out.2.1, ?_, HCL.out.2.2.2⟩
              rw [HLN.out]
              exact HCL.out.2.2.1
            case done3 =>
              rintro xs W hS ⟨hbm, hKm⟩
              rw [hS, ← HN1.out] at hbm
              have hKX : KeptE (fun k => Wb.heap.size ≤ k) Wb W := HKB9.out.trans hKm (fun k h => .inl (by rw [h]; exact HMT.out.2.2))
              have hEb := HEW6.out.above HKLb.out (fun k hk => by rw [hk]; exact HTOP.out.1)
              have HCL := Aside0.mk (close2 hEb HTOP.out.1 HKLb.out HBNb.out hKX)
              have hbn7 : Boxed W Bn 3 (.int .i64 jb) := hKX.box HBNb.out (by have := HBNb.out.lt; omega)
              have m0 := hbm.cell
              have n0 := hbn7.cell
              have y0 := hbn7.frozen
              have hEx := HEW9.out.above hKm (fun k hk => by rw [hk]; exact HMT.out.1)
              have q5 : W.cell? ⟨w1.heap.size, 0, none⟩ = some (.slice (some adb) N1 c1) := hEx.s5.cell
              have bq : ((N1 : Int) != (N1 : Int)) = false := by simp
              have HLN : Aside0 (((preb ++ [((jb, Axb, Lb, cxb) : EV)]).length : Int) = (jb : Int) + 1) := ⟨by rw [List.length_append, ← HKPb.out]; simp⟩
              clear hbm hKm hKX hEb hbn7 hEx hcs hkb
              gi_wp2
              refine ⟨HCL.out.1, HCL.out.2.1, ?_, HCL.out.2.2.2⟩
              rw [HLN.out]
              exact HCL.out.2.2.1
          · have b3 : decide ((jb : Int) < 3) = false := decide_eq_false (by omega)
            have hEb := HEW6.out.above HKLb.out (fun k hk => by rw [hk]; exact HTOP.out.1)
            have HCL := Aside0.mk (close2 hEb HTOP.out.1 HKLb.out HBNb.out (KeptE.of_below HD7b.out))
            have HLN : Aside0 (((preb ++ [((jb, Axb, Lb, cxb) : EV)]).length : Int) = (jb : Int) + 1) := ⟨by rw [List.length_append, ← HKPb.out]; simp⟩
            clear hEb h3
            gi_wp2
            refine ⟨HCL.out.1, HCL.out.2.1, ?_, HCL.out.2.2.2⟩
            rw [HLN.out]
            exact HCL.out.2.2.1
        case rest2 =>
          rintro D2 W hD2 ⟨hbn, hK⟩ hd2
          have hE8 := HEW6.out.above hK (fun k hk => by rw [hk]; exact HTOP.out.1)
          have n0 := hbn.cell
          have q5 : W.cell? ⟨w1.heap.size, 0, none⟩ = some (.slice A1 N1 c1) := hE8.s5.cell
          have HE8 := Aside0.mk hE8
          have HK8 := Aside0.mk hK
          have HD8 : Aside0 (W.heap[D]? = some (.deferred (some [])) ∧ W.heap[D2]? = some (.deferred (some [])) ∧ D < W.heap.size ∧ D2 < W.heap.size ∧ w6.heap.size ≤ D2 ∧ D ≠ Bn) := ⟨(hK.same D HT6.out.2.1 (fun e => by have := HD6.out; have := HTOP.out; omega)).trans HDE.out, hd2, Nat.lt_of_lt_of_le HT6.out.2.1 hK.size, (Array.getElem?_eq_some_iff.1 hd2).1, hD2, fun e => by have := HD6.out; have := HTOP.out; omega⟩
          clear hE8 hK hd2 hbn hcs hkb hD2 hd6
          gi_wp2
          refine ⟨trivial, ?_⟩
          refine (callsIn_wide.2 (wicketlaw01_live.calls true W HE8.out.tb H8.out)).mono ?_
          rintro e w10 ⟨rfl, hb10⟩
          have b4 : Boxed w10 (w.heap.size + 1) 4 (.bool false) := blk_below HE8.out.s4 hb10
          have hbe : Below w.heap.size w w10 := by
            have hw5 := HB05.out.size
            have h1 := HK6.out.below hw5 (fun k hk => by have h9 : k = Bn := hk; have := HTOP.out; omega)
            have h2 := HK8.out.below (Nat.le_trans hw5 HK6.out.size) (fun k hk => by have h9 : k = Bn := hk; have := HTOP.out; omega)
            exact below_step ((HB05.out.trans h1).trans h2) hb10
          have kd2 : w10.heap[D2]? = some (.deferred (some [])) := blk_below HD8.out.2.1 hb10
          have kd1 : w10.heap[D]? = some (.deferred (some [])) := blk_below HD8.out.1 hb10
          have hbl := hbe.setCell (p := ⟨w.heap.size + 1, 0, none⟩) (by show w.heap.size ≤ w.heap.size + 1; omega) (.bool true)
          have h4 : w.heap.size + 1 < w3'.heap.size := HE8.out.lt (w.heap.size + 1) (.inr (.inr (.inl rfl)))
          have hne2 : w.heap.size + 1 ≠ D2 := by have := HD8.out.2.2.2.2.1; have := HT6.out; have := HTOP.out; omega
          have hne1 : w.heap.size + 1 ≠ D := by have := HD6.out; have := HTOP.out; omega
          have hDD : D2 ≠ D := by have := HD8.out.2.2.2.2.1; have := HT6.out; omega
          have hDw : w.heap.size ≤ D ∧ w.heap.size ≤ D2 := by have := HD6.out; have := HTOP.out; have := HD8.out.2.2.2.2.1; have := HT6.out; omega
          have k2 : (w10.setCell ⟨w.heap.size + 1, 0, none⟩ (.bool true)).heap[D2]? = some (.deferred (some [])) := (Below.heap_setCell w10 ⟨w.heap.size + 1, 0, none⟩ (.bool true) D2 hne2.symm).trans kd2
          have k1 : (w10.setCell ⟨w.heap.size + 1, 0, none⟩ (.bool true)).heap[D]? = some (.deferred (some [])) := (Below.heap_setCell w10 ⟨w.heap.size + 1, 0, none⟩ (.bool true) D hne1.symm).trans kd1
          have hq2 := b4.set (.bool true)
          have c4 := b4.cell
          have f4 := b4.frozen
          have HF := Aside0.mk (And.intro hbl (And.intro k2 (And.intro k1 hq2)))
          have HNE := Aside0.mk (And.intro hne1 (And.intro hne2 (And.intro hDD hDw)))
          clear b4 hbe kd1 kd2 hbl hne1 hne2 hDD hDw k1 k2 hq2 n0 q5
          gi_wp2
          obtain ⟨wf, hwf⟩ : ∃ wf, wf = w10.setCell ⟨w.heap.size + 1, 0, none⟩ (.bool true) := ⟨_, rfl⟩
          obtain ⟨hbl, k2, k1, hq2⟩ := HF.out
          obtain ⟨hne1, hne2, hDD, hDw⟩ := HNE.out
          rw [← hwf] at hbl k2 k1 hq2
          rw [← hwf]
          clear hwf HF HNE
          have k1' : (wf.putObj D2 (.deferred none)).heap[D]? = some (.deferred (some [])) := ((grownBy_putObj' wf D2 (.deferred none)).block D (Array.getElem?_eq_some_iff.1 k1).1 (fun e => hDD (by injection e with e; exact e.symm))).trans k1
          have hq3 := (hq2.kept (grownBy_putObj' wf D2 (.deferred none)) (fun e => hne2 (by injection e))).kept (grownBy_putObj' (wf.putObj D2 (.deferred none)) D (.deferred none)) (fun e => hne1 (by injection e))
          refine ⟨by simp, .inl ⟨_, _, rfl, run_takeDeferred k2, ⟨by simp, .inl ⟨_, _, rfl, run_takeDeferred k1', ?_⟩⟩⟩⟩
          have hc5 := hq3.cell
          refine ⟨.bool true, ?_, rfl, (hbl.trans (belowK_b (w := w) (Nat.le_refl _) wf D2 _ _ hDw.2 k2 rfl rfl)).trans (belowK_b (w := w) (Nat.le_refl _) (wf.putObj D2 (.deferred none)) D _ _ hDw.1 k1' rfl rfl)⟩
          simp [results, Tryd.f9, go_sem, hc5]
end Go.Proofs.YtdlfhpkkkhfhdaaDoor.Hand
