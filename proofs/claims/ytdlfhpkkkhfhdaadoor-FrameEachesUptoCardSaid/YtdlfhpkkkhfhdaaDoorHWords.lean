/- Laws of our own for the walks: a make with a capacity, bytes out of a string. -/
import Derived.Test.YtdlfhpkkkhfhdaaDoorWMore
import Derived.Laws.IdiomStrings
import Derived.WalkKit
namespace Go.Proofs.YtdlfhpkkkhfhdaaDoor.Hand
open Go.RowKit Go.Proofs.YtdlfhpkkkhfhdaaDoorW.PrintWords Go.Proofs.YtdlfhpkkkhfhdaaDoorW.PrintLast Go.Proofs.YtdlfhpkkkhfhdaaDoorW.PrintMore
set_option linter.unusedVariables false
section
variable {P : Program} {ops : Array Oper} {rest : List Oper} {o : Oper} {a : Act} {Q : Exit → Act → World → Prop}

/-- make([]T, n, c): n zeros, room for c. -/
theorem R_makecap {α : Type} {enc : α → Value} {h1 : ∀ x : α, (enc x).oneCell' = true} {w0 W : World} (base e : Nat) (hgd : o.guard = none) (t : TypeId) (x y : Operand) (ho : o.op = .makeSlice t x y) (n c : Int) (hx : a.eval x = .int .i64 n) (hy : a.eval y = .int .i64 c)
    (ht : P.underlying t = some (.slice e)) (z : Value) (bytes : Nat) (hinfo : (P.info? e).map (fun i => (i.zero, i.size, i.bytes)) = some (some z, 1, bytes))
    (z0 : α) (hzero : z.cells = #[enc z0]) {ok : Nat → Prop} (hfresh : ok W.heap.size) (h0 : 0 ≤ n) (hnc : n ≤ c) (hl : (bytes : Int) * c ≤ 281474976710656) (hc : c ≤ 9223372036854775807) (HB : Below base w0 W) (hbase : base ≤ W.heap.size)
    (h : ∀ v1 w1, (Kd.scalar enc h1).R e w1 base ok v1 (List.replicate n.toNat z0) → Below base w0 w1 → W.grownBy w1 none → (∃ b, v1.ownBlock = some b ∧ W.heap.size ≤ b) → wpList P ops Q rest (a.put o.dst v1) w1) : wpList P ops Q (o :: rest) a W := by
  obtain ⟨i0, hi, hzz⟩ := Option.map_eq_some_iff.1 hinfo
  simp only [Prod.mk.injEq] at hzz
  obtain ⟨hz0, hz1, hz2⟩ := hzz
  obtain ⟨m, rfl⟩ := Int.eq_ofNat_of_zero_le h0
  obtain ⟨k, rfl⟩ := Int.eq_ofNat_of_zero_le (Int.le_trans h0 hnc)
  have hr := run_make (P := P) W t e i0 z ht hi hz0 .i64 .i64 (m : Int) (k : Int) h0 hnc (by rw [hz2]; exact hl) hc
  simp only [Int.toNat_natCast, hz1, Nat.mul_one] at hr h
  refine Kd.event_run hgd (w1 := W.alloc (.cells (madeCells z.cells k) e)) (v := .slice (some ⟨W.heap.size, 0, none⟩) m k) ?_ (h _ _ ?_ (HB.alloc hbase _) (World.grownBy_alloc W _ none) ⟨W.heap.size, by simp [Value.ownBlock], Nat.le_refl _⟩)
  · simp [execOp, ho, hx, hy, hr]
  · refine Kd.R_of_own ⟨by simp [encs], .inr ⟨W.heap.size, k, madeCells z.cells k, by simp, hbase, heap_alloc_new W _, by simp; omega, by unfold maxLen; omega, by simp [size_madeCells], ?_⟩⟩ (fun b hb => ?_)
    · apply List.ext_getElem
      · simp [size_madeCells, encs]; omega
      · intro j h1 h2
        simp [encs] at h2
        simp [madeCells, hzero, encs, Nat.mod_one]
    · have : W.heap.size = b := by simpa [Value.ownBlock] using hb
      subst this
      exact hfresh

theorem size_of_info {e : TypeId} {z : Option Value} {s b : Nat} (h : (P.info? e).map (fun i => (i.zero, i.size, i.bytes)) = some (z, s, b)) : (P.info? e).map (·.size) = some s := by
  obtain ⟨i0, hi, hzz⟩ := Option.map_eq_some_iff.1 h
  simp only [Prod.mk.injEq] at hzz
  rw [hi, ← hzz.2.1]
  rfl
/-- x[lo:hi:hi]: its room ends where it ends. -/
theorem cut_mid3 (t e : TypeId) (kl kh : IntKind) {i : TypeInfo} (ht : P.underlying t = some (.slice e)) (hi : P.info? e = some i) (size : Nat) (hsz : i.size = size) (A : Option Addr) (n c : Nat) (lo hi' : Int) (h0 : 0 ≤ lo) (h1 : lo ≤ hi') (h2 : hi' ≤ n) (hc : n ≤ c) :
    ∀ W : World, (Instr.slice t (.slice A n c) (some (.int kl lo)) (some (.int kh hi')) (some (.int kh hi'))).run P W = .ok (.slice (if hi'.toNat = lo.toNat then A else A.map (·.add (lo.toNat * size))) (hi'.toNat - lo.toNat) (hi'.toNat - lo.toNat + 0)) W := by
  intro W
  have e1 : 0 ≤ hi' := by omega
  have e2 : hi' ≤ (c : Int) := by omega
  have e3 : hi'.toNat ≤ c := by omega
  have e6 : hi' ≤ max hi' 0 := by omega
  have e7 : lo ≤ max hi' 0 := by omega
  cases A <;> simp [Instr.slice, run_underlying ht, Instr.sliceBounds, Instr.sliceBound, asIntOf, h0, e1, e2, e6, e7, sizeOf, typeInfo, hi, hsz]

/-- []byte(s): new memory that reads as s's bytes. -/
theorem C_conv {w0 W : World} (base src dst e : Nat) (hgd : o.guard = none) (x : Operand) (ho : o.op = .convert src dst x) (s : ByteArray) (hx : a.eval x = .string s)
    (hs : P.underlying src = some .string) (hd : P.underlying dst = some (.slice e)) (he : P.underlying e = some (.int .u8)) (hm : s.size ≤ 9223372036854775807) (HB : Below base w0 W) (hbase : base ≤ W.heap.size)
    (h : ∀ A c w1, (Kd.int .u8).C w1 A (bytesOf s).length (bytesOf s) → (bytesOf s).length ≤ c → Below base w0 w1 → W.grownBy w1 none → wpList P ops Q rest (a.put o.dst (.slice A (bytesOf s).length c)) w1) : wpList P ops Q (o :: rest) a W := by
  have hlen : (bytesOf s).length = s.size := bytesOf_length s
  refine Kd.event_run hgd (w1 := W.drew.alloc (.cells (bytesRow s (grownCap W s.size 0 e)) e ((bytesRow s (grownCap W s.size 0 e)).size, (bytesRow s (grownCap W s.size 0 e)).size + 1))) (v := .slice (some ⟨W.heap.size, 0, none⟩) (bytesOf s).length (grownCap W s.size 0 e)) ?_ (h _ _ _ ?_ ?_ (HB.drew.alloc hbase _) ?_)
  · simp [execOp, ho, hx, run_bytes_of_string W src dst e s hs hd he, hlen]
  · refine Kd.C_of_reads (d := (0 : Int)) (h1 := fun _ => rfl) ⟨rfl, by omega, fun _ => ⟨_, rfl, fun j hj => ?_⟩⟩
    rw [hlen] at hj
    have hj' : j < s.data.size := hj
    have h2 := World.cell?_alloc_mark W.drew (bytesRow s (grownCap W s.size 0 e)) e ((bytesRow s (grownCap W s.size 0 e)).size, (bytesRow s (grownCap W s.size 0 e)).size + 1) j
    rw [bytesRow_at s _ j hj'] at h2
    rw [add_plain]
    refine h2.trans ?_
    simp [bytesOf, List.getElem?_map, Array.getElem?_eq_getElem hj']
  · have := grownCap_ge W s.size 0 e
    omega
  · exact ⟨rfl, rfl, rfl, by simp, fun k hk _ => Below.heap_alloc W.drew _ k hk⟩
end
theorem C_mid3 {α : Type} {k : Kd α} {w : World} {A : Option Addr} {xs : List α} {lo hi : Nat} (h : k.C w A xs.length xs) (h1 : lo ≤ hi) (h2 : hi ≤ xs.length) : k.C w (if hi = lo then A else A.map (·.add (lo * k.sz))) ((xs.take hi).drop lo).length ((xs.take hi).drop lo) := by
  have hl : (xs.take hi).length = hi := by rw [List.length_take]; omega
  have h3 := Kd.C_take h h2
  have h4 := Kd.C_drop (c := hi) h3 (m := lo) (by omega) (by omega)
  exact h4
end Go.Proofs.YtdlfhpkkkhfhdaaDoor.Hand
