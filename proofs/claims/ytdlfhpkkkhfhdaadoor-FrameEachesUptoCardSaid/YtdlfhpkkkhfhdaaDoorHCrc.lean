import Derived.Test.YtdlfhpkkkhfhdaaDoorProg
import Derived.Test.YtdlfhpkkkhfhdaaDoorWMore
import Derived.Below
import Derived.WalkKit
import Derived.Outline
import Derived.Laws.BitsAllLaws
namespace Go.Proofs.YtdlfhpkkkhfhdaaDoor.Hand
open Go.RowKit Go.Proofs.YtdlfhpkkkhfhdaaDoorW.PrintWords Go.Proofs.YtdlfhpkkkhfhdaaDoorW.PrintLast Go.Proofs.YtdlfhpkkkhfhdaaDoorW.PrintMore

/-- The table of the sixteen half bytes. -/
def sixteen : List Int := [0, 498536548, 997073096, 651767980, 1994146192, 1802195444, 1303535960, 1342533948, 3988292384, 4027552580, 3604390888, 3412177804, 2607071920, 2262029012, 2685067896, 3183342108]
def half (i : Int) : Int := sixteen.getD i.toNat 0
/-- What the listed variable holds, as the walk asks it. -/
structure Tb (w : World) : Prop where
  out : ∀ i : Int, 0 ≤ i → i < 16 → w.cell? ⟨0, i.toNat, none⟩ = some (.int .u32 (half i))
theorem Tb.below {w w1 : World} (h : Tb w) (hb : Below w.heap.size w w1) : Tb w1 := ⟨fun i h0 h1 => pw_cell_below hb (h.out i h0 h1)⟩

theorem Tb.alloc {w : World} (h : Tb w) (o : Obj) : Tb (w.alloc o) := h.below (below_alloc (Below.refl _ _) o)
theorem Tb.drew {w : World} (h : Tb w) : Tb w.drew := h.below (below_drew (Below.refl _ _))
theorem Tb.drewN {w : World} (h : Tb w) (m : Nat) : Tb (w.drewN m) := h.below (pw_below_drewN (Below.refl _ _) m)
theorem sgn_u32 : IntKind.u32.signed = false := rfl
theorem top_u32 : IntKind.u32.max = 4294967295 := rfl
theorem sgn_u64 : IntKind.u64.signed = false := rfl
theorem top_u64 : IntKind.u64.max = 18446744073709551615 := rfl
attribute [local go_sem] sgn_u32 top_u32
theorem and15 (x : Int) : 0 ≤ Go.bits .and .u32 x 15 ∧ Go.bits .and .u32 x 15 < 16 := by
  unfold Go.bits
  simp only [IntKind.wrap_u32']
  have h : (BitVec.ofInt 32 x &&& BitVec.ofInt 32 15).toNat < 16 := by
    rw [BitVec.toNat_and]
    exact Nat.lt_of_le_of_lt Nat.and_le_right (by decide)
  show 0 ≤ ((BitVec.ofInt 32 x &&& BitVec.ofInt 32 15).toNat : Int) % 4294967296 ∧ ((BitVec.ofInt 32 x &&& BitVec.ofInt 32 15).toNat : Int) % 4294967296 < 16
  omega

/-- A half byte leaves the register. -/
def nib (r : Int) : Int := Go.bits .xor .u32 (half (Go.bits .and .u32 r 15)) (r / 16)
def crcStep (r x : Int) : Int := nib (nib (Go.bits .xor .u32 r (x % 4294967296)))
def crcFold (r : Int) (l : List Int) : Int := l.foldl crcStep r
def crcRun (c : Int) (l : List Int) : Int := Go.bits .xor .u32 4294967295 (crcFold (Go.bits .xor .u32 4294967295 c) l)
theorem crcFold_take (r : Int) (l : List Int) (k : Nat) (h : k < l.length) : crcFold r (l.take (k + 1)) = crcStep (crcFold r (l.take k)) (l.getD k 0) := by
  unfold crcFold
  rw [List.take_succ_eq_append_getElem h, List.foldl_append, List.getD_eq_getElem?_getD, List.getElem?_eq_getElem h]
  rfl

def frame_CrcOn.f (a0 : Int) (l1 : List Int) : Option Int := some (crcRun a0 l1)
set_option maxHeartbeats 400000 in
theorem frame_CrcOn.calls (a0 : Int) (A1 : Option Addr) (c1 : Nat) (l1 : List Int) (r : Int) (w : World) (hT : Tb w) (hr1 : Kd.C (Kd.int .u8) w A1 l1.length l1) (_hc1 : l1.length ≤ c1) (h : frame_CrcOn.f a0 l1 = some r) :
    Calls Tryd.prog 17 #[.int .u32 a0, .slice A1 l1.length c1] w fun e w' => e = .returned (.int .u32 r) ∧ Drawn0 w w' := by
  obtain rfl := Option.some.inj h
  clear h
  have hl : l1.length ≤ 9223372036854775807 := Kd.C_max hr1
  have HR := Aside0.mk hr1
  clear hr1
  go_enter Tryd.func17, Tryd.ntmps17
  go_wp2
  go_loop [5, 7, 12] (fun v5 v7 v12 => ∃ k : Nat, k ≤ l1.length ∧ v12 = .int .i64 k ∧ v5 = .int .u32 (crcFold (Go.bits .xor .u32 4294967295 a0) (l1.take k)))
    (fun _ _ v12 => l1.length - (intOf v12).toNat)
  case atStart => exact ⟨0, Nat.zero_le _, rfl, rfl⟩
  case round =>
    obtain ⟨k, hk, rfl, rfl⟩ := hrel
    by_cases hlt : k < l1.length
    · have hf := Aside0.mk (crcFold_take (Go.bits .xor .u32 4294967295 a0) l1 k hlt)
      obtain ⟨ad, rfl, hx⟩ := Kd.at_int HR.out (k : Int) (by omega) (by omega)
      obtain ⟨x, hxx⟩ : ∃ x, x = l1.getD k 0 := ⟨_, rfl⟩
      rw [show rd l1 (k : Int) = x from by rw [hxx]; simp [rd], Int.toNat_natCast] at hx
      obtain ⟨R, hR⟩ : ∃ R, R = crcFold (Go.bits .xor .u32 4294967295 a0) (l1.take k) := ⟨_, rfl⟩
      rw [← hR]
      have HR' := Aside0.mk hR
      have HX := Aside0.mk hxx
      clear hR hxx
      obtain ⟨r1, hr1⟩ : ∃ r1, Go.bits .xor .u32 R (x % 4294967296) = r1 := ⟨_, rfl⟩
      obtain ⟨i1, hi1⟩ : ∃ i1, Go.bits .and .u32 r1 15 = i1 := ⟨_, rfl⟩
      have b1 := and15 r1
      rw [hi1] at b1
      have c1_ := hT.out i1 b1.1 b1.2
      obtain ⟨r2, hr2⟩ : ∃ r2, Go.bits .xor .u32 (half i1) (r1 / 16) = r2 := ⟨_, rfl⟩
      obtain ⟨i2, hi2⟩ : ∃ i2, Go.bits .and .u32 r2 15 = i2 := ⟨_, rfl⟩
      have b2 := and15 r2
      rw [hi2] at b2
      have c2_ := hT.out i2 b2.1 b2.2
      obtain ⟨b10, b11⟩ := b1
      obtain ⟨b20, b21⟩ := b2
      have E := Aside0.mk (show crcFold (Go.bits .xor .u32 4294967295 a0) (l1.take (k + 1)) = Go.bits .xor .u32 (half i2) (r2 / 16) by
        rw [hf.out, ← HR'.out, ← HX.out]; simp only [crcStep, nib, hr1, hi1, hr2, hi2])
      go_wp2
      go_round
      case rel => exact ⟨k + 1, by omega, by go_num, by rw [E.out]⟩
      case measure => simp [intOf]; omega
    · obtain rfl : k = l1.length := by omega
      go_wp2
      go_ret
      exact ⟨by first | rfl | (simp [crcRun]; done), Drawn0.refl _⟩
end Go.Proofs.YtdlfhpkkkhfhdaaDoor.Hand
