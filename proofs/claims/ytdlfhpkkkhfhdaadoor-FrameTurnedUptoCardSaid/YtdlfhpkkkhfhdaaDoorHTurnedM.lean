/- FrameTurned: the plain law. -/
import Derived.Test.YtdlfhpkkkhfhdaaDoorHTurnedP
import Derived.Test.YtdlfhpkkkhfhdaaDoorZx2
import Derived.Test.YtdlfhpkkkhfhdaaDoorHSumsM
namespace Go.Proofs.YtdlfhpkkkhfhdaaDoor.Hand
open Go.RowKit Go.Proofs.YtdlfhpkkkhfhdaaDoorW.PrintWords Go.Proofs.YtdlfhpkkkhfhdaaDoorW.PrintLast Go.Proofs.YtdlfhpkkkhfhdaaDoorW.PrintMore Go.Proofs.YtdlfhpkkkhfhdaaDoor.Q Go.Proofs.YtdlfhpkkkhfhdaaDoor.Z
set_option linter.unusedVariables false
set_option linter.unusedSimpArgs false

theorem pow_xor (i a : Nat) (h : a < 2 ^ i) : a ^^^ 2 ^ i = a + 2 ^ i := by
  have h1 : 2 ^ i * 1 + a = 2 ^ i * 1 ||| a := Nat.two_pow_add_eq_or_of_lt h 1
  have h3 : 2 ^ i * 1 ^^^ a = 2 ^ i * 1 ||| a := by
    apply Nat.eq_of_testBit_eq
    intro j
    rw [Nat.testBit_xor, Nat.testBit_or, Nat.testBit_two_pow_mul]
    by_cases hj : j < i
    · have h8 : decide (i ≤ j) = false := decide_eq_false (by omega)
      rw [h8]; simp
    · have : a.testBit j = false := Nat.testBit_lt_two_pow (Nat.lt_of_lt_of_le h (Nat.pow_le_pow_right (by decide) (by omega)))
      rw [this]; simp
  rw [Nat.mul_one] at h1 h3
  rw [Nat.xor_comm, h3, ← h1, Nat.add_comm]
theorem bit_of (pat i : Nat) (hp : pat < 4294967296) (hi : i < 32) : Go.bits .and .u32 (shr .u32 (pat : Int) (IntKind.u64.wrap (i : Int))) 1 = ((pat / 2 ^ i % 2 : Nat) : Int) := by
  have e1 : IntKind.u64.wrap (i : Int) = (i : Int) := by rw [IntKind.wrap_u64]; omega
  have e2 : shr .u32 (pat : Int) (i : Int) = ((pat / 2 ^ i : Nat) : Int) := by
    unfold shr
    rw [Int.toNat_natCast, show min i IntKind.u32.bits = i from Nat.min_eq_left (by show i ≤ 32; omega)]
    push_cast
    rfl
  rw [e1, e2, show (1 : Int) = ((1 : Nat) : Int) from rfl, u32_and_nat _ 1 (Nat.lt_of_le_of_lt (Nat.div_le_self _ _) hp) (by decide), nat_mask1]
theorem flip_of (b : Int) (s : Nat) (hb : 0 ≤ b ∧ b ≤ 255) (hs : s < 8) : Go.bits .xor .u8 b (shl .u8 1 (IntKind.u64.wrap (s : Int))) = ((b.toNat ^^^ 2 ^ s : Nat) : Int) := by
  have h2s : 2 ^ s < 256 := Nat.pow_lt_pow_right (a := 2) (by decide) (show s < 8 by omega)
  have e1 : IntKind.u64.wrap (s : Int) = (s : Int) := by rw [IntKind.wrap_u64]; omega
  have e2 : shl .u8 1 (s : Int) = ((2 ^ s : Nat) : Int) := by
    unfold shl
    rw [Int.toNat_natCast, show min s IntKind.u8.bits = s from Nat.min_eq_left (by show s ≤ 8; omega), IntKind.wrap_u8']
    have e3 : (1 : Int) * 2 ^ s = ((2 ^ s : Nat) : Int) := by push_cast; omega
    rw [e3]
    exact Int.emod_eq_of_lt (Int.natCast_nonneg _) (show ((2 ^ s : Nat) : Int) < ((256 : Nat) : Int) from Int.ofNat_lt.2 h2s)
  obtain ⟨n, rfl⟩ := Int.eq_ofNat_of_zero_le hb.1
  rw [e1, e2, u8_xor_nat n _ (by omega) h2s]
  rfl

theorem jstep (F A i n : Nat) (h : F + A + i < 8 * n) (hn : n ≤ 2097161) : wrap64 (wrap64 ((F : Int) + (A : Int)) + (i : Int)) = ((F + A + i : Nat) : Int) ∧ wrap64 (Int.tdiv ((F + A + i : Nat) : Int) 8) = (((F + A + i) / 8 : Nat) : Int) ∧
    Int.tmod ((F + A + i : Nat) : Int) 8 = (((F + A + i) % 8 : Nat) : Int) ∧ (F + A + i) / 8 < n ∧ (0 : Int) ≤ (((F + A + i) / 8 : Nat) : Int) ∧ (((F + A + i) / 8 : Nat) : Int) < (n : Int) ∧ (0 : Int) ≤ IntKind.u64.wrap (((F + A + i) % 8 : Nat) : Int) := by
  refine ⟨?_, ?_, ?_, by omega, by omega, by omega, ?_⟩
  · rw [w64 (x := (F : Int) + (A : Int)) (by omega) (by omega), w64 (by omega) (by omega)]; omega
  · rw [Int.tdiv_eq_ediv_of_nonneg (by omega), w64 (by omega) (by omega)]; omega
  · rw [Int.tmod_eq_emod_of_nonneg (by omega)]; omega
  · rw [IntKind.wrap_u64]; omega
theorem tfacts (A B F i d t n m : Nat) (h1 : i + (d + 1) = min 32 (B - A)) (hA : A < B) (h : F + B ≤ 8 * (n + 9) ∧ F ≤ 64 ∧ B ≤ 16777224) (hm : m = n + 9) (hn : n ≤ 2097152) (ht : t ≤ i) :
    (i : Int) < 32 ∧ decide (wrap64 ((A : Int) + (i : Int)) < (B : Int)) = true ∧ (0 : Int) ≤ IntKind.u64.wrap (i : Int) ∧ wrap64 ((i : Int) + 1) = ((i + 1 : Nat) : Int) ∧ i < 32 ∧ F + A + i < 8 * m ∧ m ≤ 2097161 ∧ i + 1 + d = min 32 (B - A) ∧ wrap64 ((t : Int) + 1) = ((t + 1 : Nat) : Int) := by
  refine ⟨by omega, decide_eq_true (by rw [w64 (by omega) (by omega)]; omega), by rw [IntKind.wrap_u64]; omega, by rw [w64 (by omega) (by omega)]; omega, by omega, by omega, by omega, by omega, by rw [w64 (by omega) (by omega)]; omega⟩
theorem turned_from (kind : Int) (l : List Int) (os : Bool) (A pat F B : Nat) (hk : 0 < kind ∧ kind ≤ 255) (hw : Bytes l) (hl : l.length ≤ 2097152) (hF : F = if os = true then 32 else 64) (hB : B = if os = true then 32 else 8 * (l.length + 1)) (hA : A < B) (hp : pat < 4294967296)
    (d : Nat) : ∀ (i : Nat) (x : List Int) (t : Nat), i + d = min 32 (B - A) → Bytes x → x.length = l.length + 9 → numB x = numB (sealOf kind l) ^^^ 2 ^ (F + A) * (pat % 2 ^ i) → t ≤ i → (t = 0 ↔ pat % 2 ^ i = 0) →
      Ev (fun k => wicketlaw01_FrameTurned.l0 k (A : Int) (pat : Int) x (F : Int) (B : Int) (t : Int) (i : Int)) true := by
  have hFB : F + B ≤ 8 * (l.length + 9) ∧ F ≤ 64 ∧ B ≤ 16777224 := by cases os <;> simp at hF hB <;> omega
  induction d with
  | zero =>
    intro i x t h1 hx hxl hn ht hz
    have fin : Ev (fun k => wicketlaw01_FrameTurned.j5 k (A : Int) (pat : Int) x (F : Int) (B : Int) (t : Int) (i : Int) false) true := by
      have hE : pat % 2 ^ i < 4294967296 := Nat.lt_of_le_of_lt (Nat.mod_le _ _) hp
      have hlt : os = true → 2 ^ A * (pat % 2 ^ i) < 4294967296 := fun ho => by
        subst ho
        simp at hB
        have h2 : pat % 2 ^ i < 2 ^ i := Nat.mod_lt _ (Nat.pow_pos (by decide))
        have h3 : i ≤ 32 - A := by omega
        have h4 : (2 : Nat) ^ i ≤ 2 ^ (32 - A) := Nat.pow_le_pow_right (by decide) h3
        have h5 : 2 ^ A * 2 ^ (32 - A) = 4294967296 := by rw [← Nat.pow_add, show A + (32 - A) = 32 by omega]
        have h6 : 2 ^ A * (pat % 2 ^ i) < 2 ^ A * 2 ^ (32 - A) := Nat.mul_lt_mul_of_pos_left (by omega) (Nat.pow_pos (by decide))
        omega
      have T := turned_open kind l x A (pat % 2 ^ i) os hk hw hl hx hxl hlt (fun ho => by subst ho; simp at hB; omega) hE (by rw [← hF]; exact hn)
      have ho := frameOpen_f x (by omega) hx
      refine ev_next ?_
      by_cases h0 : t = 0
      · have c : (t : Int) = 0 := by omega
        have e := (T.1 (hz.1 h0)).1
        simp only [wicketlaw01_FrameTurned.j5, ho, c, wicketlaw01_num.f, e, Bool.false_eq_true, Option.bind_some, ↓reduceIte]
        exact Ev.now _
      · have c : ¬ (t : Int) = 0 := by omega
        have e := T.2 (fun h => h0 (hz.2 h))
        simp only [wicketlaw01_FrameTurned.j5, ho, c, wicketlaw01_num.f, e, Bool.false_eq_true, Option.bind_some, ↓reduceIte]
        exact Ev.now _
    refine ev_next ?_
    by_cases c : (i : Int) < 32
    · have c2 : decide (wrap64 ((A : Int) + (i : Int)) < (B : Int)) = false := decide_eq_false (by rw [w64 (by omega) (by omega)]; omega)
      simp only [wicketlaw01_FrameTurned.l0, c, c2, ↓reduceIte]
      exact fin
    · simp only [wicketlaw01_FrameTurned.l0, c, ↓reduceIte]
      exact fin
  | succ d ih =>
    intro i x t h1 hx hxl hn ht hz
    obtain ⟨c, c2, c3, e2, hi32, hJ, hJn, hd, et⟩ := tfacts A B F i d t l.length x.length h1 hA hFB hxl hl ht
    have hb := bit_of pat i hp hi32
    refine ev_next ?_
    simp only [wicketlaw01_FrameTurned.l0, c, c2, ↓reduceIte]
    refine ev_next ?_
    rcases Nat.mod_two_eq_zero_or_one (pat / 2 ^ i) with hbit | hbit
    · have c4 : ¬ ((pat / 2 ^ i % 2 : Nat) : Int) = 1 := by rw [hbit]; decide
      simp only [wicketlaw01_FrameTurned.j5, c3, hb, c4, e2, ↓reduceIte]
      have hmm : pat % 2 ^ (i + 1) = pat % 2 ^ i := by rw [Nat.mod_pow_succ, hbit, Nat.mul_zero, Nat.add_zero]
      exact ih (i + 1) x t hd hx hxl (by rw [hmm]; exact hn) (Nat.le_succ_of_le ht) (by rw [hmm]; exact hz)
    · have c4 : ((pat / 2 ^ i % 2 : Nat) : Int) = 1 := by rw [hbit]; rfl
      obtain ⟨J1, J2, J3, hq, c5, c6, c7⟩ := jstep F A i x.length hJ hJn
      have hbyte := hx _ (List.getElem_mem hq)
      have hrd : rd x (((F + A + i) / 8 : Nat) : Int) = x.getD ((F + A + i) / 8) 0 := by unfold rd; rw [Int.toNat_natCast]
      have hgd : x.getD ((F + A + i) / 8) 0 = x[(F + A + i) / 8] := by rw [List.getD_eq_getElem?_getD, List.getElem?_eq_getElem hq]; rfl
      have hf := flip_of (x.getD ((F + A + i) / 8) 0) ((F + A + i) % 8) (by rw [hgd]; exact hbyte) (Nat.mod_lt _ (by decide))
      obtain ⟨s1, s2⟩ := numB_set x ((F + A + i) / 8) ((F + A + i) % 8) hq (Nat.mod_lt _ (by decide)) hx
      simp only [wicketlaw01_FrameTurned.j5, c3, hb, c4, J1, J2, J3, c5, c6, c7, hrd, hf, et, e2, Int.toNat_natCast, ↓reduceIte]
      have hpow : pat % 2 ^ i < 2 ^ i := Nat.mod_lt _ (Nat.pow_pos (by decide))
      have hmm : pat % 2 ^ (i + 1) = pat % 2 ^ i ^^^ 2 ^ i := by rw [Nat.mod_pow_succ, hbit, Nat.mul_one, pow_xor i _ hpow]
      have hne : pat % 2 ^ (i + 1) ≠ 0 := by
        rw [Nat.mod_pow_succ, hbit, Nat.mul_one]
        exact Nat.ne_of_gt (Nat.lt_of_lt_of_le (Nat.pow_pos (by decide)) (Nat.le_add_left _ _))
      refine ih (i + 1) _ (t + 1) hd s1 (by rw [List.length_set]; exact hxl) ?_ (Nat.succ_le_succ ht) ⟨fun h => absurd h (Nat.succ_ne_zero t), fun h => absurd h hne⟩
      rw [s2, hn, hmm, mul_xor, ← Nat.pow_add, Nat.xor_assoc, Nat.div_add_mod]

theorem open_seal (kind : Int) (l : List Int) (hk : 0 < kind ∧ kind ≤ 255) (hw : Bytes l) (hl : l.length ≤ 2097152) : (openP (sealOf kind l)).2.2.2 = 0 ∧ (openP (sealOf kind l)).2.2.1 = l.length + 9 :=
  (turned_open kind l (sealOf kind l) 0 0 true hk hw hl (sealOf_bytes (by omega) hw) (sealOf_length kind l) (by simp) (by simp) (by decide) (by simp)).1 rfl

theorem frameTurned_ev (kind : Int) (l : List Int) (at0 pat : Int) (os : Bool) (hk : 0 ≤ kind ∧ kind ≤ 255) (hw : Bytes l) (hl : l.length ≤ 1048576) (ha : -9223372036854775808 ≤ at0 ∧ at0 ≤ 9223372036854775807) (hp : 0 ≤ pat ∧ pat < 4294967296) : Ev (fun k => wicketlaw01_FrameTurned.f k kind l at0 pat os) true := by
  have hlive : wicketlaw01_live.f = some true := rfl
  have j0t : ∀ b : Bool, b = true → Ev (fun k => wicketlaw01_FrameTurned.j0 k kind l at0 pat b kind l at0 pat os) true := fun b hb => by
    subst hb
    refine ev_next ?_
    simp only [wicketlaw01_FrameTurned.j0, hlive, Option.bind_some, ↓reduceIte]
    exact Ev.now _
  unfold wicketlaw01_FrameTurned.f
  by_cases h0 : kind = 0
  · simp only [h0, ↓reduceIte] at j0t ⊢
    exact j0t true rfl
  · have hd : decide ((l.length : Int) > 2097152) = false := decide_eq_false (by omega)
    simp only [h0, hd, ↓reduceIte]
    have hs : frame_Seal.f kind l = some (sealOf kind l, 0) := by
      rw [frameSeal_f]
      unfold sealP
      rw [if_neg h0, if_neg (by omega)]
    have c1 : ((sealOf kind l).length : Int) = wrap64 ((l.length : Int) + 9) := by rw [sealOf_length, w64 (by omega) (by omega)]; omega
    have hwS := sealOf_bytes hk hw
    have hlS := sealOf_length kind l
    have hj0 : ∀ k, wicketlaw01_FrameTurned.j0 (k + 1) kind l at0 pat false kind l at0 pat os = wicketlaw01_FrameTurned.j1 k l at0 pat (sealOf kind l) false kind l at0 pat os := fun k => by
      rw [wicketlaw01_FrameTurned.j0, if_neg (by decide), hs, Option.bind_some]
      show (wicketlaw01_num.f 0).bind _ = _
      rw [show wicketlaw01_num.f 0 = some 0 from rfl, Option.bind_some, if_pos rfl, if_pos c1, hlive]
      rfl
    refine Ev.step hj0 ?_
    by_cases hp0 : pat = 0
    · have ho := frameOpen_f (sealOf kind l) (by omega) hwS
      obtain ⟨o1, o2⟩ := open_seal kind l (by omega) hw (by omega)
      have e : (wicketlaw01_num.f (openP (sealOf kind l)).2.2.2) = some 0 := by rw [o1]; rfl
      have e2 : ((openP (sealOf kind l)).2.2.1 == ((sealOf kind l).length : Int)) = true := by rw [o2, hlS]; simp
      refine Ev.step (f := fun _ => some true) (fun k => ?_) (Ev.now _)
      rw [wicketlaw01_FrameTurned.j1, if_neg (by decide), if_pos hp0, ho, Option.bind_some, e, Option.bind_some, if_pos rfl, e2]
    · obtain ⟨P, hP⟩ := Int.eq_ofNat_of_zero_le hp.1
      have go : ∀ (F B : Nat), F = (if os = true then 32 else 64) → B = (if os = true then 32 else 8 * (l.length + 1)) → Ev (fun k => wicketlaw01_FrameTurned.j2 k at0 pat (sealOf kind l) (F : Int) (B : Int)) true := by
        intro F B hF hB
        have hB0 : 0 < B ∧ B ≤ 16777224 := by cases os <;> simp at hB <;> omega
        have hBne : ¬ (B : Int) = 0 := by omega
        have go3 : ∀ z : Int, 0 ≤ z → z ≤ 9223372036854775807 → Ev (fun k => wicketlaw01_FrameTurned.j3 k z pat (sealOf kind l) (F : Int) (B : Int)) true := by
          intro z hz1 hz2
          have hmod : Int.tmod z (B : Int) = ((z.toNat % B : Nat) : Int) := by
            rw [Int.tmod_eq_emod_of_nonneg hz1]
            obtain ⟨n, rfl⟩ := Int.eq_ofNat_of_zero_le hz1
            rw [Int.toNat_natCast]
            rfl
          refine Ev.step (fun k => ?_) (f := fun k => wicketlaw01_FrameTurned.l0 k ((z.toNat % B : Nat) : Int) (P : Int) (sealOf kind l) (F : Int) (B : Int) ((0 : Nat) : Int) ((0 : Nat) : Int)) ?_
          · rw [wicketlaw01_FrameTurned.j3, if_neg hBne, hmod, hP]
            rfl
          refine turned_from kind l os (z.toNat % B) P F B (by omega) hw (by omega) hF hB (Nat.mod_lt _ hB0.1) (by omega) (min 32 (B - z.toNat % B)) 0 _ 0 (by omega) hwS hlS ?_ (by omega) ?_
          · simp [Nat.mod_one]
          · simp [Nat.mod_one]
        by_cases hneg : at0 < 0
        · refine Ev.step (fun k => by rw [wicketlaw01_FrameTurned.j2, if_pos hneg]) (go3 (wrap64 (-(wrap64 (at0 + 1)))) ?_ ?_)
          · rw [w64 (x := at0 + 1) (by omega) (by omega), w64 (by omega) (by omega)]; omega
          · rw [w64 (x := at0 + 1) (by omega) (by omega), w64 (by omega) (by omega)]; omega
        · exact Ev.step (fun k => by rw [wicketlaw01_FrameTurned.j2, if_neg hneg]) (go3 at0 (by omega) ha.2)
      cases os with
      | true =>
        refine Ev.step (fun k => ?_) (go 32 32 rfl rfl)
        rw [wicketlaw01_FrameTurned.j1, if_neg (by decide), if_neg hp0, if_pos rfl]
        rfl
      | false =>
        have e : wrap64 (8 * wrap64 (1 + (l.length : Int))) = ((8 * (l.length + 1) : Nat) : Int) := by rw [w64 (x := 1 + (l.length : Int)) (by omega) (by omega), w64 (by omega) (by omega)]; omega
        refine Ev.step (fun k => ?_) (go 64 (8 * (l.length + 1)) rfl rfl)
        rw [wicketlaw01_FrameTurned.j1, if_neg (by decide), if_neg hp0, if_neg (by decide), e]
        rfl
end Go.Proofs.YtdlfhpkkkhfhdaaDoor.Hand
