/- Wheel: WheelOnce. -/
import Derived.Test.YtkgdlmgodpgcoaaWhlP
namespace Go.Proofs.Ytkgdlmgodpgcoaa.Hand
open Go.RowKit Go.Maps Go.Proofs.YtkgdlmgodpgcoaaW.PrintWords Go.Proofs.YtkgdlmgodpgcoaaW.PrintLast Go.Proofs.YtkgdlmgodpgcoaaW.PrintMore
set_option linter.unusedVariables false
set_option linter.unusedSimpArgs false

abbrev ActT := Int × Int × Int
abbrev kAct : Kd ActT := Kd.iso (Kd.pair (Kd.int .i64) (Kd.pair (Kd.int .u64) (Kd.int .u64))) (fun x => x)
def actN (xs : List ActT) (i : Nat) : ActT := xs.getD i (0, 0, 0)
theorem actN_mem {xs : List ActT} {i : Nat} (h : i < xs.length) : actN xs i ∈ xs := by
  unfold actN
  rw [List.getD_eq_getElem?_getD, List.getElem?_eq_getElem h]
  exact List.getElem_mem h
theorem kAct_open {w : World} {x : ActT} {cs : List Value} (h : kAct.K w x cs) : cs = [.int .i64 x.1, .int .u64 x.2.1, .int .u64 x.2.2] := by
  obtain ⟨_, _, rfl, rfl, _, _, rfl, rfl, rfl⟩ := h
  rfl
theorem act_at {w : World} {A : Option Addr} {n : Nat} {xs : List ActT} (h : kAct.C w A n xs) (i : Nat) (h1 : i < n) : ∃ ad, A = some ad ∧ w.cell? (ad.add (i * 3)) = some (.int .i64 (actN xs i).1) ∧ w.cell? ⟨(ad.add (i * 3)).block, (ad.add (i * 3)).off + 1, none⟩ = some (.int .u64 (actN xs i).2.1) ∧ w.cell? ⟨(ad.add (i * 3)).block, (ad.add (i * 3)).off + 2, none⟩ = some (.int .u64 (actN xs i).2.2) := by
  obtain ⟨ad, c, e, _, hK, hc0⟩ := Kd.C_get h (0, 0, 0) (i : Int) (by omega) (by omega)
  rw [Int.toNat_natCast] at hK hc0
  have hc : ∀ j u, c[j]? = some u → w.cell? (ad.add (i * 3 + j)) = some u := hc0
  obtain rfl := kAct_open hK
  exact ⟨ad, e, hc 0 _ rfl, by rw [← add_field _ _ 1 (by omega)]; exact hc 1 _ rfl, by rw [← add_field _ _ 2 (by omega)]; exact hc 2 _ rfl⟩

/-- What is left of T when the first k of S have been told. -/
def remT (T S : List TimT) (k : Nat) : List TimT := T.filter fun t => !hasId (S.take k) t.1
theorem remT_zero (T S : List TimT) : remT T S 0 = T := by
  unfold remT
  rw [List.take_zero]
  exact List.filter_eq_self.2 (fun _ _ => rfl)
theorem remT_next {T S : List TimT} {k : Nat} (h : k < S.length) : without (remT T S k) (timN S k).1 = remT T S (k + 1) := by
  unfold remT without
  rw [List.filter_filter, List.filter_congr (fun t _ => ?_)]
  rw [take_succ' S k h]
  unfold hasId
  rw [List.any_append, List.any_cons, List.any_nil, Bool.or_false, Bool.not_or, Bool.and_comm]
  congr 2
  rw [Bool.eq_iff_iff]
  simp
  exact ⟨fun h => h.symm, fun h => h.symm⟩
theorem remT_mem {T S : List TimT} {k : Nat} (hN : (S.map (·.1)).Nodup) (hS : ∀ t, t ∈ S → t ∈ T) (h : k < S.length) : timN S k ∈ remT T S k := by
  unfold remT
  rw [List.mem_filter]
  refine ⟨hS _ (timN_mem h), ?_⟩
  rw [Bool.not_eq_true', hasId_false]
  intro u hu e
  obtain ⟨j, hj, rfl⟩ := List.getElem_of_mem hu
  rw [List.length_take] at hj
  have h1 : j < S.length := by omega
  rw [List.getElem_take] at e
  have h2 : (S.map (·.1))[j]'(by simpa using h1) = (S.map (·.1))[k]'(by simpa using h) := by
    rw [List.getElem_map, List.getElem_map, e]
    unfold timN
    rw [List.getD_eq_getElem?_getD, List.getElem?_eq_getElem h]
    rfl
  have h3 := (List.getElem_inj hN).1 h2
  omega
theorem remT_all {T : List TimT} {tz : Int} (hN : (T.map (·.1)).Nodup) : remT T (sorted (T.filter (isOver tz))) (sorted (T.filter (isOver tz))).length = T.filter (isStay tz) := by
  unfold remT
  rw [List.take_length]
  have hts := sorted_perm (T.filter (isOver tz))
  rw [List.filter_congr (fun t ht => ?_)]
  rw [Bool.eq_iff_iff]
  unfold isStay
  simp only [Bool.not_eq_true']
  rw [hasId_false]
  constructor
  · intro h3
    cases ho : isOver tz t with
    | false => rfl
    | true => exact absurd rfl (h3 t (hts.mem_iff.2 (List.mem_filter.2 ⟨ht, ho⟩)))
  · intro h3 u hu e
    obtain ⟨hu1, hu2⟩ := List.mem_filter.1 (hts.mem_iff.1 hu)
    rw [nodup_eq hN hu1 ht e, h3] at hu2
    cases hu2
theorem Wst.facts {w : World} {F : Nat → Prop} {g m : Nat} {now : Int} {Ls : List TimT} (h : Wst w F g m now Ls) : (∀ t, t ∈ Ls → TimOk t ∧ now < t.2) ∧ (Ls.map (·.1)).Nodup ∧ Ls.length ≤ 8192 ∧ U now := by
  obtain ⟨D, R, L, _, _, _, _, hF⟩ := h.out
  exact ⟨hF.ok, hF.nodup, hF.len, hF.now_⟩
structure OnceI (w1 wr : World) (N1 g m : Nat) (F : Nat → Prop) (now : Int) (v : Value) (T : List TimT) : Prop where
  wst : Wst wr F g m now T
  row : RT wr N1 (fun k => ¬ F k) v T
  bel : Below N1 w1 wr
  low : ∀ k, F k → N1 ≤ k
theorem OnceI.size {w1 wr : World} {N1 g m : Nat} {F : Nat → Prop} {now : Int} {v : Value} {T : List TimT} (h : OnceI w1 wr N1 g m F now v T) : N1 ≤ wr.heap.size := Nat.le_of_lt (Nat.lt_of_le_of_lt (h.low g h.wst.hg) (h.wst.lt g h.wst.hg))
theorem OnceI.below {w1 wr w2 : World} {N1 g m : Nat} {F : Nat → Prop} {now : Int} {v : Value} {T : List TimT} (h : OnceI w1 wr N1 g m F now v T) (hb : Below wr.heap.size wr w2) : OnceI w1 w2 N1 g m F now v T :=
  ⟨h.wst.kept (KeptW.of_below (F := fun _ => False) hb) (fun _ _ h => h), Kd.R_below h.row hb, h.bel.trans (hb.mono h.size), h.low⟩
/-- The wheel has gone on; the list as it was. -/
theorem OnceI.went {w1 wr w2 : World} {N1 g m : Nat} {F F' : Nat → Prop} {now now' : Int} {v : Value} {T T' : List TimT} (h : OnceI w1 wr N1 g m F now v T) (hw : Wst w2 F' g m now' T') (hF : ∀ k, F' k → F k ∨ wr.heap.size ≤ k) (hk : KeptW F wr w2) :
    RT w2 N1 (fun k => ¬ F' k) v T ∧ Below N1 w1 w2 ∧ ∀ k, F' k → N1 ≤ k :=
  ⟨KR.kept h.row hk hF, KeptW.belowN h.bel h.size hk h.low, fun k hk2 => by rcases hF k hk2 with h2 | h2; exact h.low k h2; have := h.size; omega⟩
abbrev storyB (now : Int) (A : Option Addr) (n c : Nat) : Obj := .cells #[.int .u64 now, .slice A n c] 52
abbrev actOk (x : ActT) : Prop := U x.2.1 ∧ U x.2.2
set_option maxHeartbeats 8000000 in
set_option maxRecDepth 100000 in
theorem wheelOnce.walk (now0 : Int) (A : Option Addr) (N c : Nat) (acts : List ActT) (w : World) (hC : kAct.C w A N acts) (hU : U now0) (hok : ∀ i, i < acts.length → actOk (actN acts i)) :
    Calls Try.prog 6 #[.agg #[.int .u64 now0, .slice A N c]] w fun e w' => e = .returned (.bool true) ∧ Below w.heap.size w w' := by
  have hN2 : (N : Int) ≤ 9223372036854775807 := by have := hC.2.1; omega
  have HN := Aside0.mk hC.1
  have HC := Aside0.mk hC
  have HOK := Aside0.mk hok
  have HU0 := Aside0.mk hU
  have hx := blk_new w (.cells #[.int .u64 now0, .slice A N c] 52 (0, 0))
  have d0 := (blk_cell hx 0).trans rfl
  have d1 := (blk_cell hx 1).trans rfl
  clear hC hU hok
  go_enter Try.func6, Try.ntmps6
  go_wp2_with fail
  obtain ⟨w1, hw1⟩ : ∃ w1, w1 = w.alloc (.cells #[.int .u64 now0, .slice A N c] 52) := ⟨_, rfl⟩
  obtain ⟨Bx, hBx⟩ : ∃ Bx, Bx = w.heap.size := ⟨_, rfl⟩
  have HB1 : Aside0 (Below w.heap.size w w1 ∧ w1.heap.size = w.heap.size + 1) := ⟨by rw [hw1]; exact below_alloc (Below.refl _ _) _, by rw [hw1]; simp⟩
  rw [← hw1, ← hBx] at hx d0 d1
  rw [← hw1]
  rw [← hBx]
  have HX := Aside0.mk hx
  clear hw1 hx
  have HBx := Aside0.mk hBx
  clear hBx
  refine (wheel_New.wst now0 HU0.out w1).mono ?_
  rintro e w2 ⟨g, m, F0, rfl, hW, hF0, hb2⟩
  have HI0 : Aside0 (OnceI w1 w2 w1.heap.size g m F0 now0 (.slice none 0 0) []) := ⟨⟨hW, Kd.R_nil _ _ _ _ _, hb2, hF0⟩⟩
  have d0' := pw_cell_below hb2 d0
  clear hW hF0 hb2 d1 d0
  go_wp2_with fail
  refine (law_live.calls w2).mono ?_
  rintro e w3 ⟨rfl, hb3⟩
  have HI1 := Aside0.mk (HI0.out.below hb3)
  have d0 := pw_cell_below hb3 d0'
  clear HI0 hb3 d0'
  have HIS : Aside0 (∃ F T, OnceI w1 w3 w1.heap.size g m F now0 (.slice none 0 0) T) := ⟨F0, [], HI1.out⟩
  clear HI1
  go_wp2_with fail
  clear d0
  go_loopw [6, 4, 5] (fun v6 v4 v5 wr => ∃ (i : Nat) (now : Int), i ≤ N ∧ v6 = .int .i64 i ∧ v5 = .int .u64 now ∧ Aside0 (∃ F T, OnceI w1 wr w1.heap.size g m F now v4 T)) (fun v6 _ _ _ => N - (intOf v6).toNat)
  case atStart => exact ⟨0, now0, Nat.zero_le _, rfl, rfl, HIS⟩
  case round =>
    clear HIS
    obtain ⟨i, now, hi, rfl, rfl, HI⟩ := hrel
    obtain ⟨F, T, hI⟩ := HI.out
    clear HI
    have hBx3 := hI.bel.block Bx (by have := HB1.out.2; have := HBx.out; omega)
    have d1 := (blk_cell (hBx3.trans HX.out) 1).trans rfl
    have HI := Aside0.mk hI
    clear hI hBx3
    by_cases hlt : i < N
    · obtain ⟨ad, hA, h0, h1, h2⟩ := act_at (Kd.C_below HC.out (HB1.out.1.trans (HI.out.bel.mono (by have := HB1.out.2; omega)))) i hlt
      obtain ⟨⟨kd, id, at_⟩, hact⟩ : ∃ a, a = actN acts i := ⟨_, rfl⟩
      have hok := HOK.out i (by have := HN.out; omega)
      rw [← hact] at h0 h1 h2 hok
      obtain ⟨hid, hat⟩ := hok
      simp only at h0 h1 h2 hid hat
      subst hA
      have hb4 := below_alloc (Below.refl wr.heap.size wr) (.cells #[.int .i64 kd, .int .u64 id, .int .u64 at_] 54)
      have b4 := blk_new wr (.cells #[.int .i64 kd, .int .u64 id, .int .u64 at_] 54 (0, 0))
      have HI4 := Aside0.mk (HI.out.below hb4)
      have hnB : ¬ F wr.heap.size := fun h => Nat.lt_irrefl _ (HI.out.wst.lt _ h)
      clear HI hb4 hact
      go_upto_region 10 with (fail)
      obtain ⟨B, hBo⟩ : ∃ B, B = wr.heap.size := ⟨_, rfl⟩
      obtain ⟨w4, hw4⟩ : ∃ w4, w4 = wr.alloc (.cells #[.int .i64 kd, .int .u64 id, .int .u64 at_] 54) := ⟨_, rfl⟩
      rw [← hBo, ← hw4] at b4
      rw [← hBo] at hnB
      rw [← hw4] at HI4
      rw [← hw4]
      rw [← hBo]
      have HNB := Aside0.mk hnB
      have HB4 := Aside0.mk b4
      clear hBo hw4 h0 h1 h2 d1 hnB
      have e0 := (blk_cell b4 0).trans rfl
      have d1 := (blk_cell b4 1).trans rfl
      have d2 := (blk_cell b4 2).trans rfl
      by_cases hk1 : kd = 1
      · subst hk1
        clear b4
        go_wp2_with fail
        refine (wheel_Add.all HI4.out.wst id at_ hid hat).mono ?_
        rintro e w5 ⟨rfl, F', hw5, hF5, hk5⟩
        obtain ⟨hr5, hb5, hl5⟩ := HI4.out.went hw5 hF5 hk5
        have b5 := (hk5.same B (blk_lt HB4.out) HNB.out).trans HB4.out
        replace d1 := (blk_cell b5 1).trans rfl
        replace d2 := (blk_cell b5 2).trans rfl
        have HR5 := Aside0.mk hr5
        have HB5 := Aside0.mk hb5
        have HL5 := Aside0.mk hl5
        have HW5 := Aside0.mk hw5
        clear hr5 hb5 hl5 hw5 hF5 hk5 b5 HB4 HNB e0
        by_cases hz : addE now T id at_ = 0
        · have HT : Aside0 (addL now T id at_ = T ++ [(id, at_)]) := ⟨by unfold addL; rw [if_pos hz]⟩
          have hlen : ((T.length + 1) * 16 ≤ 140737488355328) := by have := (addE_zero hz).2.2; omega
          have HLN := Aside0.mk hlen
          have hN5 : w1.heap.size ≤ w5.heap.size := Nat.le_of_lt (Nat.lt_of_le_of_lt (HL5.out g HW5.out.hg) (HW5.out.lt g HW5.out.hg))
          have HN5 := Aside0.mk hN5
          rw [hz]
          clear hz hlen hN5
          go_wp2_with (first | (go_at_call 14; (with_reducible refine (law_num.calls _ _).mono ?_); rintro e wx ⟨rfl, rfl⟩) | ((with_reducible refine gate_builtin (b := .append) (xs := #[.tmp 53, .tmp 59]) rfl ?_); at_builtin; refine Kd.R_append kT (w0 := w1) w1.heap.size rfl (.tmp 53) (.tmp 59) 37 56 (.agg #[.int .u64 0, .int .u64 0]) 16 rfl Try.underlying37 info56 rfl (by decide) (by decide) u4 T (id, at_) [.int .u64 id, .int .u64 at_] (fun k => ¬ F' k) (fun _ => False) rfl rfl (kT_M _ _ _ _) (fun _ h => h.elim) ?aF HR5.out HB5.out HN5.out HLN.out ?_; (case aF => exact (fun k hk hf => by have := HW5.out.lt k hf; omega)); intro v6 w6 ho hb hg hat6; have HNX : Aside0 (∃ F T, OnceI w1 w6 w1.heap.size g m F now v6 T) := ⟨⟨F', T ++ [(id, at_)], ⟨by rw [← HT.out]; exact HW5.out.kept (KeptW.of_grown hg) (fun k hk e => HR5.out.1 k e hk), ho, hb, HL5.out⟩⟩⟩; clear ho hb hg hat6))
          clear HI4 HR5 HB5 HL5 HW5
          go_roundw
          case rel => exact ⟨i + 1, _, by omega, by go_num, rfl, HNX⟩
          case measure => simp [intOf]; omega
        · have b0 : (addE now T id at_ == 0) = false := beq_eq_false_iff_ne.mpr hz
          have HNX : Aside0 (∃ F T, OnceI w1 w5 w1.heap.size g m F now u4 T) := ⟨⟨F', T, ⟨by have h := HW5.out; unfold addL at h; rw [if_neg hz] at h; exact h, HR5.out, HB5.out, HL5.out⟩⟩⟩
          obtain ⟨ee, hee⟩ : ∃ ee, ee = addE now T id at_ := ⟨_, rfl⟩
          rw [← hee] at b0
          rw [← hee]
          clear hz hee HI4 HR5 HB5 HL5 HW5
          go_wp2_with (go_at_call 14; (with_reducible refine (law_num.calls _ _).mono ?_); rintro e wx ⟨rfl, rfl⟩)
          go_roundw
          case rel => exact ⟨i + 1, _, by omega, by go_num, rfl, HNX⟩
          case measure => simp [intOf]; omega
      · have k1 : (kd == 1) = false := beq_eq_false_iff_ne.mpr hk1
        by_cases hk2 : kd = 2
        · subst hk2
          clear b4 hk1 k1
          go_wp2_with fail
          refine (wheel_Remove.all HI4.out.wst id hid).mono ?_
          rintro e w5 ⟨rfl, F', hw5, hF5, hk5⟩
          obtain ⟨hr5, hb5, hl5⟩ := HI4.out.went hw5 hF5 hk5
          have b5 := (hk5.same B (blk_lt HB4.out) HNB.out).trans HB4.out
          replace d1 := (blk_cell b5 1).trans rfl
          have HR5 := Aside0.mk hr5
          have HB5 := Aside0.mk hb5
          have HL5 := Aside0.mk hl5
          have HW5 := Aside0.mk hw5
          clear hr5 hb5 hl5 hw5 hF5 hk5 b5 HB4 HNB e0 d2
          by_cases hh : hasId T id = true
          · have hz : remE T id = 0 := by unfold remE; rw [if_pos hh]
            rw [hz]
            obtain ⟨A4, c4, hv4⟩ := Kd.R_slice HR5.out
            have hCT := (Kd.R_reads' (hv4 ▸ HR5.out)).2.2
            obtain ⟨NT, hNT⟩ : ∃ NT, NT = T.length := ⟨_, rfl⟩
            rw [← hNT] at hv4 hCT
            have HCT := Aside0.mk hCT
            have HTL : Aside0 (T.length ≤ 1000000) := ⟨by have := HI4.out.wst.facts.2.2.1; omega⟩
            subst hv4
            clear hz hh hNT hCT
            go_wp2_with (go_at_call 14; (with_reducible refine (law_num.calls _ _).mono ?_); rintro e wx ⟨rfl, rfl⟩)
            refine (law_out.calls A4 NT c4 id T _ HCT.out HTL.out).mono ?_
            rintro e w6 ⟨v6, rfl, hr6, hb6⟩
            have HNX : Aside0 (∃ F T, OnceI w1 w6 w1.heap.size g m F now v6 T) := ⟨⟨F', without T id, ⟨HW5.out.kept (KeptW.of_below (F := fun _ => False) hb6) (fun _ _ h => h), Kd.R_mono (Kd.R_lower (Kd.R_bound hr6) (Nat.le_of_lt (Nat.lt_of_le_of_lt (HL5.out g HW5.out.hg) (HW5.out.lt g HW5.out.hg)))) (fun k hk hf => by have := HW5.out.lt k hf; have := hk.2.1; omega), HB5.out.trans (hb6.mono (Nat.le_of_lt (Nat.lt_of_le_of_lt (HL5.out g HW5.out.hg) (HW5.out.lt g HW5.out.hg)))), HL5.out⟩⟩⟩
            clear hr6 hb6 HI4 HR5 HB5 HL5 HW5 HCT HTL
            go_wp2_with fail
            go_roundw
            case rel => exact ⟨i + 1, _, by omega, by go_num, rfl, HNX⟩
            case measure => simp [intOf]; omega
          · have hz : remE T id = 7 := by unfold remE; rw [if_neg hh]
            rw [hz]
            have HNX : Aside0 (∃ F T, OnceI w1 w5 w1.heap.size g m F now u4 T) := ⟨⟨F', T, ⟨by have h := HW5.out; rw [without_self (by simpa using hh)] at h; exact h, HR5.out, HB5.out, HL5.out⟩⟩⟩
            clear hz hh HI4 HR5 HB5 HL5 HW5
            go_wp2_with (go_at_call 14; (with_reducible refine (law_num.calls _ _).mono ?_); rintro e wx ⟨rfl, rfl⟩)
            go_roundw
            case rel => exact ⟨i + 1, _, by omega, by go_num, rfl, HNX⟩
            case measure => simp [intOf]; omega
        · have k2 : (kd == 2) = false := beq_eq_false_iff_ne.mpr hk2
          by_cases hk4 : kd = 4
          · subst hk4
            clear b4 hk1 k1 hk2 k2 d1
            by_cases hlt4 : at_ < now
            · go_wp2_with fail
              refine (wheel_Advance.back HI4.out.wst at_ hlt4).mono ?_
              rintro e w5 ⟨rfl, rfl⟩
              have bg : decide (at_ ≥ now) = false := decide_eq_false (by omega)
              have HNX : Aside0 (∃ F T, OnceI w1 w5.drew w1.heap.size g m F now u4 T) := ⟨⟨F, T, HI4.out.below (below_drew1 (Below.refl w5.heap.size w5))⟩⟩
              clear hlt4 HI4 HB4 HNB e0
              go_wp2_with fail
              refine start_ (n := 8) (S := fun w' => w'.cell? ⟨B, 2, none⟩ = some (.int .u64 at_)) (ds := []) #[false, false, false, false, false, false, false, false] (by kernel_rfl) rfl rfl (d2) (fun hHeld => ?_)
              refine pure_ (i := 0) (N := some 82) (v := ?_) (a' := ?_) #[true, false, false, false, false, false, false, false] rfl rfl (by kernel_rfl) (fun _ _ _ h => h) (Or.inl ⟨by rfl, ?_⟩) ?_ ?_
              rotate_left
              · intro w'
                go_simp
                with_reducible rfl
              rotate_left
              · simp only [Act.put, List.setIfInBounds_toArray, List.set_cons_zero, List.set_cons_succ, i64_w, i32_w]
                rfl
              refine pure_ (i := 3) (N := some 85) (v := ?_) (a' := ?_) #[true, false, false, true, false, false, false, false] rfl rfl (by kernel_rfl) (fun _ _ _ h => h) (Or.inl ⟨by rfl, ?_⟩) ?_ ?_
              rotate_left
              · intro w'
                go_simp
                with_reducible rfl
              rotate_left
              · simp only [Act.put, List.setIfInBounds_toArray, List.set_cons_zero, List.set_cons_succ, i64_w, i32_w]
                rfl
              refine pure_ (i := 5) (N := some 87) (v := ?_) (a' := ?_) #[true, false, false, true, false, true, false, false] rfl rfl (by kernel_rfl) (fun _ _ _ h => h) (Or.inl ⟨by rfl, ?_⟩) ?_ ?_
              rotate_left
              · intro w'
                go_simp
                with_reducible rfl
              rotate_left
              · simp only [Act.put, List.setIfInBounds_toArray, List.set_cons_zero, List.set_cons_succ, i64_w, i32_w]
                rfl
              refine take_ (i := 4) (N := some 86) (v := ?_) (a' := ?_) #[true, false, false, true, true, true, false, false] rfl rfl (by kernel_rfl) (fun _ _ _ h => h) (Or.inl ⟨by rfl, ?_⟩) hHeld ?_ ?_
              rotate_left
              · intro w' s0
                go_simp
                with_reducible rfl
              rotate_left
              · simp only [Act.put, List.setIfInBounds_toArray, List.set_cons_zero, List.set_cons_succ, i64_w, i32_w]
                rfl
              refine pure_ (i := 6) (N := some 88) (v := ?_) (a' := ?_) #[true, false, false, true, true, true, true, false] rfl rfl (by kernel_rfl) (fun _ _ _ h => h) (Or.inl ⟨by rfl, ?_⟩) ?_ ?_
              rotate_left
              · intro w'
                go_simp
                with_reducible rfl
              rotate_left
              · simp only [Act.put, List.setIfInBounds_toArray, List.set_cons_zero, List.set_cons_succ, i64_w, i32_w]
                rfl
              refine one_ (i := 1) (N := some 83) #[true, true, false, true, true, true, true, false] rfl rfl (by kernel_rfl) (by decide) (fun K hK => ?_)
              refine goes_ Try.func14 (by kernel_rfl) rfl #[.int .i64 70] (by rfl) rfl rfl (by simp only [List.map_toArray, List.map_cons, List.map_nil]; rfl) ?_
              with_reducible refine (law_num.calls _ _).mono ?_
              rintro e wx ⟨rfl, rfl⟩
              refine ⟨_, rfl, ?_⟩
              refine hK.out _ _ (hHeld) (fun hHeld => ?_)
              clear hK K
              refine norm_ (a' := ?_) ?_ ?_
              rotate_left
              · show Act.put _ (some 83) _ = _
                simp only [Act.put, List.setIfInBounds_toArray, List.set_cons_zero, List.set_cons_succ, i64_w, i32_w]
                rfl
              refine pure_ (i := 2) (N := some 84) (v := ?_) (a' := ?_) #[true, true, true, true, true, true, true, false] rfl rfl (by kernel_rfl) (fun _ _ _ h => h) (Or.inl ⟨by rfl, ?_⟩) ?_ ?_
              rotate_left
              · intro w'
                go_simp
                with_reducible rfl
              rotate_left
              · simp only [Act.put, List.setIfInBounds_toArray, List.set_cons_zero, List.set_cons_succ, i64_w, i32_w]
                rfl
              refine pure_ (i := 7) (N := some 89) (v := ?_) (a' := ?_) #[true, true, true, true, true, true, true, true] rfl rfl (by kernel_rfl) (fun _ _ _ h => h) (Or.inl ⟨by rfl, ?_⟩) ?_ ?_
              rotate_left
              · intro w'
                go_simp
                with_reducible rfl
              rotate_left
              · simp only [Act.put, List.setIfInBounds_toArray, List.set_cons_zero, List.set_cons_succ, i64_w, i32_w]
                rfl
              refine done_ (by kernel_rfl) ?_
              go_wp2_with (go_at_call 14; (with_reducible refine (law_num.calls _ _).mono ?_); rintro e wx ⟨rfl, rfl⟩)
              go_roundw
              case rel => exact ⟨i + 1, _, by omega, by go_num, rfl, HNX⟩
              case measure => simp [intOf]; omega
            · go_wp2_with fail
              refine (wheel_Advance.all HI4.out.wst at_ hat (by omega)).mono ?_
              rintro e w5 ⟨v, F', rfl, hw5, hF5, hk5, hnr⟩
              obtain ⟨hr5, hb5, hl5⟩ := HI4.out.went hw5 hF5 hk5
              have b5 := (hk5.same B (blk_lt HB4.out) HNB.out).trans HB4.out
              replace d2 := (blk_cell b5 2).trans rfl
              have bg : decide (at_ ≥ now) = true := decide_eq_true (by omega)
              obtain ⟨Av, cv, hv⟩ := Kd.R_slice hnr
              have hIC := (Kd.R_reads' (hv ▸ hnr)).2.2
              have hfs := HI4.out.wst.facts
              have hbd := below_drew1 (Below.refl w5.heap.size w5)
              obtain ⟨S, hS⟩ : ∃ S, S = sorted (T.filter (isOver at_)) := ⟨_, rfl⟩
              rw [← hS] at hv hIC
              obtain ⟨M, hM⟩ : ∃ M, M = (S.map (·.1)).length := ⟨_, rfl⟩
              rw [← hM] at hv hIC
              subst hv
              have hSM : S.length = M := by rw [hM, List.length_map]
              have HSM := Aside0.mk hSM
              have HS := Aside0.mk hS
              have HMF : Aside0 (M = (T.filter (isOver at_)).length) := ⟨by rw [← hSM, hS, sorted_length]⟩
              have HFS := Aside0.mk hfs
              have HSN : Aside0 ((S.map (·.1)).Nodup ∧ ∀ t, t ∈ S → t ∈ T ∧ t.2 ≤ at_) := ⟨by
                have hp := sorted_perm (T.filter (isOver at_))
                rw [← hS] at hp
                refine ⟨((hp.map _).nodup_iff).2 (hfs.2.1.sublist (List.Sublist.map _ (List.filter_sublist))), fun t ht => ?_⟩
                obtain ⟨h1, h2⟩ := List.mem_filter.1 (hp.mem_iff.1 ht)
                unfold isOver at h2
                exact ⟨h1, by simpa using h2⟩⟩
              have hN5 : w1.heap.size ≤ w5.heap.size := Nat.le_of_lt (Nat.lt_of_le_of_lt (hl5 g hw5.hg) (hw5.lt g hw5.hg))
              have HW6 := Aside0.mk (hw5.kept (KeptW.of_below (F := fun _ => False) hbd) (fun _ _ h => h))
              have HR6 := Aside0.mk (Kd.R_below hr5 hbd)
              have HB6 := Aside0.mk (hb5.trans (hbd.mono hN5))
              have HL6 := Aside0.mk hl5
              have HIC6 := Aside0.mk (Kd.C_below hIC hbd)
              clear e0 hlt4 hr5 hb5 hl5 hw5 hF5 hk5 hnr b5 HB4 HNB HI4 hIC hS hM hSM hfs hbd hN5
              go_wp2_with fail
              refine start_ (n := 8) (S := fun w' => w'.cell? ⟨B, 2, none⟩ = some (.int .u64 at_)) (ds := []) #[false, false, false, false, false, false, false, false] (by kernel_rfl) rfl rfl (d2) (fun hHeld => ?_)
              refine pure_ (i := 0) (N := some 82) (v := ?_) (a' := ?_) #[true, false, false, false, false, false, false, false] rfl rfl (by kernel_rfl) (fun _ _ _ h => h) (Or.inl ⟨by rfl, ?_⟩) ?_ ?_
              rotate_left
              · intro w'
                go_simp
                with_reducible rfl
              rotate_left
              · simp only [Act.put, List.setIfInBounds_toArray, List.set_cons_zero, List.set_cons_succ, i64_w, i32_w]
                rfl
              refine pure_ (i := 3) (N := some 85) (v := ?_) (a' := ?_) #[true, false, false, true, false, false, false, false] rfl rfl (by kernel_rfl) (fun _ _ _ h => h) (Or.inl ⟨by rfl, ?_⟩) ?_ ?_
              rotate_left
              · intro w'
                go_simp
                with_reducible rfl
              rotate_left
              · simp only [Act.put, List.setIfInBounds_toArray, List.set_cons_zero, List.set_cons_succ, i64_w, i32_w]
                rfl
              refine pure_ (i := 5) (N := some 87) (v := ?_) (a' := ?_) #[true, false, false, true, false, true, false, false] rfl rfl (by kernel_rfl) (fun _ _ _ h => h) (Or.inl ⟨by rfl, ?_⟩) ?_ ?_
              rotate_left
              · intro w'
                go_simp
                with_reducible rfl
              rotate_left
              · simp only [Act.put, List.setIfInBounds_toArray, List.set_cons_zero, List.set_cons_succ, i64_w, i32_w]
                rfl
              refine take_ (i := 4) (N := some 86) (v := ?_) (a' := ?_) #[true, false, false, true, true, true, false, false] rfl rfl (by kernel_rfl) (fun _ _ _ h => h) (Or.inl ⟨by rfl, ?_⟩) hHeld ?_ ?_
              rotate_left
              · intro w' s0
                go_simp
                with_reducible rfl
              rotate_left
              · simp only [Act.put, List.setIfInBounds_toArray, List.set_cons_zero, List.set_cons_succ, i64_w, i32_w]
                rfl
              refine pure_ (i := 6) (N := some 88) (v := ?_) (a' := ?_) #[true, false, false, true, true, true, true, false] rfl rfl (by kernel_rfl) (fun _ _ _ h => h) (Or.inl ⟨by rfl, ?_⟩) ?_ ?_
              rotate_left
              · intro w'
                go_simp
                with_reducible rfl
              rotate_left
              · simp only [Act.put, List.setIfInBounds_toArray, List.set_cons_zero, List.set_cons_succ, i64_w, i32_w]
                rfl
              refine one_ (i := 1) (N := some 83) #[true, true, false, true, true, true, true, false] rfl rfl (by kernel_rfl) (by decide) (fun K hK => ?_)
              refine goes_ Try.func14 (by kernel_rfl) rfl #[.int .i64 0] (by rfl) rfl rfl (by simp only [List.map_toArray, List.map_cons, List.map_nil]; rfl) ?_
              with_reducible refine (law_num.calls _ _).mono ?_
              rintro e wx ⟨rfl, rfl⟩
              refine ⟨_, rfl, ?_⟩
              refine hK.out _ _ (hHeld) (fun hHeld => ?_)
              clear hK K
              refine norm_ (a' := ?_) ?_ ?_
              rotate_left
              · show Act.put _ (some 83) _ = _
                simp only [Act.put, List.setIfInBounds_toArray, List.set_cons_zero, List.set_cons_succ, i64_w, i32_w]
                rfl
              refine pure_ (i := 2) (N := some 84) (v := ?_) (a' := ?_) #[true, true, true, true, true, true, true, false] rfl rfl (by kernel_rfl) (fun _ _ _ h => h) (Or.inl ⟨by rfl, ?_⟩) ?_ ?_
              rotate_left
              · intro w'
                go_simp
                with_reducible rfl
              rotate_left
              · simp only [Act.put, List.setIfInBounds_toArray, List.set_cons_zero, List.set_cons_succ, i64_w, i32_w]
                rfl
              refine pure_ (i := 7) (N := some 89) (v := ?_) (a' := ?_) #[true, true, true, true, true, true, true, true] rfl rfl (by kernel_rfl) (fun _ _ _ h => h) (Or.inl ⟨by rfl, ?_⟩) ?_ ?_
              rotate_left
              · intro w'
                go_simp
                with_reducible rfl
              rotate_left
              · simp only [Act.put, List.setIfInBounds_toArray, List.set_cons_zero, List.set_cons_succ, i64_w, i32_w]
                rfl
              refine done_ (by kernel_rfl) ?_
              obtain ⟨w6, hw6⟩ : ∃ w6, w6 = w5.drew := ⟨_, rfl⟩
              replace d2 : w5.drew.cell? ⟨B, 2, none⟩ = some (.int .u64 at_) := d2
              rw [← hw6] at HW6 HR6 HB6 HIC6 d2
              rw [← hw6]
              clear hw6 hHeld
              obtain ⟨A4, c4, hv4⟩ := Kd.R_slice HR6.out
              have hCT := (Kd.R_reads' (hv4 ▸ HR6.out)).2.2
              obtain ⟨NT, hNT⟩ : ∃ NT, NT = T.length := ⟨_, rfl⟩
              rw [← hNT] at hv4 hCT
              have HCT := Aside0.mk hCT
              have HNT := Aside0.mk hNT
              have hNTB : NT ≤ 8192 := by rw [hNT]; exact HFS.out.2.2.1
              have hMB : M ≤ 8192 := by rw [HMF.out]; exact Nat.le_trans (List.length_filter_le _ _) HFS.out.2.2.1
              subst hv4
              clear hCT hNT
              have HA0 : Aside0 (0 = ((T.take 0).filter (isOver at_)).length) := ⟨rfl⟩
              go_wp2_with (go_at_call 14; (with_reducible refine (law_num.calls _ _).mono ?_); rintro e wx ⟨rfl, rfl⟩)
              go_loopw [11, 10] (fun v11 v10 wr => ∃ k n : Nat, k ≤ NT ∧ n ≤ k ∧ v11 = .int .i64 k ∧ v10 = .int .i64 n ∧ wr = wx ∧ Aside0 (n = ((T.take k).filter (isOver at_)).length)) (fun v11 _ _ => NT - (intOf v11).toNat)
              case atStart => exact ⟨0, 0, Nat.zero_le _, Nat.le_refl _, rfl, rfl, rfl, HA0⟩
              case round =>
                clear HA0
                obtain ⟨k, n, hk, hnk, rfl, rfl, rfl, HA⟩ := hrel
                by_cases hkl : k < NT
                · obtain ⟨ad, hA, h0, h1⟩ := tim_at HCT.out k hkl
                  subst hA
                  obtain ⟨⟨ti, ta⟩, htm⟩ : ∃ t, t = timN T k := ⟨_, rfl⟩
                  rw [← htm] at h1
                  simp only at h1
                  have HTM := Aside0.mk htm
                  clear htm h0
                  by_cases hle : ta ≤ at_
                  · have b1 : decide (ta ≤ at_) = true := decide_eq_true hle
                    have HA2 : Aside0 (n + 1 = ((T.take (k + 1)).filter (isOver at_)).length) := ⟨by
                      rw [filter_next _ T k (by have := HNT.out; omega), ← HTM.out, if_pos (by unfold isOver; exact b1), List.length_append, ← HA.out]; rfl⟩
                    clear hle HA
                    go_wp2_with fail
                    go_roundw
                    case rel => exact ⟨k + 1, n + 1, by omega, by omega, by go_num, by go_num, trivial, HA2⟩
                    case measure => simp [intOf]; omega
                  · have b1 : decide (ta ≤ at_) = false := decide_eq_false hle
                    have HA2 : Aside0 (n = ((T.take (k + 1)).filter (isOver at_)).length) := ⟨by
                      rw [filter_next _ T k (by have := HNT.out; omega), ← HTM.out, if_neg (by unfold isOver; rw [b1]; decide), List.append_nil, ← HA.out]⟩
                    clear hle HA
                    go_wp2_with fail
                    go_roundw
                    case rel => exact ⟨k + 1, n, by omega, by omega, by go_num, rfl, trivial, HA2⟩
                    case measure => simp [intOf]; omega
                · obtain rfl : k = NT := by omega
                  obtain rfl : M = n := by
                    have hf : T.take k = T := by rw [HNT.out, List.take_length]
                    have h := HA.out
                    rw [hf, ← HMF.out] at h
                    exact h.symm
                  have bM : ((M : Int) == (M : Int)) = true := beq_self_eq_true _
                  have HQ0 : Aside0 (Wst wr F' g m at_ (T.filter (isStay at_)) ∧ RT wr w1.heap.size (fun k => ¬ F' k) (.slice A4 k c4) (remT T S 0) ∧ Below w1.heap.size w1 wr ∧ IC wr Av M (S.map (·.1))) := ⟨HW6.out, by rw [remT_zero]; exact HR6.out, HB6.out, HIC6.out⟩
                  clear HA HW6 HR6 HB6 HIC6
                  go_wp2_with fail
                  go_loopw [12, 4] (fun v12 v4 wr => ∃ k : Nat, k ≤ M ∧ v12 = .int .i64 k ∧ Aside0 (Wst wr F' g m at_ (T.filter (isStay at_)) ∧ RT wr w1.heap.size (fun k => ¬ F' k) v4 (remT T S k) ∧ Below w1.heap.size w1 wr ∧ IC wr Av M (S.map (·.1)))) (fun v12 _ _ => M - (intOf v12).toNat)
                  case atStart => exact ⟨0, Nat.zero_le _, rfl, HQ0⟩
                  case round =>
                    clear HQ0
                    obtain ⟨k, hk, rfl, HQ⟩ := hrel
                    by_cases hkm : k < M
                    · obtain ⟨av, hAv, f0⟩ := ic_at HQ.out.2.2.2 k hkm
                      obtain ⟨⟨ti, ta⟩, htm⟩ : ∃ t, t = timN S k := ⟨_, rfl⟩
                      have hgd : (S.map (·.1)).getD k 0 = ti := by
                        have hl : k < S.length := by have := HSM.out; omega
                        rw [List.getD_eq_getElem?_getD, List.getElem?_eq_getElem (by simpa using hl), List.getElem_map]
                        unfold timN at htm
                        rw [List.getD_eq_getElem?_getD, List.getElem?_eq_getElem hl] at htm
                        exact (congrArg (·.1) htm).symm
                      rw [hgd] at f0
                      subst hAv
                      have hmem := remT_mem HSN.out.1 (fun t ht => (HSN.out.2 t ht).1) (k := k) (T := T) (by have := HSM.out; omega)
                      rw [← htm] at hmem
                      have hsub : ((remT T S k).map (·.1)).Nodup := HFS.out.2.1.sublist (List.Sublist.map _ (List.filter_sublist))
                      have hat1 : atOf (remT T S k) ti = ta := atOf_mem hsub hmem
                      have hhas : hasId (remT T S k) ti = true := by
                        unfold hasId
                        rw [List.any_eq_true]
                        exact ⟨_, hmem, by simp⟩
                      have hta : decide (ta > at_) = false := decide_eq_false (by
                        have h := (HSN.out.2 (timN S k) (timN_mem (by have := HSM.out; omega))).2
                        rw [← htm] at h
                        simp only at h
                        omega)
                      have hnx : without (remT T S k) ti = remT T S (k + 1) := by
                        have h := remT_next (T := T) (S := S) (k := k) (by have := HSM.out; omega)
                        rw [← htm] at h
                        exact h
                      obtain ⟨A5, c5, hv5⟩ := Kd.R_slice HQ.out.2.1
                      have hC5 := (Kd.R_reads' (hv5 ▸ HQ.out.2.1)).2.2
                      have hl5 : (remT T S k).length ≤ 1000000 := Nat.le_trans (List.length_filter_le _ _) (by have := HFS.out.2.2.1; omega)
                      obtain ⟨N5, hN5⟩ : ∃ N5, N5 = (remT T S k).length := ⟨_, rfl⟩
                      rw [← hN5] at hv5 hC5
                      have HC5 := Aside0.mk hC5
                      have HL5 := Aside0.mk hl5
                      have HNX5 := Aside0.mk hnx
                      subst hv5
                      clear hmem hsub hgd htm hC5 hl5 hnx hN5
                      go_wp2_with fail
                      refine (law_due.calls A5 N5 c5 ti (remT T S k) _ HC5.out).mono ?_
                      rintro e w7 ⟨rfl, rfl⟩
                      rw [hat1, hhas]
                      clear hat1 hhas
                      go_wp2_with fail
                      refine (law_out.calls A5 N5 c5 ti (remT T S k) _ HC5.out HL5.out).mono ?_
                      rintro e w8 ⟨v8, rfl, hr8, hb8⟩
                      rw [HNX5.out] at hr8
                      have HQ2 : Aside0 (Wst w8 F' g m at_ (T.filter (isStay at_)) ∧ RT w8 w1.heap.size (fun k => ¬ F' k) v8 (remT T S (k + 1)) ∧ Below w1.heap.size w1 w8 ∧ IC w8 (some av) M (S.map (·.1))) := ⟨by
                        obtain ⟨q1, q2, q3, q4⟩ := HQ.out
                        have hsz : w1.heap.size ≤ w7.heap.size := Nat.le_of_lt (Nat.lt_of_le_of_lt (HL6.out g q1.hg) (q1.lt g q1.hg))
                        exact ⟨q1.kept (KeptW.of_below (F := fun _ => False) hb8) (fun _ _ h => h), Kd.R_mono (Kd.R_lower (Kd.R_bound hr8) hsz) (fun k hk hf => by have := q1.lt k hf; have := hk.2.1; omega), q3.trans (hb8.mono hsz), Kd.C_below q4 hb8⟩⟩
                      clear HQ HC5 HL5 HNX5 hr8 hb8 f0 hta
                      go_wp2_with fail
                      go_roundw
                      case rel => exact ⟨k + 1, by omega, by go_num, HQ2⟩
                      case measure => simp [intOf]; omega
                    · obtain rfl : k = M := by omega
                      have HNX : Aside0 (∃ F T, OnceI w1 wr w1.heap.size g m F at_ u4 T) := ⟨⟨F', T.filter (isStay at_), ⟨HQ.out.1, by
                        have h := HQ.out.2.1
                        rw [← HSM.out, HS.out, remT_all HFS.out.2.1] at h
                        exact h, HQ.out.2.2.1, HL6.out⟩⟩⟩
                      clear HQ
                      go_wp2_with fail
                      go_roundw
                      case rel => exact ⟨i + 1, _, by omega, by go_num, rfl, HNX⟩
                      case measure => simp [intOf]; omega
          · have k4 : (kd == 4) = false := beq_eq_false_iff_ne.mpr hk4
            have HNX : Aside0 (∃ F T, OnceI w1 w4 w1.heap.size g m F now u4 T) := ⟨⟨F, T, HI4.out⟩⟩
            clear hk1 hk2 hk4 b4 HI4 HB4 HNB
            go_wp2_with fail
            go_roundw
            case rel => exact ⟨i + 1, _, by omega, by go_num, rfl, HNX⟩
            case measure => simp [intOf]; omega
    · obtain rfl : i = N := by omega
      obtain ⟨A4, c4, hv4⟩ := Kd.R_slice HI.out.row
      have hCT := (Kd.R_reads' (hv4 ▸ HI.out.row)).2.2
      obtain ⟨NT, hNT⟩ : ∃ NT, NT = T.length := ⟨_, rfl⟩
      rw [← hNT] at hv4 hCT
      have HCT := Aside0.mk hCT
      have HNT := Aside0.mk hNT
      have HFS := Aside0.mk HI.out.wst.facts
      have hNTB : NT ≤ 8192 := by rw [hNT]; exact HFS.out.2.2.1
      subst hv4
      clear hCT hNT
      go_wp2_with fail
      refine (wheel_Len.all HI.out.wst).mono ?_
      rintro e w5 ⟨rfl, rfl⟩
      rw [← HNT.out]
      go_wp2_with fail
      refine (wheel_Now.all HI.out.wst).mono ?_
      rintro e w6 ⟨rfl, rfl⟩
      go_wp2_with fail
      go_loopw [15] (fun v15 wr => ∃ k : Nat, k ≤ NT ∧ v15 = .int .i64 k ∧ wr = w6) (fun v15 _ => NT - (intOf v15).toNat)
      case atStart => exact ⟨0, Nat.zero_le _, rfl, rfl⟩
      case round =>
        obtain ⟨k, hk, rfl, rfl⟩ := hrel
        by_cases hkl : k < NT
        · obtain ⟨ad, hA, h0, h1⟩ := tim_at HCT.out k hkl
          subst hA
          obtain ⟨⟨ti, ta⟩, htm⟩ : ∃ t, t = timN T k := ⟨_, rfl⟩
          have hmem : timN T k ∈ T := timN_mem (by have := HNT.out; omega)
          rw [← htm] at h0 h1 hmem
          simp only at h0 h1
          obtain ⟨hok, hlt2⟩ := HFS.out.1 _ hmem
          have hat1 : atOf T ti = ta := atOf_mem HFS.out.2.1 hmem
          have hhas : hasId T ti = true := by
            unfold hasId
            rw [List.any_eq_true]
            exact ⟨_, hmem, by simp⟩
          have b1 : decide (ta ≤ now) = false := decide_eq_false (by simp only at hlt2; omega)
          have hti : U ti := hok.1
          clear htm hmem hok hlt2
          go_wp2_with fail
          refine (wheel_At.all HI.out.wst ti hti).mono ?_
          rintro e w7 ⟨rfl, rfl⟩
          rw [hat1, hhas]
          clear hat1 hhas
          go_wp2_with fail
          go_roundw
          case rel => exact ⟨k + 1, by omega, by go_num, trivial⟩
          case measure => simp [intOf]; omega
        · obtain rfl : k = NT := by omega
          go_wp2_with fail
          go_ret
          exact ⟨rfl, HB1.out.1.trans (HI.out.bel.mono (by have := HB1.out.2; omega))⟩
end Go.Proofs.Ytkgdlmgodpgcoaa.Hand
