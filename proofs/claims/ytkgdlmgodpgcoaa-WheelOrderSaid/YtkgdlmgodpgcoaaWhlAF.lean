/- Wheel: WheelOrder. -/
import Derived.Test.YtkgdlmgodpgcoaaWhlAD
namespace Go.Proofs.Ytkgdlmgodpgcoaa.Hand
open Go.RowKit Go.Maps Go.Proofs.YtkgdlmgodpgcoaaW.PrintWords Go.Proofs.YtkgdlmgodpgcoaaW.PrintLast Go.Proofs.YtkgdlmgodpgcoaaW.PrintMore
set_option linter.unusedVariables false
set_option linter.unusedSimpArgs false

theorem ct_cells {w : World} {ad : Addr} {N : Nat} {l : List TimT} (h : CT w (some ad) N l) (i : Nat) (hi : i < N) {t : TimT} (e : t = timN l i) : w.cell? (ad.add (i * 2)) = some (.int .u64 t.1) ∧ w.cell? ⟨(ad.add (i * 2)).block, (ad.add (i * 2)).off + 1, none⟩ = some (.int .u64 t.2) := by
  obtain ⟨ad', hA, h0, h1⟩ := tim_at h i hi
  injection hA with hA
  subst hA e
  exact ⟨h0, h1⟩
theorem rt_cells {w : World} {base N c : Nat} {ok : Nat → Prop} {ad : Addr} {l : List TimT} (h : RT w base ok (.slice (some ad) N c) l) (i : Nat) (hi : i < l.length) {t : TimT} (e : t = timN l i) : w.cell? (ad.add (i * 2)) = some (.int .u64 t.1) ∧ w.cell? ⟨(ad.add (i * 2)).block, (ad.add (i * 2)).off + 1, none⟩ = some (.int .u64 t.2) :=
  ct_cells (Kd.R_reads' h).2.2 i hi e
theorem ic_cells {w : World} {ad : Addr} {N : Nat} {l : List Int} (h : IC w (some ad) N l) (i : Nat) (hi : i < N) : w.cell? (ad.add i) = some (.int .u64 (l.getD i 0)) := by
  obtain ⟨ad', hA, h0⟩ := ic_at h i hi
  injection hA with hA
  subst hA
  exact h0
/-- Two wheels and a list of timers. -/
structure OrdI (w0 w : World) (F1 F2 : Nat → Prop) (g m g2 m2 : Nat) (now : Int) (L1 L2 K : List TimT) (v : Value) : Prop where
  two : Two w0 w F1 F2 g m now L1 g2 m2 now L2
  row : RT w w0.heap.size (fun k => ¬ (F1 k ∨ F2 k)) v K
theorem OrdI.below {w0 w w' : World} {F1 F2 : Nat → Prop} {g m g2 m2 : Nat} {now : Int} {L1 L2 K : List TimT} {v : Value} (h : OrdI w0 w F1 F2 g m g2 m2 now L1 L2 K v) (hb : Below w.heap.size w w') : OrdI w0 w' F1 F2 g m g2 m2 now L1 L2 K v :=
  ⟨h.two.below hb, Kd.R_below h.row hb⟩
theorem OrdI.first {w0 w w' : World} {F1 F1' F2 : Nat → Prop} {g m g2 m2 : Nat} {now : Int} {L1 L1' L2 K : List TimT} {v : Value} (h : OrdI w0 w F1 F2 g m g2 m2 now L1 L2 K v) (hw : Wst w' F1' g m now L1') (hF : ∀ k, F1' k → F1 k ∨ w.heap.size ≤ k) (hk : KeptW F1 w w') : OrdI w0 w' F1' F2 g m g2 m2 now L1' L2 K v := by
  obtain ⟨a, b, c⟩ := h.two.first hw hF hk
  exact ⟨a, KR.kept h.row b c⟩
theorem OrdI.second {w0 w w' : World} {F1 F2 F2' : Nat → Prop} {g m g2 m2 : Nat} {now : Int} {L1 L2 L2' K : List TimT} {v : Value} (h : OrdI w0 w F1 F2 g m g2 m2 now L1 L2 K v) (hw : Wst w' F2' g2 m2 now L2') (hF : ∀ k, F2' k → F2 k ∨ w.heap.size ≤ k) (hk : KeptW F2 w w') : OrdI w0 w' F1 F2' g m g2 m2 now L1 L2' K v := by
  obtain ⟨a, b, c⟩ := h.two.swap.first hw hF hk
  exact ⟨a.swap, Kd.R_mono (KR.kept (F := fun k => F2 k ∨ F1 k) (Kd.R_mono h.row (fun k hk h => hk h.symm)) b c) (fun k hk h => hk h.symm)⟩
theorem addL_len (now : Int) (T : List TimT) (id at_ : Int) : (addL now T id at_).length ≤ T.length + 1 := by
  unfold addL
  split
  · simp
  · omega
theorem hasId_sub {A B : List TimT} {id : Int} (h : ∀ t, t ∈ A → t ∈ B) (hB : hasId B id = false) : hasId A id = false := hasId_false.2 (fun t ht => hasId_false.1 hB t (h t ht))
theorem without_snoc {B : List TimT} {id at_ : Int} (h : hasId B id = false) : without (B ++ [(id, at_)]) id = B := by
  have h2 := without_self h
  unfold without at h2 ⊢
  rw [List.filter_append, h2]
  simp
theorem addE_ok {now : Int} {B : List TimT} {id at_ : Int} (h1 : hasId B id = false) (h2 : now < at_) (h3 : B.length < 8192) : addE now B id at_ = 0 := by
  unfold addE
  rw [h1, if_neg (by decide), if_neg (by omega), if_neg (by omega)]
theorem drop_rev {K : List TimT} {j : Nat} (h : j < K.length) : (K.drop j).reverse = (K.drop (j + 1)).reverse ++ [timN K j] := by
  rw [List.drop_eq_getElem_cons h, List.reverse_cons, timN_get h]
theorem drop_no {K : List TimT} (hN : (K.map (·.1)).Nodup) {j : Nat} (h : j < K.length) : hasId (K.drop (j + 1)).reverse (timN K j).1 = false := by
  refine hasId_false.2 (fun t ht e => ?_)
  rw [List.mem_reverse] at ht
  have h1 : (K.drop j).map (·.1) = (timN K j).1 :: (K.drop (j + 1)).map (·.1) := by rw [List.drop_eq_getElem_cons h, List.map_cons, timN_get h]
  have h2 : ((K.drop j).map (·.1)).Nodup := hN.sublist (List.Sublist.map _ (List.drop_sublist _ _))
  rw [h1, List.nodup_cons] at h2
  exact h2.1 (List.mem_map.2 ⟨t, ht, e⟩)
theorem Two.canon2 {w0 w : World} {F1 F2 : Nat → Prop} {g m g2 m2 : Nat} {n : Int} {L L2 : List TimT} (h : Two w0 w F1 F2 g m n L g2 m2 n L2) (hp : L2.Perm L) : Two w0 w F1 F2 g m n (byId L) g2 m2 n (byId L) ∧ Srt (byId L) := by
  have h2 := byId_srt h.a.facts.2.1
  exact ⟨⟨h.a.perm h2.2.symm, h.b.perm (hp.trans h2.2.symm), h.dis, h.lowA, h.lowB, h.bel⟩, h2.1⟩
set_option maxHeartbeats 16000000 in
set_option maxRecDepth 100000 in
theorem wheelOrder.walk (now : Int) (A Ag : Option Addr) (N c Ng cg : Nat) (l : List TimT) (gone : List Int) (to_ : Int) (w : World) (hC : CT w A N l) (hG : IC w Ag Ng gone) (hU : U now) (hz : U to_) (hok : ∀ i, i < l.length → U (timN l i).1 ∧ U (timN l i).2) (hgk : ∀ i, i < gone.length → U (gone.getD i 0)) :
    Calls Try.prog 8 #[.agg #[.int .u64 now, .slice A N c, .slice Ag Ng cg, .int .u64 to_]] w fun e w' => e = .returned (.bool true) ∧ Below w.heap.size w w' := by
  have hN2 : (N : Int) ≤ 9223372036854775807 := by have := hC.2.1; omega
  have hG2 : (Ng : Int) ≤ 9223372036854775807 := by have := hG.2.1; omega
  have HN := Aside0.mk hC.1
  have HNG := Aside0.mk hG.1
  have HC := Aside0.mk hC
  have HG := Aside0.mk hG
  have HOK := Aside0.mk hok
  have HGK := Aside0.mk hgk
  have HU0 := Aside0.mk hU
  have HZ := Aside0.mk hz
  have hx := blk_new w (.cells #[.int .u64 now, .slice A N c, .slice Ag Ng cg, .int .u64 to_] 68 (0, 0))
  have d0 := (blk_cell hx 0).trans rfl
  have d1 := (blk_cell hx 1).trans rfl
  have d2 := (blk_cell hx 2).trans rfl
  have d3 := (blk_cell hx 3).trans rfl
  clear hC hG hU hz hok hgk hx
  go_enter Try.func8, Try.ntmps8
  go_upto_region 1 with (fail)
  obtain ⟨w1, hw1⟩ : ∃ w1, w1 = w.alloc (.cells #[.int .u64 now, .slice A N c, .slice Ag Ng cg, .int .u64 to_] 68) := ⟨_, rfl⟩
  have HB1 : Aside0 (Below w.heap.size w w1) := ⟨by rw [hw1]; exact below_alloc (Below.refl _ _) _⟩
  obtain ⟨Bx, hBx⟩ : ∃ Bx, Bx = w.heap.size := ⟨_, rfl⟩
  rw [← hw1, ← hBx] at d0 d1 d2 d3
  rw [← hw1]
  rw [← hBx]
  clear hw1 hBx
  refine start_ (n := 12) (S := fun w' => w'.cell? ⟨Bx, 0, none⟩ = some (.int .u64 now) ∧ w'.cell? ⟨Bx, 1, none⟩ = some (.slice A N c) ∧ w'.cell? ⟨Bx, 2, none⟩ = some (.slice Ag Ng cg) ∧ w'.cell? ⟨Bx, 3, none⟩ = some (.int .u64 to_)) (ds := []) #[false, false, false, false, false, false, false, false, false, false, false, false] (by kernel_rfl) rfl rfl ⟨d0, d1, d2, d3⟩ (fun hHeld => ?_)
  refine pure_ (i := 0) (N := some 21) (v := ?_) (a' := ?_) #[true, false, false, false, false, false, false, false, false, false, false, false] rfl rfl (by kernel_rfl) (fun _ _ _ h => h) (Or.inl ⟨by rfl, ?_⟩) ?_ ?_
  rotate_left
  · intro w'
    go_simp
    with_reducible rfl
  rotate_left
  · simp only [Act.put, List.setIfInBounds_toArray, List.set_cons_zero, List.set_cons_succ, i64_w, i32_w]
    rfl
  refine pure_ (i := 2) (N := some 23) (v := ?_) (a' := ?_) #[true, false, true, false, false, false, false, false, false, false, false, false] rfl rfl (by kernel_rfl) (fun _ _ _ h => h) (Or.inl ⟨by rfl, ?_⟩) ?_ ?_
  rotate_left
  · intro w'
    go_simp
    with_reducible rfl
  rotate_left
  · simp only [Act.put, List.setIfInBounds_toArray, List.set_cons_zero, List.set_cons_succ, i64_w, i32_w]
    rfl
  refine pure_ (i := 4) (N := some 25) (v := ?_) (a' := ?_) #[true, false, true, false, true, false, false, false, false, false, false, false] rfl rfl (by kernel_rfl) (fun _ _ _ h => h) (Or.inl ⟨by rfl, ?_⟩) ?_ ?_
  rotate_left
  · intro w'
    go_simp
    with_reducible rfl
  rotate_left
  · simp only [Act.put, List.setIfInBounds_toArray, List.set_cons_zero, List.set_cons_succ, i64_w, i32_w]
    rfl
  refine pure_ (i := 6) (N := some 27) (v := ?_) (a' := ?_) #[true, false, true, false, true, false, true, false, false, false, false, false] rfl rfl (by kernel_rfl) (fun _ _ _ h => h) (Or.inl ⟨by rfl, ?_⟩) ?_ ?_
  rotate_left
  · intro w'
    go_simp
    with_reducible rfl
  rotate_left
  · simp only [Act.put, List.setIfInBounds_toArray, List.set_cons_zero, List.set_cons_succ, i64_w, i32_w]
    rfl
  refine take_ (i := 1) (N := some 22) (v := ?_) (a' := ?_) #[true, true, true, false, true, false, true, false, false, false, false, false] rfl rfl (by kernel_rfl) (fun _ _ _ h => h) (Or.inl ⟨by rfl, ?_⟩) hHeld ?_ ?_
  rotate_left
  · rintro w' ⟨s0, s1, s2, s3⟩
    go_simp
    with_reducible rfl
  rotate_left
  · simp only [Act.put, List.setIfInBounds_toArray, List.set_cons_zero, List.set_cons_succ, i64_w, i32_w]
    rfl
  refine pure_ (i := 8) (N := some 3) (v := ?_) (a' := ?_) #[true, true, true, false, true, false, true, false, true, false, false, false] rfl rfl (by kernel_rfl) (fun _ _ _ h => h) (Or.inl ⟨by rfl, ?_⟩) ?_ ?_
  rotate_left
  · intro w'
    go_simp
    with_reducible rfl
  rotate_left
  · simp only [Act.put, List.setIfInBounds_toArray, List.set_cons_zero, List.set_cons_succ, i64_w, i32_w]
    rfl
  refine take_ (i := 3) (N := some 24) (v := ?_) (a' := ?_) #[true, true, true, true, true, false, true, false, true, false, false, false] rfl rfl (by kernel_rfl) (fun _ _ _ h => h) (Or.inl ⟨by rfl, ?_⟩) hHeld ?_ ?_
  rotate_left
  · rintro w' ⟨s0, s1, s2, s3⟩
    go_simp
    with_reducible rfl
  rotate_left
  · simp only [Act.put, List.setIfInBounds_toArray, List.set_cons_zero, List.set_cons_succ, i64_w, i32_w]
    rfl
  refine pure_ (i := 9) (N := some 4) (v := ?_) (a' := ?_) #[true, true, true, true, true, false, true, false, true, true, false, false] rfl rfl (by kernel_rfl) (fun _ _ _ h => h) (Or.inl ⟨by rfl, ?_⟩) ?_ ?_
  rotate_left
  · intro w'
    go_simp
    with_reducible rfl
  rotate_left
  · simp only [Act.put, List.setIfInBounds_toArray, List.set_cons_zero, List.set_cons_succ, i64_w, i32_w]
    rfl
  refine take_ (i := 5) (N := some 26) (v := ?_) (a' := ?_) #[true, true, true, true, true, true, true, false, true, true, false, false] rfl rfl (by kernel_rfl) (fun _ _ _ h => h) (Or.inl ⟨by rfl, ?_⟩) hHeld ?_ ?_
  rotate_left
  · rintro w' ⟨s0, s1, s2, s3⟩
    go_simp
    with_reducible rfl
  rotate_left
  · simp only [Act.put, List.setIfInBounds_toArray, List.set_cons_zero, List.set_cons_succ, i64_w, i32_w]
    rfl
  refine pure_ (i := 10) (N := some 5) (v := ?_) (a' := ?_) #[true, true, true, true, true, true, true, false, true, true, true, false] rfl rfl (by kernel_rfl) (fun _ _ _ h => h) (Or.inl ⟨by rfl, ?_⟩) ?_ ?_
  rotate_left
  · intro w'
    go_simp
    with_reducible rfl
  rotate_left
  · simp only [Act.put, List.setIfInBounds_toArray, List.set_cons_zero, List.set_cons_succ, i64_w, i32_w]
    rfl
  refine take_ (i := 7) (N := some 28) (v := ?_) (a' := ?_) #[true, true, true, true, true, true, true, true, true, true, true, false] rfl rfl (by kernel_rfl) (fun _ _ _ h => h) (Or.inl ⟨by rfl, ?_⟩) hHeld ?_ ?_
  rotate_left
  · rintro w' ⟨s0, s1, s2, s3⟩
    go_simp
    with_reducible rfl
  rotate_left
  · simp only [Act.put, List.setIfInBounds_toArray, List.set_cons_zero, List.set_cons_succ, i64_w, i32_w]
    rfl
  refine pure_ (i := 11) (N := some 6) (v := ?_) (a' := ?_) #[true, true, true, true, true, true, true, true, true, true, true, true] rfl rfl (by kernel_rfl) (fun _ _ _ h => h) (Or.inl ⟨by rfl, ?_⟩) ?_ ?_
  rotate_left
  · intro w'
    go_simp
    with_reducible rfl
  rotate_left
  · simp only [Act.put, List.setIfInBounds_toArray, List.set_cons_zero, List.set_cons_succ, i64_w, i32_w]
    rfl
  refine done_ (by kernel_rfl) ?_
  obtain ⟨w2, hw2⟩ : ∃ w2, w2 = w1.drew := ⟨_, rfl⟩
  have HB2 : Aside0 (Below w.heap.size w w2) := ⟨by rw [hw2]; exact below_drew1 HB1.out⟩
  rw [← hw2]
  clear hw2 hHeld d0 d1 d2 d3 HB1
  go_wp2_with fail
  refine (wheel_New.wst now HU0.out w2).mono ?_
  rintro e w3 ⟨g, m, F1, rfl, hWa, hFa, hb3⟩
  have HWA := Aside0.mk hWa
  have HFA := Aside0.mk hFa
  have HB3 := Aside0.mk hb3
  clear hWa hFa hb3
  go_wp2_with fail
  refine (wheel_New.wst now HU0.out w3).mono ?_
  rintro e w4 ⟨g2, m2, F2, rfl, hWb, hFb, hb4⟩
  have HT4 : Aside0 (OrdI w w4 F1 F2 g m g2 m2 now [] [] [] (.slice none 0 0)) := ⟨⟨⟨HWA.out.kept (KeptW.of_below (F := fun _ => False) hb4) (fun _ _ h => h), hWb, fun k h1 h2 => by have := HWA.out.lt k h1; have := hFb k h2; omega, fun k h => Nat.le_trans HB2.out.size (HFA.out k h), fun k h => Nat.le_trans (Nat.le_trans HB2.out.size HB3.out.size) (hFb k h), (HB2.out.trans (HB3.out.mono HB2.out.size)).trans (hb4.mono (Nat.le_trans HB2.out.size HB3.out.size))⟩, Kd.R_nil _ _ _ _ _⟩⟩
  clear hWb hFb hb4 HWA HFA HB3 HB2
  go_wp2_with fail
  refine (law_live.calls w4).mono ?_
  rintro e w5 ⟨rfl, hb5⟩
  have HI0 : Aside0 (∃ F1 F2 K, OrdI w w5 F1 F2 g m g2 m2 now K [] K (.slice none 0 0) ∧ K.length ≤ 0) := ⟨⟨F1, F2, [], HT4.out.below hb5, Nat.le_refl _⟩⟩
  clear HT4 hb5
  go_wp2_with fail
  go_loopw [10, 9] (fun v10 v9 wr => ∃ i : Nat, i ≤ N ∧ i ≤ 500 ∧ v10 = .int .i64 i ∧ Aside0 (∃ F1 F2 K, OrdI w wr F1 F2 g m g2 m2 now K [] K v9 ∧ K.length ≤ i)) (fun v10 _ _ => 500 - (intOf v10).toNat)
  case atStart => exact ⟨0, Nat.zero_le _, Nat.zero_le _, rfl, HI0⟩
  case round =>
    clear HI0
    obtain ⟨i, hi, hi5, rfl, HI⟩ := hrel
    by_cases hlt : i < N
    · by_cases hl5 : i < 500
      · obtain ⟨F1, F2, K, hO, hKl⟩ := HI.out
        obtain ⟨ad, hA, _, _⟩ := tim_at HC.out i hlt
        subst hA
        obtain ⟨⟨ti, ta⟩, htm⟩ : ∃ t, t = timN l i := ⟨_, rfl⟩
        have hq := ct_cells HC.out i hlt htm
        have hu := HOK.out i (by have := HN.out; omega)
        rw [← htm] at hu
        have hti : U ti := hu.1
        have hta : U ta := hu.2
        have h0 := pw_cell_below hO.two.bel hq.1
        have h1 := pw_cell_below hO.two.bel hq.2
        simp only at h0 h1
        have HQ := Aside0.mk hq
        have HKL := Aside0.mk hKl
        have HOD := Aside0.mk (hO.below (below_drew1 (Below.refl wr.heap.size wr)))
        have hi6 : (i : Int) < 500 := by omega
        clear hO hKl hq hu htm HI
        by_cases hz : addE now K ti ta = 0
        · have HZ1 := Aside0.mk hz
          have HAL : Aside0 (addL now K ti ta = K ++ [(ti, ta)]) := ⟨by unfold addL; rw [if_pos hz]⟩
          have HLN : Aside0 ((K.length + 1) * 16 ≤ 140737488355328) := ⟨by have := HKL.out; omega⟩
          clear hz
          go_upto_region 10 with (fail)
          refine start_ (n := 14) (S := fun w' => w'.cell? (ad.add (i * 2)) = some (.int .u64 ti) ∧ w'.cell? ⟨(ad.add (i * 2)).block, (ad.add (i * 2)).off + 1, none⟩ = some (.int .u64 ta)) (ds := []) #[false, false, false, false, false, false, false, false, false, false, false, false, false, false] (by kernel_rfl) rfl rfl ⟨h0, h1⟩ (fun hHeld => ?_)
          refine pure_ (i := 0) (N := some 53) (v := ?_) (a' := ?_) #[true, false, false, false, false, false, false, false, false, false, false, false, false, false] rfl rfl (by kernel_rfl) (fun _ _ _ h => h) (Or.inl ⟨by rfl, ?_⟩) ?_ ?_
          rotate_left
          · intro w'
            go_simp
            with_reducible rfl
          rotate_left
          · simp only [Act.put, List.setIfInBounds_toArray, List.set_cons_zero, List.set_cons_succ, i64_w, i32_w]
            rfl
          refine pure_ (i := 1) (N := some 54) (v := ?_) (a' := ?_) #[true, true, false, false, false, false, false, false, false, false, false, false, false, false] rfl rfl (by kernel_rfl) (fun _ _ _ h => h) (Or.inl ⟨by rfl, ?_⟩) ?_ ?_
          rotate_left
          · intro w'
            go_simp
            with_reducible rfl
          rotate_left
          · simp only [Act.put, List.setIfInBounds_toArray, List.set_cons_zero, List.set_cons_succ, i64_w, i32_w]
            rfl
          refine pure_ (i := 2) (N := some 55) (v := ?_) (a' := ?_) #[true, true, true, false, false, false, false, false, false, false, false, false, false, false] rfl rfl (by kernel_rfl) (fun _ _ _ h => h) (Or.inl ⟨by rfl, ?_⟩) ?_ ?_
          rotate_left
          · intro w'
            go_simp
            with_reducible rfl
          rotate_left
          · simp only [Act.put, List.setIfInBounds_toArray, List.set_cons_zero, List.set_cons_succ, i64_w, i32_w]
            rfl
          refine pure_ (i := 3) (N := some 56) (v := ?_) (a' := ?_) #[true, true, true, true, false, false, false, false, false, false, false, false, false, false] rfl rfl (by kernel_rfl) (fun _ _ _ h => h) (Or.inl ⟨by rfl, ?_⟩) ?_ ?_
          rotate_left
          · intro w'
            go_simp
            with_reducible rfl
          rotate_left
          · simp only [Act.put, List.setIfInBounds_toArray, List.set_cons_zero, List.set_cons_succ, i64_w, i32_w]
            rfl
          refine pure_ (i := 4) (N := some 57) (v := ?_) (a' := ?_) #[true, true, true, true, true, false, false, false, false, false, false, false, false, false] rfl rfl (by kernel_rfl) (fun _ _ _ h => h) (Or.inl ⟨by rfl, ?_⟩) ?_ ?_
          rotate_left
          · intro w'
            go_simp
            with_reducible rfl
          rotate_left
          · simp only [Act.put, List.setIfInBounds_toArray, List.set_cons_zero, List.set_cons_succ, i64_w, i32_w]
            rfl
          refine pure_ (i := 6) (N := some 59) (v := ?_) (a' := ?_) #[true, true, true, true, true, false, true, false, false, false, false, false, false, false] rfl rfl (by kernel_rfl) (fun _ _ _ h => h) (Or.inl ⟨by rfl, ?_⟩) ?_ ?_
          rotate_left
          · intro w'
            go_simp
            with_reducible rfl
          rotate_left
          · simp only [Act.put, List.setIfInBounds_toArray, List.set_cons_zero, List.set_cons_succ, i64_w, i32_w]
            rfl
          refine pure_ (i := 7) (N := some 60) (v := ?_) (a' := ?_) #[true, true, true, true, true, false, true, true, false, false, false, false, false, false] rfl rfl (by kernel_rfl) (fun _ _ _ h => h) (Or.inl ⟨by rfl, ?_⟩) ?_ ?_
          rotate_left
          · intro w'
            go_simp
            with_reducible rfl
          rotate_left
          · simp only [Act.put, List.setIfInBounds_toArray, List.set_cons_zero, List.set_cons_succ, i64_w, i32_w]
            rfl
          refine pure_ (i := 8) (N := some 61) (v := ?_) (a' := ?_) #[true, true, true, true, true, false, true, true, true, false, false, false, false, false] rfl rfl (by kernel_rfl) (fun _ _ _ h => h) (Or.inl ⟨by rfl, ?_⟩) ?_ ?_
          rotate_left
          · intro w'
            go_simp
            with_reducible rfl
          rotate_left
          · simp only [Act.put, List.setIfInBounds_toArray, List.set_cons_zero, List.set_cons_succ, i64_w, i32_w]
            rfl
          refine pure_ (i := 9) (N := some 62) (v := ?_) (a' := ?_) #[true, true, true, true, true, false, true, true, true, true, false, false, false, false] rfl rfl (by kernel_rfl) (fun _ _ _ h => h) (Or.inl ⟨by rfl, ?_⟩) ?_ ?_
          rotate_left
          · intro w'
            go_simp
            with_reducible rfl
          rotate_left
          · simp only [Act.put, List.setIfInBounds_toArray, List.set_cons_zero, List.set_cons_succ, i64_w, i32_w]
            rfl
          refine take_ (i := 5) (N := some 58) (v := ?_) (a' := ?_) #[true, true, true, true, true, true, true, true, true, true, false, false, false, false] rfl rfl (by kernel_rfl) (fun _ _ _ h => h) (Or.inl ⟨by rfl, ?_⟩) hHeld ?_ ?_
          rotate_left
          · rintro w' ⟨s0, s1⟩
            go_simp
            with_reducible rfl
          rotate_left
          · simp only [Act.put, List.setIfInBounds_toArray, List.set_cons_zero, List.set_cons_succ, i64_w, i32_w]
            rfl
          refine take_ (i := 10) (N := some 63) (v := ?_) (a' := ?_) #[true, true, true, true, true, true, true, true, true, true, true, false, false, false] rfl rfl (by kernel_rfl) (fun _ _ _ h => h) (Or.inl ⟨by rfl, ?_⟩) hHeld ?_ ?_
          rotate_left
          · rintro w' ⟨s0, s1⟩
            go_simp
            with_reducible rfl
          rotate_left
          · simp only [Act.put, List.setIfInBounds_toArray, List.set_cons_zero, List.set_cons_succ, i64_w, i32_w]
            rfl
          refine one_ (i := 11) (N := some 64) #[true, true, true, true, true, true, true, true, true, true, true, true, false, false] rfl rfl (by kernel_rfl) (by decide) (fun K hK => ?_)
          refine goes_ Try.func18 (by kernel_rfl) rfl #[.pointer (some ⟨g, 0, none⟩), .int .u64 ti, .int .u64 ta] (by rfl) rfl rfl (by simp only [List.map_toArray, List.map_cons, List.map_nil]; rfl) ?_
          with_reducible refine (wheel_Add.all HOD.out.two.a ti ta hti hta).mono ?_
          rintro e w6 ⟨rfl, F1', hw6, hF6, hk6⟩
          have HO6 := Aside0.mk (HOD.out.first hw6 hF6 hk6)
          clear hw6 hF6 hk6 HOD
          rw [HZ1.out]
          refine ⟨_, rfl, ?_⟩
          refine hK.out _ _ ⟨pw_cell_below HO6.out.two.bel HQ.out.1, pw_cell_below HO6.out.two.bel HQ.out.2⟩ (fun hHeld => ?_)
          clear hK K
          refine norm_ (a' := ?_) ?_ ?_
          rotate_left
          · show Act.put _ (some 64) _ = _
            simp only [Act.put, List.setIfInBounds_toArray, List.set_cons_zero, List.set_cons_succ, i64_w, i32_w]
            rfl
          refine one_ (i := 12) (N := some 65) #[true, true, true, true, true, true, true, true, true, true, true, true, true, false] rfl rfl (by kernel_rfl) (by decide) (fun K hK => ?_)
          refine goes_ Try.func14 (by kernel_rfl) rfl #[.int .i64 0] (by rfl) rfl rfl (by simp only [List.map_toArray, List.map_cons, List.map_nil]; rfl) ?_
          with_reducible refine (law_num.calls _ _).mono ?_
          rintro e wx ⟨rfl, rfl⟩
          refine ⟨_, rfl, ?_⟩
          refine hK.out _ _ ⟨hHeld.1, hHeld.2⟩ (fun hHeld => ?_)
          clear hK K
          refine norm_ (a' := ?_) ?_ ?_
          rotate_left
          · show Act.put _ (some 65) _ = _
            simp only [Act.put, List.setIfInBounds_toArray, List.set_cons_zero, List.set_cons_succ, i64_w, i32_w]
            rfl
          refine pure_ (i := 13) (N := some 66) (v := ?_) (a' := ?_) #[true, true, true, true, true, true, true, true, true, true, true, true, true, true] rfl rfl (by kernel_rfl) (fun _ _ _ h => h) (Or.inl ⟨by rfl, ?_⟩) ?_ ?_
          rotate_left
          · intro w'
            go_simp
            with_reducible rfl
          rotate_left
          · simp only [Act.put, List.setIfInBounds_toArray, List.set_cons_zero, List.set_cons_succ, i64_w, i32_w]
            rfl
          refine done_ (by kernel_rfl) ?_
          rw [HAL.out] at HO6
          replace h0 := pw_cell_below HO6.out.two.bel HQ.out.1
          replace h1 := pw_cell_below HO6.out.two.bel HQ.out.2
          simp only at h0 h1
          go_wp2_with ((with_reducible refine gate_builtin (b := .append) (xs := #[.tmp 67, .tmp 72]) rfl ?_); at_builtin; refine Kd.R_append kT (w0 := w) w.heap.size rfl (.tmp 67) (.tmp 72) 37 56 (.agg #[.int .u64 0, .int .u64 0]) 16 rfl Try.underlying37 info56 rfl (by decide) (by decide) u9 K (ti, ta) [.int .u64 ti, .int .u64 ta] (fun k => ¬ (F1' k ∨ F2 k)) (fun _ => False) rfl rfl (kT_M _ _ _ _) (fun _ h => h.elim) ?aF HO6.out.row HO6.out.two.bel HO6.out.two.bel.size HLN.out ?_; (case aF => exact (fun k hk hf => by rcases hf with hf | hf; have := HO6.out.two.a.lt k hf; omega; have := HO6.out.two.b.lt k hf; omega)); intro v7 w7 ho hb hg hat7; have HNX : Aside0 (∃ F1 F2 K, OrdI w w7 F1 F2 g m g2 m2 now K [] K v7 ∧ K.length ≤ i + 1) := ⟨⟨F1', F2, K ++ [(ti, ta)], ⟨HO6.out.two.grown hg (fun k e => HO6.out.row.1 k e) (fun k e => ((Kd.R_bound HO6.out.row).1 k e).2.1), ho⟩, by rw [List.length_append, List.length_singleton]; have := HKL.out; omega⟩⟩; clear ho hb hg hat7)
          clear HO6 HZ1 HAL HLN HKL HQ hHeld
          go_roundw
          case rel => exact ⟨i + 1, by omega, by omega, by go_num, HNX⟩
          case measure => simp [intOf]; omega
        · have HZ1 := Aside0.mk hz
          obtain ⟨ee, hee⟩ : ∃ ee, ee = addE now K ti ta := ⟨_, rfl⟩
          have b0 : (ee == 0) = false := beq_eq_false_iff_ne.mpr (by rw [hee]; exact hz)
          have HEE : Aside0 (addE now K ti ta = ee) := ⟨hee.symm⟩
          have HAL : Aside0 (addL now K ti ta = K) := ⟨by unfold addL; rw [if_neg hz]⟩
          clear hz hee
          go_upto_region 10 with (fail)
          refine start_ (n := 14) (S := fun w' => w'.cell? (ad.add (i * 2)) = some (.int .u64 ti) ∧ w'.cell? ⟨(ad.add (i * 2)).block, (ad.add (i * 2)).off + 1, none⟩ = some (.int .u64 ta)) (ds := []) #[false, false, false, false, false, false, false, false, false, false, false, false, false, false] (by kernel_rfl) rfl rfl ⟨h0, h1⟩ (fun hHeld => ?_)
          refine pure_ (i := 0) (N := some 53) (v := ?_) (a' := ?_) #[true, false, false, false, false, false, false, false, false, false, false, false, false, false] rfl rfl (by kernel_rfl) (fun _ _ _ h => h) (Or.inl ⟨by rfl, ?_⟩) ?_ ?_
          rotate_left
          · intro w'
            go_simp
            with_reducible rfl
          rotate_left
          · simp only [Act.put, List.setIfInBounds_toArray, List.set_cons_zero, List.set_cons_succ, i64_w, i32_w]
            rfl
          refine pure_ (i := 1) (N := some 54) (v := ?_) (a' := ?_) #[true, true, false, false, false, false, false, false, false, false, false, false, false, false] rfl rfl (by kernel_rfl) (fun _ _ _ h => h) (Or.inl ⟨by rfl, ?_⟩) ?_ ?_
          rotate_left
          · intro w'
            go_simp
            with_reducible rfl
          rotate_left
          · simp only [Act.put, List.setIfInBounds_toArray, List.set_cons_zero, List.set_cons_succ, i64_w, i32_w]
            rfl
          refine pure_ (i := 2) (N := some 55) (v := ?_) (a' := ?_) #[true, true, true, false, false, false, false, false, false, false, false, false, false, false] rfl rfl (by kernel_rfl) (fun _ _ _ h => h) (Or.inl ⟨by rfl, ?_⟩) ?_ ?_
          rotate_left
          · intro w'
            go_simp
            with_reducible rfl
          rotate_left
          · simp only [Act.put, List.setIfInBounds_toArray, List.set_cons_zero, List.set_cons_succ, i64_w, i32_w]
            rfl
          refine pure_ (i := 3) (N := some 56) (v := ?_) (a' := ?_) #[true, true, true, true, false, false, false, false, false, false, false, false, false, false] rfl rfl (by kernel_rfl) (fun _ _ _ h => h) (Or.inl ⟨by rfl, ?_⟩) ?_ ?_
          rotate_left
          · intro w'
            go_simp
            with_reducible rfl
          rotate_left
          · simp only [Act.put, List.setIfInBounds_toArray, List.set_cons_zero, List.set_cons_succ, i64_w, i32_w]
            rfl
          refine pure_ (i := 4) (N := some 57) (v := ?_) (a' := ?_) #[true, true, true, true, true, false, false, false, false, false, false, false, false, false] rfl rfl (by kernel_rfl) (fun _ _ _ h => h) (Or.inl ⟨by rfl, ?_⟩) ?_ ?_
          rotate_left
          · intro w'
            go_simp
            with_reducible rfl
          rotate_left
          · simp only [Act.put, List.setIfInBounds_toArray, List.set_cons_zero, List.set_cons_succ, i64_w, i32_w]
            rfl
          refine pure_ (i := 6) (N := some 59) (v := ?_) (a' := ?_) #[true, true, true, true, true, false, true, false, false, false, false, false, false, false] rfl rfl (by kernel_rfl) (fun _ _ _ h => h) (Or.inl ⟨by rfl, ?_⟩) ?_ ?_
          rotate_left
          · intro w'
            go_simp
            with_reducible rfl
          rotate_left
          · simp only [Act.put, List.setIfInBounds_toArray, List.set_cons_zero, List.set_cons_succ, i64_w, i32_w]
            rfl
          refine pure_ (i := 7) (N := some 60) (v := ?_) (a' := ?_) #[true, true, true, true, true, false, true, true, false, false, false, false, false, false] rfl rfl (by kernel_rfl) (fun _ _ _ h => h) (Or.inl ⟨by rfl, ?_⟩) ?_ ?_
          rotate_left
          · intro w'
            go_simp
            with_reducible rfl
          rotate_left
          · simp only [Act.put, List.setIfInBounds_toArray, List.set_cons_zero, List.set_cons_succ, i64_w, i32_w]
            rfl
          refine pure_ (i := 8) (N := some 61) (v := ?_) (a' := ?_) #[true, true, true, true, true, false, true, true, true, false, false, false, false, false] rfl rfl (by kernel_rfl) (fun _ _ _ h => h) (Or.inl ⟨by rfl, ?_⟩) ?_ ?_
          rotate_left
          · intro w'
            go_simp
            with_reducible rfl
          rotate_left
          · simp only [Act.put, List.setIfInBounds_toArray, List.set_cons_zero, List.set_cons_succ, i64_w, i32_w]
            rfl
          refine pure_ (i := 9) (N := some 62) (v := ?_) (a' := ?_) #[true, true, true, true, true, false, true, true, true, true, false, false, false, false] rfl rfl (by kernel_rfl) (fun _ _ _ h => h) (Or.inl ⟨by rfl, ?_⟩) ?_ ?_
          rotate_left
          · intro w'
            go_simp
            with_reducible rfl
          rotate_left
          · simp only [Act.put, List.setIfInBounds_toArray, List.set_cons_zero, List.set_cons_succ, i64_w, i32_w]
            rfl
          refine take_ (i := 5) (N := some 58) (v := ?_) (a' := ?_) #[true, true, true, true, true, true, true, true, true, true, false, false, false, false] rfl rfl (by kernel_rfl) (fun _ _ _ h => h) (Or.inl ⟨by rfl, ?_⟩) hHeld ?_ ?_
          rotate_left
          · rintro w' ⟨s0, s1⟩
            go_simp
            with_reducible rfl
          rotate_left
          · simp only [Act.put, List.setIfInBounds_toArray, List.set_cons_zero, List.set_cons_succ, i64_w, i32_w]
            rfl
          refine take_ (i := 10) (N := some 63) (v := ?_) (a' := ?_) #[true, true, true, true, true, true, true, true, true, true, true, false, false, false] rfl rfl (by kernel_rfl) (fun _ _ _ h => h) (Or.inl ⟨by rfl, ?_⟩) hHeld ?_ ?_
          rotate_left
          · rintro w' ⟨s0, s1⟩
            go_simp
            with_reducible rfl
          rotate_left
          · simp only [Act.put, List.setIfInBounds_toArray, List.set_cons_zero, List.set_cons_succ, i64_w, i32_w]
            rfl
          refine one_ (i := 11) (N := some 64) #[true, true, true, true, true, true, true, true, true, true, true, true, false, false] rfl rfl (by kernel_rfl) (by decide) (fun K hK => ?_)
          refine goes_ Try.func18 (by kernel_rfl) rfl #[.pointer (some ⟨g, 0, none⟩), .int .u64 ti, .int .u64 ta] (by rfl) rfl rfl (by simp only [List.map_toArray, List.map_cons, List.map_nil]; rfl) ?_
          with_reducible refine (wheel_Add.all HOD.out.two.a ti ta hti hta).mono ?_
          rintro e w6 ⟨rfl, F1', hw6, hF6, hk6⟩
          have HO6 := Aside0.mk (HOD.out.first hw6 hF6 hk6)
          clear hw6 hF6 hk6 HOD
          rw [HEE.out]
          refine ⟨_, rfl, ?_⟩
          refine hK.out _ _ ⟨pw_cell_below HO6.out.two.bel HQ.out.1, pw_cell_below HO6.out.two.bel HQ.out.2⟩ (fun hHeld => ?_)
          clear hK K
          refine norm_ (a' := ?_) ?_ ?_
          rotate_left
          · show Act.put _ (some 64) _ = _
            simp only [Act.put, List.setIfInBounds_toArray, List.set_cons_zero, List.set_cons_succ, i64_w, i32_w]
            rfl
          refine one_ (i := 12) (N := some 65) #[true, true, true, true, true, true, true, true, true, true, true, true, true, false] rfl rfl (by kernel_rfl) (by decide) (fun K hK => ?_)
          refine goes_ Try.func14 (by kernel_rfl) rfl #[.int .i64 ee] (by rfl) rfl rfl (by simp only [List.map_toArray, List.map_cons, List.map_nil]; rfl) ?_
          with_reducible refine (law_num.calls _ _).mono ?_
          rintro e wx ⟨rfl, rfl⟩
          refine ⟨_, rfl, ?_⟩
          refine hK.out _ _ ⟨hHeld.1, hHeld.2⟩ (fun hHeld => ?_)
          clear hK K
          refine norm_ (a' := ?_) ?_ ?_
          rotate_left
          · show Act.put _ (some 65) _ = _
            simp only [Act.put, List.setIfInBounds_toArray, List.set_cons_zero, List.set_cons_succ, i64_w, i32_w]
            rfl
          refine pure_ (i := 13) (N := some 66) (v := ?_) (a' := ?_) #[true, true, true, true, true, true, true, true, true, true, true, true, true, true] rfl rfl (by kernel_rfl) (fun _ _ _ h => h) (Or.inl ⟨by rfl, ?_⟩) ?_ ?_
          rotate_left
          · intro w'
            go_simp
            with_reducible rfl
          rotate_left
          · simp only [Act.put, List.setIfInBounds_toArray, List.set_cons_zero, List.set_cons_succ, i64_w, i32_w]
            rfl
          refine done_ (by kernel_rfl) ?_
          rw [HAL.out] at HO6
          have HNX : Aside0 (∃ F1 F2 K, OrdI w wx F1 F2 g m g2 m2 now K [] K u9 ∧ K.length ≤ i + 1) := ⟨⟨F1', F2, K, HO6.out, by have := HKL.out; omega⟩⟩
          clear HO6 HZ1 HAL HKL HQ hHeld h0 h1
          go_wp2_with fail
          go_roundw
          case rel => exact ⟨i + 1, by omega, by omega, by go_num, HNX⟩
          case measure => simp [intOf]; omega
      · have bi : decide ((i : Int) < 500) = false := decide_eq_false (by omega)
        clear hl5
        obtain ⟨F1, F2, K, hO, hKl⟩ := HI.out
        obtain ⟨Ak, ck, hvk⟩ := Kd.R_slice hO.row
        have HFS := Aside0.mk hO.two.a.facts
        have HKL := Aside0.mk hKl
        obtain ⟨NK, hNK⟩ : ∃ NK, NK = K.length := ⟨_, rfl⟩
        have HNK := Aside0.mk hNK
        have hNKB : NK ≤ 500 := by rw [hNK]; omega
        rw [← hNK] at hvk
        subst hvk
        have HI2 : Aside0 (∃ F1 F2, OrdI w wr F1 F2 g m g2 m2 now K (K.drop NK).reverse K (.slice Ak NK ck)) := ⟨⟨F1, F2, by rw [hNK, List.drop_length, List.reverse_nil, ← hNK]; exact hO⟩⟩
        clear hO hKl hNK HI
        go_wp2_with fail
        go_loopw [11] (fun v11 wr => ∃ (j : Nat) (z : Int), j ≤ NK ∧ z + 1 = j ∧ v11 = .int .i64 z ∧ Aside0 (∃ F1 F2, OrdI w wr F1 F2 g m g2 m2 now K (K.drop j).reverse K (.slice Ak NK ck))) (fun v11 _ => (intOf v11 + 1).toNat)
        case atStart => exact ⟨NK, (NK : Int) - 1, Nat.le_refl _, by omega, by go_num, HI2⟩
        case round =>
          clear HI2
          obtain ⟨j, z, hj, hz1, rfl, HI⟩ := hrel
          by_cases hj0 : 0 < j
          · obtain ⟨q, rfl⟩ : ∃ q, j = q + 1 := ⟨j - 1, by omega⟩
            obtain rfl : z = (q : Int) := by omega
            clear hz1 hj0
            have hqb : (q : Int) < 500 := by omega
            have HQL : Aside0 (q < K.length) := ⟨by have := HNK.out; omega⟩
            obtain ⟨⟨ti, ta⟩, htm⟩ : ∃ t, t = timN K q := ⟨_, rfl⟩
            have HTM := Aside0.mk htm
            have HTF : Aside0 (TimOk (ti, ta) ∧ now < ta) := ⟨by rw [htm]; have h := HFS.out.1 _ (timN_mem HQL.out); rw [← htm] at h ⊢; exact h⟩
            clear htm
            obtain ⟨ad, hAk⟩ : ∃ ad, Ak = some ad := by
              obtain ⟨F1, F2, hO⟩ := HI.out
              have hCk := (Kd.R_reads' hO.row).2.2
              obtain ⟨ad, e, _⟩ := tim_at hCk q HQL.out
              exact ⟨ad, e⟩
            subst hAk
            have HI3 := Aside0.mk HI.out
            clear HI
            go_wp2_with fail
            go_loopw [12] (fun v12 wr => ∃ k : Nat, k ≤ Ng ∧ k ≤ 4 ∧ v12 = .int .i64 k ∧ Aside0 (∃ F1 F2, OrdI w wr F1 F2 g m g2 m2 now K (K.drop (q + 1)).reverse K (.slice (some ad) NK ck))) (fun v12 _ => 4 - (intOf v12).toNat)
            case atStart => exact ⟨0, Nat.zero_le _, Nat.zero_le _, rfl, HI3⟩
            case round =>
              clear HI3
              obtain ⟨k, hk, hk4, rfl, HI⟩ := hrel
              by_cases hkn : k < Ng
              · by_cases hk5 : k < 4
                · obtain ⟨F1, F2, hO⟩ := HI.out
                  obtain ⟨adg, hAg, _⟩ := ic_at HG.out k hkn
                  subst hAg
                  have hgc := ic_cells HG.out k hkn
                  obtain ⟨gk, hgk⟩ : ∃ gk, gk = gone.getD k 0 := ⟨_, rfl⟩
                  have hgu : U gk := by rw [hgk]; exact HGK.out k (by have := HNG.out; omega)
                  rw [← hgk] at hgc
                  have f0 := pw_cell_below hO.two.bel hgc
                  have HGC := Aside0.mk hgc
                  have hCk : CT wr (some ad) NK K := by have h := (Kd.R_reads' hO.row).2.2; rw [← HNK.out] at h; exact h
                  have HCK := Aside0.mk hCk
                  have HO := Aside0.mk hO
                  have hk6 : (k : Int) < 4 := by omega
                  clear hgc hgk hCk hO
                  go_wp2_with fail
                  refine (law_due.calls (some ad) NK ck gk K _ HCK.out).mono ?_
                  rintro e w7 ⟨rfl, rfl⟩
                  cases hh : hasId K gk with
                  | true =>
                    have HNX : Aside0 (∃ F1 F2, OrdI w w7 F1 F2 g m g2 m2 now K (K.drop (q + 1)).reverse K (.slice (some ad) NK ck)) := HI
                    clear hh HO HI HCK f0 HGC
                    go_wp2_with fail
                    go_roundw
                    case rel => exact ⟨k + 1, by omega, by omega, by go_num, HNX⟩
                    case measure => simp [intOf]; omega
                  | false =>
                    have HNB : Aside0 (hasId (K.drop (q + 1)).reverse gk = false) := ⟨hasId_sub (fun t ht => by rw [List.mem_reverse] at ht; exact List.mem_of_mem_drop ht) hh⟩
                    have HZ0 : Aside0 (addE now (K.drop (q + 1)).reverse gk ta = 0) := ⟨addE_ok HNB.out HTF.out.2 (by rw [List.length_reverse, List.length_drop]; have := HFS.out.2.2.1; omega)⟩
                    have HAL : Aside0 (addL now (K.drop (q + 1)).reverse gk ta = (K.drop (q + 1)).reverse ++ [(gk, ta)]) := ⟨by unfold addL; rw [if_pos HZ0.out]⟩
                    have hta : U ta := HTF.out.1.2
                    have h1 := (rt_cells HO.out.row q HQL.out HTM.out).2
                    have HOD := Aside0.mk (HO.out.below (below_drew1 (Below.refl w7.heap.size w7)))
                    have hqn : q < NK := by omega
                    clear hh HO HI HCK
                    go_upto_region 20 with (fail)
                    refine start_ (n := 12) (S := fun w' => w'.cell? (adg.add k) = some (.int .u64 gk) ∧ w'.cell? ⟨(ad.add (q * 2)).block, (ad.add (q * 2)).off + 1, none⟩ = some (.int .u64 ta)) (ds := []) #[false, false, false, false, false, false, false, false, false, false, false, false] (by kernel_rfl) rfl rfl ⟨f0, h1⟩ (fun hHeld => ?_)
                    refine pure_ (i := 0) (N := some 101) (v := ?_) (a' := ?_) #[true, false, false, false, false, false, false, false, false, false, false, false] rfl rfl (by kernel_rfl) (fun _ _ _ h => h) (Or.inl ⟨by rfl, ?_⟩) ?_ ?_
                    rotate_left
                    · intro w'
                      go_simp
                      with_reducible rfl
                    rotate_left
                    · simp only [Act.put, List.setIfInBounds_toArray, List.set_cons_zero, List.set_cons_succ, i64_w, i32_w]
                      rfl
                    refine pure_ (i := 1) (N := some 102) (v := ?_) (a' := ?_) #[true, true, false, false, false, false, false, false, false, false, false, false] rfl rfl (by kernel_rfl) (fun _ _ _ h => h) (Or.inl ⟨by rfl, ?_⟩) ?_ ?_
                    rotate_left
                    · intro w'
                      go_simp
                      with_reducible rfl
                    rotate_left
                    · simp only [Act.put, List.setIfInBounds_toArray, List.set_cons_zero, List.set_cons_succ, i64_w, i32_w]
                      rfl
                    refine pure_ (i := 2) (N := some 103) (v := ?_) (a' := ?_) #[true, true, true, false, false, false, false, false, false, false, false, false] rfl rfl (by kernel_rfl) (fun _ _ _ h => h) (Or.inl ⟨by rfl, ?_⟩) ?_ ?_
                    rotate_left
                    · intro w'
                      go_simp
                      with_reducible rfl
                    rotate_left
                    · simp only [Act.put, List.setIfInBounds_toArray, List.set_cons_zero, List.set_cons_succ, i64_w, i32_w]
                      rfl
                    refine pure_ (i := 3) (N := some 104) (v := ?_) (a' := ?_) #[true, true, true, true, false, false, false, false, false, false, false, false] rfl rfl (by kernel_rfl) (fun _ _ _ h => h) (Or.inl ⟨by rfl, ?_⟩) ?_ ?_
                    rotate_left
                    · intro w'
                      go_simp
                      with_reducible rfl
                    rotate_left
                    · simp only [Act.put, List.setIfInBounds_toArray, List.set_cons_zero, List.set_cons_succ, i64_w, i32_w]
                      rfl
                    refine pure_ (i := 5) (N := some 106) (v := ?_) (a' := ?_) #[true, true, true, true, false, true, false, false, false, false, false, false] rfl rfl (by kernel_rfl) (fun _ _ _ h => h) (Or.inl ⟨by rfl, ?_⟩) ?_ ?_
                    rotate_left
                    · intro w'
                      go_simp
                      with_reducible rfl
                    rotate_left
                    · simp only [Act.put, List.setIfInBounds_toArray, List.set_cons_zero, List.set_cons_succ, i64_w, i32_w]
                      rfl
                    refine pure_ (i := 6) (N := some 107) (v := ?_) (a' := ?_) #[true, true, true, true, false, true, true, false, false, false, false, false] rfl rfl (by kernel_rfl) (fun _ _ _ h => h) (Or.inl ⟨by rfl, ?_⟩) ?_ ?_
                    rotate_left
                    · intro w'
                      go_simp
                      with_reducible rfl
                    rotate_left
                    · simp only [Act.put, List.setIfInBounds_toArray, List.set_cons_zero, List.set_cons_succ, i64_w, i32_w]
                      rfl
                    refine pure_ (i := 7) (N := some 108) (v := ?_) (a' := ?_) #[true, true, true, true, false, true, true, true, false, false, false, false] rfl rfl (by kernel_rfl) (fun _ _ _ h => h) (Or.inl ⟨by rfl, ?_⟩) ?_ ?_
                    rotate_left
                    · intro w'
                      go_simp
                      with_reducible rfl
                    rotate_left
                    · simp only [Act.put, List.setIfInBounds_toArray, List.set_cons_zero, List.set_cons_succ, i64_w, i32_w]
                      rfl
                    refine pure_ (i := 8) (N := some 109) (v := ?_) (a' := ?_) #[true, true, true, true, false, true, true, true, true, false, false, false] rfl rfl (by kernel_rfl) (fun _ _ _ h => h) (Or.inl ⟨by rfl, ?_⟩) ?_ ?_
                    rotate_left
                    · intro w'
                      go_simp
                      with_reducible rfl
                    rotate_left
                    · simp only [Act.put, List.setIfInBounds_toArray, List.set_cons_zero, List.set_cons_succ, i64_w, i32_w]
                      rfl
                    refine take_ (i := 4) (N := some 105) (v := ?_) (a' := ?_) #[true, true, true, true, true, true, true, true, true, false, false, false] rfl rfl (by kernel_rfl) (fun _ _ _ h => h) (Or.inl ⟨by rfl, ?_⟩) hHeld ?_ ?_
                    rotate_left
                    · rintro w' ⟨s0, s1⟩
                      go_simp
                      with_reducible rfl
                    rotate_left
                    · simp only [Act.put, List.setIfInBounds_toArray, List.set_cons_zero, List.set_cons_succ, i64_w, i32_w]
                      rfl
                    refine take_ (i := 9) (N := some 110) (v := ?_) (a' := ?_) #[true, true, true, true, true, true, true, true, true, true, false, false] rfl rfl (by kernel_rfl) (fun _ _ _ h => h) (Or.inl ⟨by rfl, ?_⟩) hHeld ?_ ?_
                    rotate_left
                    · rintro w' ⟨s0, s1⟩
                      go_simp
                      with_reducible rfl
                    rotate_left
                    · simp only [Act.put, List.setIfInBounds_toArray, List.set_cons_zero, List.set_cons_succ, i64_w, i32_w]
                      rfl
                    refine one_ (i := 10) (N := some 111) #[true, true, true, true, true, true, true, true, true, true, true, false] rfl rfl (by kernel_rfl) (by decide) (fun K hK => ?_)
                    refine goes_ Try.func18 (by kernel_rfl) rfl #[.pointer (some ⟨g2, 0, none⟩), .int .u64 gk, .int .u64 ta] (by rfl) rfl rfl (by simp only [List.map_toArray, List.map_cons, List.map_nil]; rfl) ?_
                    with_reducible refine (wheel_Add.all HOD.out.two.b gk ta hgu hta).mono ?_
                    rintro e w6 ⟨rfl, F2', hw6, hF6, hk6⟩
                    have HO6 := Aside0.mk (HOD.out.second hw6 hF6 hk6)
                    clear hw6 hF6 hk6 HOD
                    rw [HZ0.out]
                    refine ⟨_, rfl, ?_⟩
                    refine hK.out _ _ ⟨pw_cell_below HO6.out.two.bel HGC.out, (rt_cells HO6.out.row q HQL.out HTM.out).2⟩ (fun hHeld => ?_)
                    clear hK K
                    refine norm_ (a' := ?_) ?_ ?_
                    rotate_left
                    · show Act.put _ (some 111) _ = _
                      simp only [Act.put, List.setIfInBounds_toArray, List.set_cons_zero, List.set_cons_succ, i64_w, i32_w]
                      rfl
                    refine pure_ (i := 11) (N := some 15) (v := ?_) (a' := ?_) #[true, true, true, true, true, true, true, true, true, true, true, true] rfl rfl (by kernel_rfl) (fun _ _ _ h => h) (Or.inl ⟨by rfl, ?_⟩) ?_ ?_
                    rotate_left
                    · intro w'
                      go_simp
                      with_reducible rfl
                    rotate_left
                    · simp only [Act.put, List.setIfInBounds_toArray, List.set_cons_zero, List.set_cons_succ, i64_w, i32_w]
                      rfl
                    refine done_ (by kernel_rfl) ?_
                    rw [HAL.out] at HO6
                    have f1 := pw_cell_below HO6.out.two.bel HGC.out
                    have HRE : Aside0 (remE ((K.drop (q + 1)).reverse ++ [(gk, ta)]) gk = 0) := ⟨by unfold remE; rw [if_pos (by unfold hasId; rw [List.any_append]; simp)]⟩
                    have HWO : Aside0 (without ((K.drop (q + 1)).reverse ++ [(gk, ta)]) gk = (K.drop (q + 1)).reverse) := ⟨without_snoc HNB.out⟩
                    clear f0 h1 hHeld HNB HZ0 HAL
                    go_wp2_with fail
                    refine (wheel_Remove.all HO6.out.two.b gk hgu).mono ?_
                    rintro e w8 ⟨rfl, F2'', hw8, hF8, hk8⟩
                    have hO8 := HO6.out.second hw8 hF8 hk8
                    rw [HWO.out] at hO8
                    rw [HRE.out]
                    have HNX : Aside0 (∃ F1 F2, OrdI w w8 F1 F2 g m g2 m2 now K (K.drop (q + 1)).reverse K (.slice (some ad) NK ck)) := ⟨⟨F1, F2'', hO8⟩⟩
                    clear hw8 hF8 hk8 hO8 HO6 HRE HWO f1 HGC
                    go_wp2_with (go_at_call 14; (with_reducible refine (law_num.calls _ _).mono ?_); rintro e wx ⟨rfl, rfl⟩)
                    go_roundw
                    case rel => exact ⟨k + 1, by omega, by omega, by go_num, HNX⟩
                    case measure => simp [intOf]; omega
                · have bk : decide ((k : Int) < 4) = false := decide_eq_false (by omega)
                  clear hk5
                  obtain ⟨F1, F2, hO⟩ := HI.out
                  have hq0 := rt_cells hO.row q HQL.out HTM.out
                  have h0 := hq0.1
                  have h1 := hq0.2
                  have HZ0 : Aside0 (addE now (K.drop (q + 1)).reverse ti ta = 0) := ⟨by
                    have hno := drop_no HFS.out.2.1 HQL.out
                    rw [← HTM.out] at hno
                    exact addE_ok hno HTF.out.2 (by rw [List.length_reverse, List.length_drop]; have := HFS.out.2.2.1; omega)⟩
                  have hti : U ti := HTF.out.1.1
                  have hta : U ta := HTF.out.1.2
                  have HOD := Aside0.mk (hO.below (below_drew1 (Below.refl wr.heap.size wr)))
                  have hqn : q < NK := by omega
                  clear hO hq0 HI
                  go_upto_region 24 with (fail)
                  refine start_ (n := 14) (S := fun w' => w'.cell? (ad.add (q * 2)) = some (.int .u64 ti) ∧ w'.cell? ⟨(ad.add (q * 2)).block, (ad.add (q * 2)).off + 1, none⟩ = some (.int .u64 ta)) (ds := []) #[false, false, false, false, false, false, false, false, false, false, false, false, false, false] (by kernel_rfl) rfl rfl ⟨h0, h1⟩ (fun hHeld => ?_)
                  refine pure_ (i := 0) (N := some 126) (v := ?_) (a' := ?_) #[true, false, false, false, false, false, false, false, false, false, false, false, false, false] rfl rfl (by kernel_rfl) (fun _ _ _ h => h) (Or.inl ⟨by rfl, ?_⟩) ?_ ?_
                  rotate_left
                  · intro w'
                    go_simp
                    with_reducible rfl
                  rotate_left
                  · simp only [Act.put, List.setIfInBounds_toArray, List.set_cons_zero, List.set_cons_succ, i64_w, i32_w]
                    rfl
                  refine pure_ (i := 1) (N := some 127) (v := ?_) (a' := ?_) #[true, true, false, false, false, false, false, false, false, false, false, false, false, false] rfl rfl (by kernel_rfl) (fun _ _ _ h => h) (Or.inl ⟨by rfl, ?_⟩) ?_ ?_
                  rotate_left
                  · intro w'
                    go_simp
                    with_reducible rfl
                  rotate_left
                  · simp only [Act.put, List.setIfInBounds_toArray, List.set_cons_zero, List.set_cons_succ, i64_w, i32_w]
                    rfl
                  refine pure_ (i := 2) (N := some 128) (v := ?_) (a' := ?_) #[true, true, true, false, false, false, false, false, false, false, false, false, false, false] rfl rfl (by kernel_rfl) (fun _ _ _ h => h) (Or.inl ⟨by rfl, ?_⟩) ?_ ?_
                  rotate_left
                  · intro w'
                    go_simp
                    with_reducible rfl
                  rotate_left
                  · simp only [Act.put, List.setIfInBounds_toArray, List.set_cons_zero, List.set_cons_succ, i64_w, i32_w]
                    rfl
                  refine pure_ (i := 3) (N := some 129) (v := ?_) (a' := ?_) #[true, true, true, true, false, false, false, false, false, false, false, false, false, false] rfl rfl (by kernel_rfl) (fun _ _ _ h => h) (Or.inl ⟨by rfl, ?_⟩) ?_ ?_
                  rotate_left
                  · intro w'
                    go_simp
                    with_reducible rfl
                  rotate_left
                  · simp only [Act.put, List.setIfInBounds_toArray, List.set_cons_zero, List.set_cons_succ, i64_w, i32_w]
                    rfl
                  refine pure_ (i := 4) (N := some 130) (v := ?_) (a' := ?_) #[true, true, true, true, true, false, false, false, false, false, false, false, false, false] rfl rfl (by kernel_rfl) (fun _ _ _ h => h) (Or.inl ⟨by rfl, ?_⟩) ?_ ?_
                  rotate_left
                  · intro w'
                    go_simp
                    with_reducible rfl
                  rotate_left
                  · simp only [Act.put, List.setIfInBounds_toArray, List.set_cons_zero, List.set_cons_succ, i64_w, i32_w]
                    rfl
                  refine pure_ (i := 6) (N := some 132) (v := ?_) (a' := ?_) #[true, true, true, true, true, false, true, false, false, false, false, false, false, false] rfl rfl (by kernel_rfl) (fun _ _ _ h => h) (Or.inl ⟨by rfl, ?_⟩) ?_ ?_
                  rotate_left
                  · intro w'
                    go_simp
                    with_reducible rfl
                  rotate_left
                  · simp only [Act.put, List.setIfInBounds_toArray, List.set_cons_zero, List.set_cons_succ, i64_w, i32_w]
                    rfl
                  refine pure_ (i := 7) (N := some 133) (v := ?_) (a' := ?_) #[true, true, true, true, true, false, true, true, false, false, false, false, false, false] rfl rfl (by kernel_rfl) (fun _ _ _ h => h) (Or.inl ⟨by rfl, ?_⟩) ?_ ?_
                  rotate_left
                  · intro w'
                    go_simp
                    with_reducible rfl
                  rotate_left
                  · simp only [Act.put, List.setIfInBounds_toArray, List.set_cons_zero, List.set_cons_succ, i64_w, i32_w]
                    rfl
                  refine pure_ (i := 8) (N := some 134) (v := ?_) (a' := ?_) #[true, true, true, true, true, false, true, true, true, false, false, false, false, false] rfl rfl (by kernel_rfl) (fun _ _ _ h => h) (Or.inl ⟨by rfl, ?_⟩) ?_ ?_
                  rotate_left
                  · intro w'
                    go_simp
                    with_reducible rfl
                  rotate_left
                  · simp only [Act.put, List.setIfInBounds_toArray, List.set_cons_zero, List.set_cons_succ, i64_w, i32_w]
                    rfl
                  refine pure_ (i := 9) (N := some 135) (v := ?_) (a' := ?_) #[true, true, true, true, true, false, true, true, true, true, false, false, false, false] rfl rfl (by kernel_rfl) (fun _ _ _ h => h) (Or.inl ⟨by rfl, ?_⟩) ?_ ?_
                  rotate_left
                  · intro w'
                    go_simp
                    with_reducible rfl
                  rotate_left
                  · simp only [Act.put, List.setIfInBounds_toArray, List.set_cons_zero, List.set_cons_succ, i64_w, i32_w]
                    rfl
                  refine take_ (i := 5) (N := some 131) (v := ?_) (a' := ?_) #[true, true, true, true, true, true, true, true, true, true, false, false, false, false] rfl rfl (by kernel_rfl) (fun _ _ _ h => h) (Or.inl ⟨by rfl, ?_⟩) hHeld ?_ ?_
                  rotate_left
                  · rintro w' ⟨s0, s1⟩
                    go_simp
                    with_reducible rfl
                  rotate_left
                  · simp only [Act.put, List.setIfInBounds_toArray, List.set_cons_zero, List.set_cons_succ, i64_w, i32_w]
                    rfl
                  refine take_ (i := 10) (N := some 136) (v := ?_) (a' := ?_) #[true, true, true, true, true, true, true, true, true, true, true, false, false, false] rfl rfl (by kernel_rfl) (fun _ _ _ h => h) (Or.inl ⟨by rfl, ?_⟩) hHeld ?_ ?_
                  rotate_left
                  · rintro w' ⟨s0, s1⟩
                    go_simp
                    with_reducible rfl
                  rotate_left
                  · simp only [Act.put, List.setIfInBounds_toArray, List.set_cons_zero, List.set_cons_succ, i64_w, i32_w]
                    rfl
                  refine one_ (i := 11) (N := some 137) #[true, true, true, true, true, true, true, true, true, true, true, true, false, false] rfl rfl (by kernel_rfl) (by decide) (fun K hK => ?_)
                  refine goes_ Try.func18 (by kernel_rfl) rfl #[.pointer (some ⟨g2, 0, none⟩), .int .u64 ti, .int .u64 ta] (by rfl) rfl rfl (by simp only [List.map_toArray, List.map_cons, List.map_nil]; rfl) ?_
                  with_reducible refine (wheel_Add.all HOD.out.two.b ti ta hti hta).mono ?_
                  rintro e w6 ⟨rfl, F2', hw6, hF6, hk6⟩
                  have HO6 := Aside0.mk (HOD.out.second hw6 hF6 hk6)
                  clear hw6 hF6 hk6 HOD
                  rw [HZ0.out]
                  refine ⟨_, rfl, ?_⟩
                  refine hK.out _ _ ⟨(rt_cells HO6.out.row q HQL.out HTM.out).1, (rt_cells HO6.out.row q HQL.out HTM.out).2⟩ (fun hHeld => ?_)
                  clear hK K
                  refine norm_ (a' := ?_) ?_ ?_
                  rotate_left
                  · show Act.put _ (some 137) _ = _
                    simp only [Act.put, List.setIfInBounds_toArray, List.set_cons_zero, List.set_cons_succ, i64_w, i32_w]
                    rfl
                  refine one_ (i := 12) (N := some 138) #[true, true, true, true, true, true, true, true, true, true, true, true, true, false] rfl rfl (by kernel_rfl) (by decide) (fun K hK => ?_)
                  refine goes_ Try.func14 (by kernel_rfl) rfl #[.int .i64 0] (by rfl) rfl rfl (by simp only [List.map_toArray, List.map_cons, List.map_nil]; rfl) ?_
                  with_reducible refine (law_num.calls _ _).mono ?_
                  rintro e wx ⟨rfl, rfl⟩
                  refine ⟨_, rfl, ?_⟩
                  refine hK.out _ _ ⟨hHeld.1, hHeld.2⟩ (fun hHeld => ?_)
                  clear hK K
                  refine norm_ (a' := ?_) ?_ ?_
                  rotate_left
                  · show Act.put _ (some 138) _ = _
                    simp only [Act.put, List.setIfInBounds_toArray, List.set_cons_zero, List.set_cons_succ, i64_w, i32_w]
                    rfl
                  refine pure_ (i := 13) (N := some 139) (v := ?_) (a' := ?_) #[true, true, true, true, true, true, true, true, true, true, true, true, true, true] rfl rfl (by kernel_rfl) (fun _ _ _ h => h) (Or.inl ⟨by rfl, ?_⟩) ?_ ?_
                  rotate_left
                  · intro w'
                    go_simp
                    with_reducible rfl
                  rotate_left
                  · simp only [Act.put, List.setIfInBounds_toArray, List.set_cons_zero, List.set_cons_succ, i64_w, i32_w]
                    rfl
                  refine done_ (by kernel_rfl) ?_
                  have HNX : Aside0 (∃ F1 F2, OrdI w wx F1 F2 g m g2 m2 now K (K.drop q).reverse K (.slice (some ad) NK ck)) := ⟨⟨F1, F2', by
                    have h := HO6.out
                    unfold addL at h
                    rw [if_pos HZ0.out] at h
                    rw [drop_rev HQL.out, ← HTM.out]
                    exact h⟩⟩
                  clear HO6 HZ0 HTM HTF hti hta hHeld h0 h1
                  go_wp2_with fail
                  go_roundw
                  case rel => exact ⟨q, (q : Int) - 1, by omega, by omega, by go_num, HNX⟩
                  case measure => simp [intOf]
              · have bk : decide ((k : Int) < (Ng : Int)) = false := decide_eq_false (by omega)
                obtain ⟨F1, F2, hO⟩ := HI.out
                have hq0 := rt_cells hO.row q HQL.out HTM.out
                have h0 := hq0.1
                have h1 := hq0.2
                have HZ0 : Aside0 (addE now (K.drop (q + 1)).reverse ti ta = 0) := ⟨by
                  have hno := drop_no HFS.out.2.1 HQL.out
                  rw [← HTM.out] at hno
                  exact addE_ok hno HTF.out.2 (by rw [List.length_reverse, List.length_drop]; have := HFS.out.2.2.1; omega)⟩
                have hti : U ti := HTF.out.1.1
                have hta : U ta := HTF.out.1.2
                have HOD := Aside0.mk (hO.below (below_drew1 (Below.refl wr.heap.size wr)))
                have hqn : q < NK := by omega
                clear hO hq0 HI
                go_upto_region 24 with (fail)
                refine start_ (n := 14) (S := fun w' => w'.cell? (ad.add (q * 2)) = some (.int .u64 ti) ∧ w'.cell? ⟨(ad.add (q * 2)).block, (ad.add (q * 2)).off + 1, none⟩ = some (.int .u64 ta)) (ds := []) #[false, false, false, false, false, false, false, false, false, false, false, false, false, false] (by kernel_rfl) rfl rfl ⟨h0, h1⟩ (fun hHeld => ?_)
                refine pure_ (i := 0) (N := some 126) (v := ?_) (a' := ?_) #[true, false, false, false, false, false, false, false, false, false, false, false, false, false] rfl rfl (by kernel_rfl) (fun _ _ _ h => h) (Or.inl ⟨by rfl, ?_⟩) ?_ ?_
                rotate_left
                · intro w'
                  go_simp
                  with_reducible rfl
                rotate_left
                · simp only [Act.put, List.setIfInBounds_toArray, List.set_cons_zero, List.set_cons_succ, i64_w, i32_w]
                  rfl
                refine pure_ (i := 1) (N := some 127) (v := ?_) (a' := ?_) #[true, true, false, false, false, false, false, false, false, false, false, false, false, false] rfl rfl (by kernel_rfl) (fun _ _ _ h => h) (Or.inl ⟨by rfl, ?_⟩) ?_ ?_
                rotate_left
                · intro w'
                  go_simp
                  with_reducible rfl
                rotate_left
                · simp only [Act.put, List.setIfInBounds_toArray, List.set_cons_zero, List.set_cons_succ, i64_w, i32_w]
                  rfl
                refine pure_ (i := 2) (N := some 128) (v := ?_) (a' := ?_) #[true, true, true, false, false, false, false, false, false, false, false, false, false, false] rfl rfl (by kernel_rfl) (fun _ _ _ h => h) (Or.inl ⟨by rfl, ?_⟩) ?_ ?_
                rotate_left
                · intro w'
                  go_simp
                  with_reducible rfl
                rotate_left
                · simp only [Act.put, List.setIfInBounds_toArray, List.set_cons_zero, List.set_cons_succ, i64_w, i32_w]
                  rfl
                refine pure_ (i := 3) (N := some 129) (v := ?_) (a' := ?_) #[true, true, true, true, false, false, false, false, false, false, false, false, false, false] rfl rfl (by kernel_rfl) (fun _ _ _ h => h) (Or.inl ⟨by rfl, ?_⟩) ?_ ?_
                rotate_left
                · intro w'
                  go_simp
                  with_reducible rfl
                rotate_left
                · simp only [Act.put, List.setIfInBounds_toArray, List.set_cons_zero, List.set_cons_succ, i64_w, i32_w]
                  rfl
                refine pure_ (i := 4) (N := some 130) (v := ?_) (a' := ?_) #[true, true, true, true, true, false, false, false, false, false, false, false, false, false] rfl rfl (by kernel_rfl) (fun _ _ _ h => h) (Or.inl ⟨by rfl, ?_⟩) ?_ ?_
                rotate_left
                · intro w'
                  go_simp
                  with_reducible rfl
                rotate_left
                · simp only [Act.put, List.setIfInBounds_toArray, List.set_cons_zero, List.set_cons_succ, i64_w, i32_w]
                  rfl
                refine pure_ (i := 6) (N := some 132) (v := ?_) (a' := ?_) #[true, true, true, true, true, false, true, false, false, false, false, false, false, false] rfl rfl (by kernel_rfl) (fun _ _ _ h => h) (Or.inl ⟨by rfl, ?_⟩) ?_ ?_
                rotate_left
                · intro w'
                  go_simp
                  with_reducible rfl
                rotate_left
                · simp only [Act.put, List.setIfInBounds_toArray, List.set_cons_zero, List.set_cons_succ, i64_w, i32_w]
                  rfl
                refine pure_ (i := 7) (N := some 133) (v := ?_) (a' := ?_) #[true, true, true, true, true, false, true, true, false, false, false, false, false, false] rfl rfl (by kernel_rfl) (fun _ _ _ h => h) (Or.inl ⟨by rfl, ?_⟩) ?_ ?_
                rotate_left
                · intro w'
                  go_simp
                  with_reducible rfl
                rotate_left
                · simp only [Act.put, List.setIfInBounds_toArray, List.set_cons_zero, List.set_cons_succ, i64_w, i32_w]
                  rfl
                refine pure_ (i := 8) (N := some 134) (v := ?_) (a' := ?_) #[true, true, true, true, true, false, true, true, true, false, false, false, false, false] rfl rfl (by kernel_rfl) (fun _ _ _ h => h) (Or.inl ⟨by rfl, ?_⟩) ?_ ?_
                rotate_left
                · intro w'
                  go_simp
                  with_reducible rfl
                rotate_left
                · simp only [Act.put, List.setIfInBounds_toArray, List.set_cons_zero, List.set_cons_succ, i64_w, i32_w]
                  rfl
                refine pure_ (i := 9) (N := some 135) (v := ?_) (a' := ?_) #[true, true, true, true, true, false, true, true, true, true, false, false, false, false] rfl rfl (by kernel_rfl) (fun _ _ _ h => h) (Or.inl ⟨by rfl, ?_⟩) ?_ ?_
                rotate_left
                · intro w'
                  go_simp
                  with_reducible rfl
                rotate_left
                · simp only [Act.put, List.setIfInBounds_toArray, List.set_cons_zero, List.set_cons_succ, i64_w, i32_w]
                  rfl
                refine take_ (i := 5) (N := some 131) (v := ?_) (a' := ?_) #[true, true, true, true, true, true, true, true, true, true, false, false, false, false] rfl rfl (by kernel_rfl) (fun _ _ _ h => h) (Or.inl ⟨by rfl, ?_⟩) hHeld ?_ ?_
                rotate_left
                · rintro w' ⟨s0, s1⟩
                  go_simp
                  with_reducible rfl
                rotate_left
                · simp only [Act.put, List.setIfInBounds_toArray, List.set_cons_zero, List.set_cons_succ, i64_w, i32_w]
                  rfl
                refine take_ (i := 10) (N := some 136) (v := ?_) (a' := ?_) #[true, true, true, true, true, true, true, true, true, true, true, false, false, false] rfl rfl (by kernel_rfl) (fun _ _ _ h => h) (Or.inl ⟨by rfl, ?_⟩) hHeld ?_ ?_
                rotate_left
                · rintro w' ⟨s0, s1⟩
                  go_simp
                  with_reducible rfl
                rotate_left
                · simp only [Act.put, List.setIfInBounds_toArray, List.set_cons_zero, List.set_cons_succ, i64_w, i32_w]
                  rfl
                refine one_ (i := 11) (N := some 137) #[true, true, true, true, true, true, true, true, true, true, true, true, false, false] rfl rfl (by kernel_rfl) (by decide) (fun K hK => ?_)
                refine goes_ Try.func18 (by kernel_rfl) rfl #[.pointer (some ⟨g2, 0, none⟩), .int .u64 ti, .int .u64 ta] (by rfl) rfl rfl (by simp only [List.map_toArray, List.map_cons, List.map_nil]; rfl) ?_
                with_reducible refine (wheel_Add.all HOD.out.two.b ti ta hti hta).mono ?_
                rintro e w6 ⟨rfl, F2', hw6, hF6, hk6⟩
                have HO6 := Aside0.mk (HOD.out.second hw6 hF6 hk6)
                clear hw6 hF6 hk6 HOD
                rw [HZ0.out]
                refine ⟨_, rfl, ?_⟩
                refine hK.out _ _ ⟨(rt_cells HO6.out.row q HQL.out HTM.out).1, (rt_cells HO6.out.row q HQL.out HTM.out).2⟩ (fun hHeld => ?_)
                clear hK K
                refine norm_ (a' := ?_) ?_ ?_
                rotate_left
                · show Act.put _ (some 137) _ = _
                  simp only [Act.put, List.setIfInBounds_toArray, List.set_cons_zero, List.set_cons_succ, i64_w, i32_w]
                  rfl
                refine one_ (i := 12) (N := some 138) #[true, true, true, true, true, true, true, true, true, true, true, true, true, false] rfl rfl (by kernel_rfl) (by decide) (fun K hK => ?_)
                refine goes_ Try.func14 (by kernel_rfl) rfl #[.int .i64 0] (by rfl) rfl rfl (by simp only [List.map_toArray, List.map_cons, List.map_nil]; rfl) ?_
                with_reducible refine (law_num.calls _ _).mono ?_
                rintro e wx ⟨rfl, rfl⟩
                refine ⟨_, rfl, ?_⟩
                refine hK.out _ _ ⟨hHeld.1, hHeld.2⟩ (fun hHeld => ?_)
                clear hK K
                refine norm_ (a' := ?_) ?_ ?_
                rotate_left
                · show Act.put _ (some 138) _ = _
                  simp only [Act.put, List.setIfInBounds_toArray, List.set_cons_zero, List.set_cons_succ, i64_w, i32_w]
                  rfl
                refine pure_ (i := 13) (N := some 139) (v := ?_) (a' := ?_) #[true, true, true, true, true, true, true, true, true, true, true, true, true, true] rfl rfl (by kernel_rfl) (fun _ _ _ h => h) (Or.inl ⟨by rfl, ?_⟩) ?_ ?_
                rotate_left
                · intro w'
                  go_simp
                  with_reducible rfl
                rotate_left
                · simp only [Act.put, List.setIfInBounds_toArray, List.set_cons_zero, List.set_cons_succ, i64_w, i32_w]
                  rfl
                refine done_ (by kernel_rfl) ?_
                have HNX : Aside0 (∃ F1 F2, OrdI w wx F1 F2 g m g2 m2 now K (K.drop q).reverse K (.slice (some ad) NK ck)) := ⟨⟨F1, F2', by
                  have h := HO6.out
                  unfold addL at h
                  rw [if_pos HZ0.out] at h
                  rw [drop_rev HQL.out, ← HTM.out]
                  exact h⟩⟩
                clear HO6 HZ0 HTM HTF hti hta hHeld h0 h1
                go_wp2_with fail
                go_roundw
                case rel => exact ⟨q, (q : Int) - 1, by omega, by omega, by go_num, HNX⟩
                case measure => simp [intOf]
          · clear hj
            obtain ⟨F1, F2, hO⟩ := HI.out
            have hj0 : j = 0 := by omega
            have hcn := hO.two.canon2 (by rw [hj0, List.drop_zero]; exact List.reverse_perm K)
            obtain ⟨T, hT⟩ : ∃ T, T = byId K := ⟨_, rfl⟩
            rw [← hT] at hcn
            have HT := Aside0.mk hcn.1
            have HST := Aside0.mk hcn.2
            have bz : decide (z ≥ 0) = false := decide_eq_false (by omega)
            have heq : ∀ W, (Op.equalIn 10000 40 (.agg #[.int .i64 (cntOf T now 0 : Nat), .int .i64 (cntOf T now 1 : Nat), .int .i64 (cntOf T now 2 : Nat), .int .i64 (cntOf T now 3 : Nat), .int .i64 (cntOf T now 4 : Nat)]) (.agg #[.int .i64 (cntOf T now 0 : Nat), .int .i64 (cntOf T now 1 : Nat), .int .i64 (cntOf T now 2 : Nat), .int .i64 (cntOf T now 3 : Nat), .int .i64 (cntOf T now 4 : Nat)])).run Try.prog W = .ok true W := fun W => equal5 _ _ _ _ _ W
            clear hO hcn hT HI hj0 hz1
            have T1 : Two w wr F1 F2 g m now T g2 m2 now T → True := fun _ => trivial
            go_wp2_with (first
              | (go_at_call 33; (with_reducible refine (law_timers.calls HT.out.a HST.out).mono ?_); rintro e w12 ⟨v12, rfl, hr, hb⟩; obtain ⟨A12, c12, hv12⟩ := Kd.R_slice hr; obtain ⟨N12, hN12⟩ : ∃ N12, N12 = (flatT T).length := ⟨_, rfl⟩; rw [← hN12] at hv12; subst hv12; have HC12 : Aside0 (IC w12 A12 N12 (flatT T)) := ⟨by have h := (Kd.R_reads' hr).2.2; rw [← hN12] at h; exact h⟩; have HT12 := Aside0.mk (HT.out.below hb); clear hr hb hN12 HT)
              | (go_at_call 33; (with_reducible refine (law_timers.calls HT12.out.b HST.out).mono ?_); rintro e w13 ⟨v13, rfl, hr, hb⟩; obtain ⟨A13, c13, hv13⟩ := Kd.R_slice hr; obtain ⟨N13, hN13⟩ : ∃ N13, N13 = (flatT T).length := ⟨_, rfl⟩; rw [← hN13] at hv13; subst hv13; have HC23 : Aside0 (IC w13 A13 N13 (flatT T)) := ⟨by have h := (Kd.R_reads' hr).2.2; rw [← hN13] at h; exact h⟩; have HC22 : Aside0 (IC w13 A12 N12 (flatT T)) := ⟨Kd.C_below HC12.out hb⟩; have HT13 := Aside0.mk (HT12.out.below hb); clear hr hb hN13 HT12 HC12)
              | (go_at_call 25; (with_reducible refine (law_ids.calls A12 A13 N12 N13 c12 c13 (flatT T) (flatT T) _ HC22.out HC23.out).mono ?_); rintro e w14 ⟨rfl, hd⟩; have HT14 := Aside0.mk (HT13.out.below (drawn_belowW hd)); rw [decide_eq_true (rfl : flatT T = flatT T)]; clear hd HC22 HC23 HT13)
              | (go_at_call 21; (with_reducible refine (wheel_Spread.all HT14.out.a).mono ?_); rintro e w15 ⟨rfl, hb⟩; have HT15 := Aside0.mk (HT14.out.below hb); clear hb HT14)
              | (go_at_call 21; (with_reducible refine (wheel_Spread.all HT15.out.b).mono ?_); rintro e w16 ⟨rfl, hb⟩; have HT16 := Aside0.mk (HT15.out.below hb); clear hb HT15)
              | (go_at_call 23; fail))
            clear heq T1
            by_cases hto : to_ < now
            · refine (wheel_Advance.back HT16.out.a to_ hto).mono ?_
              rintro e w17 ⟨rfl, rfl⟩
              go_wp2_with (go_at_call 23; fail)
              refine (wheel_Advance.back HT16.out.b to_ hto).mono ?_
              rintro e w18 ⟨rfl, rfl⟩
              have HCN : Aside0 (IC w18 none 0 []) := ⟨(Kd.R_reads' (Kd.R_nil (d := Kd.int .u64) 22 w18 0 (fun _ => True))).2.2⟩
              go_wp2_with (first
                | (go_at_call 25; (with_reducible refine (law_ids.calls none none 0 0 0 0 [] [] _ HCN.out HCN.out).mono ?_); rintro e w19 ⟨rfl, hd⟩; have HT19 := Aside0.mk (HT16.out.below (drawn_belowW hd)); rw [decide_eq_true (rfl : ([] : List Int) = [])]; clear hd HCN HT16)
                | (go_at_call 33; (with_reducible refine (law_timers.calls HT19.out.a HST.out).mono ?_); rintro e w12 ⟨v12, rfl, hr, hb⟩; obtain ⟨A12, c12, hv12⟩ := Kd.R_slice hr; obtain ⟨N12, hN12⟩ : ∃ N12, N12 = (flatT T).length := ⟨_, rfl⟩; rw [← hN12] at hv12; subst hv12; have HC12 : Aside0 (IC w12 A12 N12 (flatT T)) := ⟨by have h := (Kd.R_reads' hr).2.2; rw [← hN12] at h; exact h⟩; have HT12 := Aside0.mk (HT19.out.below hb); clear hr hb hN12 HT19)
                | (go_at_call 33; (with_reducible refine (law_timers.calls HT12.out.b HST.out).mono ?_); rintro e w13 ⟨v13, rfl, hr, hb⟩; obtain ⟨A13, c13, hv13⟩ := Kd.R_slice hr; obtain ⟨N13, hN13⟩ : ∃ N13, N13 = (flatT T).length := ⟨_, rfl⟩; rw [← hN13] at hv13; subst hv13; have HC23 : Aside0 (IC w13 A13 N13 (flatT T)) := ⟨by have h := (Kd.R_reads' hr).2.2; rw [← hN13] at h; exact h⟩; have HC22 : Aside0 (IC w13 A12 N12 (flatT T)) := ⟨Kd.C_below HC12.out hb⟩; have HT13 := Aside0.mk (HT12.out.below hb); clear hr hb hN13 HT12 HC12)
                | (go_at_call 25; (with_reducible refine (law_ids.calls A12 A13 N12 N13 c12 c13 (flatT T) (flatT T) _ HC22.out HC23.out).mono ?_); rintro e w14 ⟨rfl, hd⟩; have HT14 := Aside0.mk (HT13.out.below (drawn_belowW hd)); rw [decide_eq_true (rfl : flatT T = flatT T)]; clear hd HC22 HC23 HT13))
              go_ret
              exact ⟨rfl, HT14.out.bel⟩
            · refine (wheel_Advance.all HT16.out.a to_ HZ.out (by omega)).mono ?_
              rintro e w17 ⟨v1, F1', rfl, hw6, hF6, hk6, hr6⟩
              obtain ⟨hT6, hk6', hF6'⟩ := HT16.out.first hw6 hF6 hk6
              have HT17 := Aside0.mk hT6
              have hr6' : UR w17 0 (fun k => ¬ (F1' k ∨ F2 k)) v1 ((sorted (T.filter (isOver to_))).map (·.1)) := Kd.R_mono hr6 (fun k hk h => by
                rcases h with h | h
                · exact hk.2 h
                · rcases hk.1 with h2 | h2
                  · exact HT16.out.dis k h2 h
                  · have := HT16.out.b.lt k h; omega)
              have HR17 := Aside0.mk hr6'
              clear hw6 hF6 hk6 hr6 hr6' hT6 hk6' hF6' HT16
              go_wp2_with (go_at_call 23; fail)
              refine (wheel_Advance.all HT17.out.b to_ HZ.out (by omega)).mono ?_
              rintro e w18 ⟨v2, F2', rfl, hw8, hF8, hk8, hr8⟩
              obtain ⟨hT8, hk8', hF8'⟩ := HT17.out.swap.first hw8 hF8 hk8
              have HT18 := Aside0.mk hT8
              have HQ18 := Aside0.mk (KR.kept (F := fun k => F2 k ∨ F1' k) (Kd.R_mono HR17.out (fun k hk h => hk h.symm)) hk8' hF8')
              have HR18 := Aside0.mk hr8
              clear hw8 hF8 hk8 hr8 hT8 hk8' hF8' HT17 HR17
              obtain ⟨A1, c1, hv1⟩ := Kd.R_slice HQ18.out
              obtain ⟨A2, c2, hv2⟩ := Kd.R_slice HR18.out
              obtain ⟨X1, hX1⟩ : ∃ X1, X1 = (sorted (T.filter (isOver to_))).map (·.1) := ⟨_, rfl⟩
              rw [← hX1] at hv1 hv2 HQ18 HR18
              obtain ⟨M1, hM1⟩ : ∃ M1, M1 = X1.length := ⟨_, rfl⟩
              rw [← hM1] at hv1 hv2
              subst hv1 hv2
              have HC1 : Aside0 (IC w18 A1 M1 X1) := ⟨by have h := (Kd.R_reads' HQ18.out).2.2; rw [← hM1] at h; exact h⟩
              have HC2 : Aside0 (IC w18 A2 M1 X1) := ⟨by have h := (Kd.R_reads' HR18.out).2.2; rw [← hM1] at h; exact h⟩
              have HSV : Aside0 (Srt (T.filter (isStay to_))) := ⟨HST.out.filter _⟩
              obtain ⟨V, hV⟩ : ∃ V, V = T.filter (isStay to_) := ⟨_, rfl⟩
              rw [← hV] at HT18 HSV
              clear hX1 hM1 HQ18 HR18 hV HST
              go_wp2_with (first
                | (go_at_call 25; (with_reducible refine (law_ids.calls A1 A2 M1 M1 c1 c2 X1 X1 _ HC1.out HC2.out).mono ?_); rintro e w19 ⟨rfl, hd⟩; have HT19 := Aside0.mk (HT18.out.below (drawn_belowW hd)); rw [decide_eq_true (rfl : X1 = X1)]; clear hd HC1 HC2 HT18)
                | (go_at_call 33; (with_reducible refine (law_timers.calls HT19.out.b HSV.out).mono ?_); rintro e w12 ⟨v12, rfl, hr, hb⟩; obtain ⟨A12, c12, hv12⟩ := Kd.R_slice hr; obtain ⟨N12, hN12⟩ : ∃ N12, N12 = (flatT V).length := ⟨_, rfl⟩; rw [← hN12] at hv12; subst hv12; have HC12 : Aside0 (IC w12 A12 N12 (flatT V)) := ⟨by have h := (Kd.R_reads' hr).2.2; rw [← hN12] at h; exact h⟩; have HT12 := Aside0.mk (HT19.out.below hb); clear hr hb hN12 HT19)
                | (go_at_call 33; (with_reducible refine (law_timers.calls HT12.out.a HSV.out).mono ?_); rintro e w13 ⟨v13, rfl, hr, hb⟩; obtain ⟨A13, c13, hv13⟩ := Kd.R_slice hr; obtain ⟨N13, hN13⟩ : ∃ N13, N13 = (flatT V).length := ⟨_, rfl⟩; rw [← hN13] at hv13; subst hv13; have HC23 : Aside0 (IC w13 A13 N13 (flatT V)) := ⟨by have h := (Kd.R_reads' hr).2.2; rw [← hN13] at h; exact h⟩; have HC22 : Aside0 (IC w13 A12 N12 (flatT V)) := ⟨Kd.C_below HC12.out hb⟩; have HT13 := Aside0.mk (HT12.out.below hb); clear hr hb hN13 HT12 HC12)
                | (go_at_call 25; (with_reducible refine (law_ids.calls A12 A13 N12 N13 c12 c13 (flatT V) (flatT V) _ HC22.out HC23.out).mono ?_); rintro e w14 ⟨rfl, hd⟩; have HT14 := Aside0.mk (HT13.out.below (drawn_belowW hd)); rw [decide_eq_true (rfl : flatT V = flatT V)]; clear hd HC22 HC23 HT13))
              go_ret
              exact ⟨rfl, HT14.out.bel⟩
    · have bi : decide ((i : Int) < (N : Int)) = false := decide_eq_false (by omega)
      obtain ⟨F1, F2, K, hO, hKl⟩ := HI.out
      obtain ⟨Ak, ck, hvk⟩ := Kd.R_slice hO.row
      have HFS := Aside0.mk hO.two.a.facts
      have HKL := Aside0.mk hKl
      obtain ⟨NK, hNK⟩ : ∃ NK, NK = K.length := ⟨_, rfl⟩
      have HNK := Aside0.mk hNK
      have hNKB : NK ≤ 500 := by rw [hNK]; omega
      rw [← hNK] at hvk
      subst hvk
      have HI2 : Aside0 (∃ F1 F2, OrdI w wr F1 F2 g m g2 m2 now K (K.drop NK).reverse K (.slice Ak NK ck)) := ⟨⟨F1, F2, by rw [hNK, List.drop_length, List.reverse_nil, ← hNK]; exact hO⟩⟩
      clear hO hKl hNK HI
      go_wp2_with fail
      go_loopw [11] (fun v11 wr => ∃ (j : Nat) (z : Int), j ≤ NK ∧ z + 1 = j ∧ v11 = .int .i64 z ∧ Aside0 (∃ F1 F2, OrdI w wr F1 F2 g m g2 m2 now K (K.drop j).reverse K (.slice Ak NK ck))) (fun v11 _ => (intOf v11 + 1).toNat)
      case atStart => exact ⟨NK, (NK : Int) - 1, Nat.le_refl _, by omega, by go_num, HI2⟩
      case round =>
        clear HI2
        obtain ⟨j, z, hj, hz1, rfl, HI⟩ := hrel
        by_cases hj0 : 0 < j
        · obtain ⟨q, rfl⟩ : ∃ q, j = q + 1 := ⟨j - 1, by omega⟩
          obtain rfl : z = (q : Int) := by omega
          clear hz1 hj0
          have hqb : (q : Int) < 500 := by omega
          have HQL : Aside0 (q < K.length) := ⟨by have := HNK.out; omega⟩
          obtain ⟨⟨ti, ta⟩, htm⟩ : ∃ t, t = timN K q := ⟨_, rfl⟩
          have HTM := Aside0.mk htm
          have HTF : Aside0 (TimOk (ti, ta) ∧ now < ta) := ⟨by rw [htm]; have h := HFS.out.1 _ (timN_mem HQL.out); rw [← htm] at h ⊢; exact h⟩
          clear htm
          obtain ⟨ad, hAk⟩ : ∃ ad, Ak = some ad := by
            obtain ⟨F1, F2, hO⟩ := HI.out
            have hCk := (Kd.R_reads' hO.row).2.2
            obtain ⟨ad, e, _⟩ := tim_at hCk q HQL.out
            exact ⟨ad, e⟩
          subst hAk
          have HI3 := Aside0.mk HI.out
          clear HI
          go_wp2_with fail
          go_loopw [12] (fun v12 wr => ∃ k : Nat, k ≤ Ng ∧ k ≤ 4 ∧ v12 = .int .i64 k ∧ Aside0 (∃ F1 F2, OrdI w wr F1 F2 g m g2 m2 now K (K.drop (q + 1)).reverse K (.slice (some ad) NK ck))) (fun v12 _ => 4 - (intOf v12).toNat)
          case atStart => exact ⟨0, Nat.zero_le _, Nat.zero_le _, rfl, HI3⟩
          case round =>
            clear HI3
            obtain ⟨k, hk, hk4, rfl, HI⟩ := hrel
            by_cases hkn : k < Ng
            · by_cases hk5 : k < 4
              · obtain ⟨F1, F2, hO⟩ := HI.out
                obtain ⟨adg, hAg, _⟩ := ic_at HG.out k hkn
                subst hAg
                have hgc := ic_cells HG.out k hkn
                obtain ⟨gk, hgk⟩ : ∃ gk, gk = gone.getD k 0 := ⟨_, rfl⟩
                have hgu : U gk := by rw [hgk]; exact HGK.out k (by have := HNG.out; omega)
                rw [← hgk] at hgc
                have f0 := pw_cell_below hO.two.bel hgc
                have HGC := Aside0.mk hgc
                have hCk : CT wr (some ad) NK K := by have h := (Kd.R_reads' hO.row).2.2; rw [← HNK.out] at h; exact h
                have HCK := Aside0.mk hCk
                have HO := Aside0.mk hO
                have hk6 : (k : Int) < 4 := by omega
                clear hgc hgk hCk hO
                go_wp2_with fail
                refine (law_due.calls (some ad) NK ck gk K _ HCK.out).mono ?_
                rintro e w7 ⟨rfl, rfl⟩
                cases hh : hasId K gk with
                | true =>
                  have HNX : Aside0 (∃ F1 F2, OrdI w w7 F1 F2 g m g2 m2 now K (K.drop (q + 1)).reverse K (.slice (some ad) NK ck)) := HI
                  clear hh HO HI HCK f0 HGC
                  go_wp2_with fail
                  go_roundw
                  case rel => exact ⟨k + 1, by omega, by omega, by go_num, HNX⟩
                  case measure => simp [intOf]; omega
                | false =>
                  have HNB : Aside0 (hasId (K.drop (q + 1)).reverse gk = false) := ⟨hasId_sub (fun t ht => by rw [List.mem_reverse] at ht; exact List.mem_of_mem_drop ht) hh⟩
                  have HZ0 : Aside0 (addE now (K.drop (q + 1)).reverse gk ta = 0) := ⟨addE_ok HNB.out HTF.out.2 (by rw [List.length_reverse, List.length_drop]; have := HFS.out.2.2.1; omega)⟩
                  have HAL : Aside0 (addL now (K.drop (q + 1)).reverse gk ta = (K.drop (q + 1)).reverse ++ [(gk, ta)]) := ⟨by unfold addL; rw [if_pos HZ0.out]⟩
                  have hta : U ta := HTF.out.1.2
                  have h1 := (rt_cells HO.out.row q HQL.out HTM.out).2
                  have HOD := Aside0.mk (HO.out.below (below_drew1 (Below.refl w7.heap.size w7)))
                  have hqn : q < NK := by omega
                  clear hh HO HI HCK
                  go_upto_region 20 with (fail)
                  refine start_ (n := 12) (S := fun w' => w'.cell? (adg.add k) = some (.int .u64 gk) ∧ w'.cell? ⟨(ad.add (q * 2)).block, (ad.add (q * 2)).off + 1, none⟩ = some (.int .u64 ta)) (ds := []) #[false, false, false, false, false, false, false, false, false, false, false, false] (by kernel_rfl) rfl rfl ⟨f0, h1⟩ (fun hHeld => ?_)
                  refine pure_ (i := 0) (N := some 101) (v := ?_) (a' := ?_) #[true, false, false, false, false, false, false, false, false, false, false, false] rfl rfl (by kernel_rfl) (fun _ _ _ h => h) (Or.inl ⟨by rfl, ?_⟩) ?_ ?_
                  rotate_left
                  · intro w'
                    go_simp
                    with_reducible rfl
                  rotate_left
                  · simp only [Act.put, List.setIfInBounds_toArray, List.set_cons_zero, List.set_cons_succ, i64_w, i32_w]
                    rfl
                  refine pure_ (i := 1) (N := some 102) (v := ?_) (a' := ?_) #[true, true, false, false, false, false, false, false, false, false, false, false] rfl rfl (by kernel_rfl) (fun _ _ _ h => h) (Or.inl ⟨by rfl, ?_⟩) ?_ ?_
                  rotate_left
                  · intro w'
                    go_simp
                    with_reducible rfl
                  rotate_left
                  · simp only [Act.put, List.setIfInBounds_toArray, List.set_cons_zero, List.set_cons_succ, i64_w, i32_w]
                    rfl
                  refine pure_ (i := 2) (N := some 103) (v := ?_) (a' := ?_) #[true, true, true, false, false, false, false, false, false, false, false, false] rfl rfl (by kernel_rfl) (fun _ _ _ h => h) (Or.inl ⟨by rfl, ?_⟩) ?_ ?_
                  rotate_left
                  · intro w'
                    go_simp
                    with_reducible rfl
                  rotate_left
                  · simp only [Act.put, List.setIfInBounds_toArray, List.set_cons_zero, List.set_cons_succ, i64_w, i32_w]
                    rfl
                  refine pure_ (i := 3) (N := some 104) (v := ?_) (a' := ?_) #[true, true, true, true, false, false, false, false, false, false, false, false] rfl rfl (by kernel_rfl) (fun _ _ _ h => h) (Or.inl ⟨by rfl, ?_⟩) ?_ ?_
                  rotate_left
                  · intro w'
                    go_simp
                    with_reducible rfl
                  rotate_left
                  · simp only [Act.put, List.setIfInBounds_toArray, List.set_cons_zero, List.set_cons_succ, i64_w, i32_w]
                    rfl
                  refine pure_ (i := 5) (N := some 106) (v := ?_) (a' := ?_) #[true, true, true, true, false, true, false, false, false, false, false, false] rfl rfl (by kernel_rfl) (fun _ _ _ h => h) (Or.inl ⟨by rfl, ?_⟩) ?_ ?_
                  rotate_left
                  · intro w'
                    go_simp
                    with_reducible rfl
                  rotate_left
                  · simp only [Act.put, List.setIfInBounds_toArray, List.set_cons_zero, List.set_cons_succ, i64_w, i32_w]
                    rfl
                  refine pure_ (i := 6) (N := some 107) (v := ?_) (a' := ?_) #[true, true, true, true, false, true, true, false, false, false, false, false] rfl rfl (by kernel_rfl) (fun _ _ _ h => h) (Or.inl ⟨by rfl, ?_⟩) ?_ ?_
                  rotate_left
                  · intro w'
                    go_simp
                    with_reducible rfl
                  rotate_left
                  · simp only [Act.put, List.setIfInBounds_toArray, List.set_cons_zero, List.set_cons_succ, i64_w, i32_w]
                    rfl
                  refine pure_ (i := 7) (N := some 108) (v := ?_) (a' := ?_) #[true, true, true, true, false, true, true, true, false, false, false, false] rfl rfl (by kernel_rfl) (fun _ _ _ h => h) (Or.inl ⟨by rfl, ?_⟩) ?_ ?_
                  rotate_left
                  · intro w'
                    go_simp
                    with_reducible rfl
                  rotate_left
                  · simp only [Act.put, List.setIfInBounds_toArray, List.set_cons_zero, List.set_cons_succ, i64_w, i32_w]
                    rfl
                  refine pure_ (i := 8) (N := some 109) (v := ?_) (a' := ?_) #[true, true, true, true, false, true, true, true, true, false, false, false] rfl rfl (by kernel_rfl) (fun _ _ _ h => h) (Or.inl ⟨by rfl, ?_⟩) ?_ ?_
                  rotate_left
                  · intro w'
                    go_simp
                    with_reducible rfl
                  rotate_left
                  · simp only [Act.put, List.setIfInBounds_toArray, List.set_cons_zero, List.set_cons_succ, i64_w, i32_w]
                    rfl
                  refine take_ (i := 4) (N := some 105) (v := ?_) (a' := ?_) #[true, true, true, true, true, true, true, true, true, false, false, false] rfl rfl (by kernel_rfl) (fun _ _ _ h => h) (Or.inl ⟨by rfl, ?_⟩) hHeld ?_ ?_
                  rotate_left
                  · rintro w' ⟨s0, s1⟩
                    go_simp
                    with_reducible rfl
                  rotate_left
                  · simp only [Act.put, List.setIfInBounds_toArray, List.set_cons_zero, List.set_cons_succ, i64_w, i32_w]
                    rfl
                  refine take_ (i := 9) (N := some 110) (v := ?_) (a' := ?_) #[true, true, true, true, true, true, true, true, true, true, false, false] rfl rfl (by kernel_rfl) (fun _ _ _ h => h) (Or.inl ⟨by rfl, ?_⟩) hHeld ?_ ?_
                  rotate_left
                  · rintro w' ⟨s0, s1⟩
                    go_simp
                    with_reducible rfl
                  rotate_left
                  · simp only [Act.put, List.setIfInBounds_toArray, List.set_cons_zero, List.set_cons_succ, i64_w, i32_w]
                    rfl
                  refine one_ (i := 10) (N := some 111) #[true, true, true, true, true, true, true, true, true, true, true, false] rfl rfl (by kernel_rfl) (by decide) (fun K hK => ?_)
                  refine goes_ Try.func18 (by kernel_rfl) rfl #[.pointer (some ⟨g2, 0, none⟩), .int .u64 gk, .int .u64 ta] (by rfl) rfl rfl (by simp only [List.map_toArray, List.map_cons, List.map_nil]; rfl) ?_
                  with_reducible refine (wheel_Add.all HOD.out.two.b gk ta hgu hta).mono ?_
                  rintro e w6 ⟨rfl, F2', hw6, hF6, hk6⟩
                  have HO6 := Aside0.mk (HOD.out.second hw6 hF6 hk6)
                  clear hw6 hF6 hk6 HOD
                  rw [HZ0.out]
                  refine ⟨_, rfl, ?_⟩
                  refine hK.out _ _ ⟨pw_cell_below HO6.out.two.bel HGC.out, (rt_cells HO6.out.row q HQL.out HTM.out).2⟩ (fun hHeld => ?_)
                  clear hK K
                  refine norm_ (a' := ?_) ?_ ?_
                  rotate_left
                  · show Act.put _ (some 111) _ = _
                    simp only [Act.put, List.setIfInBounds_toArray, List.set_cons_zero, List.set_cons_succ, i64_w, i32_w]
                    rfl
                  refine pure_ (i := 11) (N := some 15) (v := ?_) (a' := ?_) #[true, true, true, true, true, true, true, true, true, true, true, true] rfl rfl (by kernel_rfl) (fun _ _ _ h => h) (Or.inl ⟨by rfl, ?_⟩) ?_ ?_
                  rotate_left
                  · intro w'
                    go_simp
                    with_reducible rfl
                  rotate_left
                  · simp only [Act.put, List.setIfInBounds_toArray, List.set_cons_zero, List.set_cons_succ, i64_w, i32_w]
                    rfl
                  refine done_ (by kernel_rfl) ?_
                  rw [HAL.out] at HO6
                  have f1 := pw_cell_below HO6.out.two.bel HGC.out
                  have HRE : Aside0 (remE ((K.drop (q + 1)).reverse ++ [(gk, ta)]) gk = 0) := ⟨by unfold remE; rw [if_pos (by unfold hasId; rw [List.any_append]; simp)]⟩
                  have HWO : Aside0 (without ((K.drop (q + 1)).reverse ++ [(gk, ta)]) gk = (K.drop (q + 1)).reverse) := ⟨without_snoc HNB.out⟩
                  clear f0 h1 hHeld HNB HZ0 HAL
                  go_wp2_with fail
                  refine (wheel_Remove.all HO6.out.two.b gk hgu).mono ?_
                  rintro e w8 ⟨rfl, F2'', hw8, hF8, hk8⟩
                  have hO8 := HO6.out.second hw8 hF8 hk8
                  rw [HWO.out] at hO8
                  rw [HRE.out]
                  have HNX : Aside0 (∃ F1 F2, OrdI w w8 F1 F2 g m g2 m2 now K (K.drop (q + 1)).reverse K (.slice (some ad) NK ck)) := ⟨⟨F1, F2'', hO8⟩⟩
                  clear hw8 hF8 hk8 hO8 HO6 HRE HWO f1 HGC
                  go_wp2_with (go_at_call 14; (with_reducible refine (law_num.calls _ _).mono ?_); rintro e wx ⟨rfl, rfl⟩)
                  go_roundw
                  case rel => exact ⟨k + 1, by omega, by omega, by go_num, HNX⟩
                  case measure => simp [intOf]; omega
              · have bk : decide ((k : Int) < 4) = false := decide_eq_false (by omega)
                clear hk5
                obtain ⟨F1, F2, hO⟩ := HI.out
                have hq0 := rt_cells hO.row q HQL.out HTM.out
                have h0 := hq0.1
                have h1 := hq0.2
                have HZ0 : Aside0 (addE now (K.drop (q + 1)).reverse ti ta = 0) := ⟨by
                  have hno := drop_no HFS.out.2.1 HQL.out
                  rw [← HTM.out] at hno
                  exact addE_ok hno HTF.out.2 (by rw [List.length_reverse, List.length_drop]; have := HFS.out.2.2.1; omega)⟩
                have hti : U ti := HTF.out.1.1
                have hta : U ta := HTF.out.1.2
                have HOD := Aside0.mk (hO.below (below_drew1 (Below.refl wr.heap.size wr)))
                have hqn : q < NK := by omega
                clear hO hq0 HI
                go_upto_region 24 with (fail)
                refine start_ (n := 14) (S := fun w' => w'.cell? (ad.add (q * 2)) = some (.int .u64 ti) ∧ w'.cell? ⟨(ad.add (q * 2)).block, (ad.add (q * 2)).off + 1, none⟩ = some (.int .u64 ta)) (ds := []) #[false, false, false, false, false, false, false, false, false, false, false, false, false, false] (by kernel_rfl) rfl rfl ⟨h0, h1⟩ (fun hHeld => ?_)
                refine pure_ (i := 0) (N := some 126) (v := ?_) (a' := ?_) #[true, false, false, false, false, false, false, false, false, false, false, false, false, false] rfl rfl (by kernel_rfl) (fun _ _ _ h => h) (Or.inl ⟨by rfl, ?_⟩) ?_ ?_
                rotate_left
                · intro w'
                  go_simp
                  with_reducible rfl
                rotate_left
                · simp only [Act.put, List.setIfInBounds_toArray, List.set_cons_zero, List.set_cons_succ, i64_w, i32_w]
                  rfl
                refine pure_ (i := 1) (N := some 127) (v := ?_) (a' := ?_) #[true, true, false, false, false, false, false, false, false, false, false, false, false, false] rfl rfl (by kernel_rfl) (fun _ _ _ h => h) (Or.inl ⟨by rfl, ?_⟩) ?_ ?_
                rotate_left
                · intro w'
                  go_simp
                  with_reducible rfl
                rotate_left
                · simp only [Act.put, List.setIfInBounds_toArray, List.set_cons_zero, List.set_cons_succ, i64_w, i32_w]
                  rfl
                refine pure_ (i := 2) (N := some 128) (v := ?_) (a' := ?_) #[true, true, true, false, false, false, false, false, false, false, false, false, false, false] rfl rfl (by kernel_rfl) (fun _ _ _ h => h) (Or.inl ⟨by rfl, ?_⟩) ?_ ?_
                rotate_left
                · intro w'
                  go_simp
                  with_reducible rfl
                rotate_left
                · simp only [Act.put, List.setIfInBounds_toArray, List.set_cons_zero, List.set_cons_succ, i64_w, i32_w]
                  rfl
                refine pure_ (i := 3) (N := some 129) (v := ?_) (a' := ?_) #[true, true, true, true, false, false, false, false, false, false, false, false, false, false] rfl rfl (by kernel_rfl) (fun _ _ _ h => h) (Or.inl ⟨by rfl, ?_⟩) ?_ ?_
                rotate_left
                · intro w'
                  go_simp
                  with_reducible rfl
                rotate_left
                · simp only [Act.put, List.setIfInBounds_toArray, List.set_cons_zero, List.set_cons_succ, i64_w, i32_w]
                  rfl
                refine pure_ (i := 4) (N := some 130) (v := ?_) (a' := ?_) #[true, true, true, true, true, false, false, false, false, false, false, false, false, false] rfl rfl (by kernel_rfl) (fun _ _ _ h => h) (Or.inl ⟨by rfl, ?_⟩) ?_ ?_
                rotate_left
                · intro w'
                  go_simp
                  with_reducible rfl
                rotate_left
                · simp only [Act.put, List.setIfInBounds_toArray, List.set_cons_zero, List.set_cons_succ, i64_w, i32_w]
                  rfl
                refine pure_ (i := 6) (N := some 132) (v := ?_) (a' := ?_) #[true, true, true, true, true, false, true, false, false, false, false, false, false, false] rfl rfl (by kernel_rfl) (fun _ _ _ h => h) (Or.inl ⟨by rfl, ?_⟩) ?_ ?_
                rotate_left
                · intro w'
                  go_simp
                  with_reducible rfl
                rotate_left
                · simp only [Act.put, List.setIfInBounds_toArray, List.set_cons_zero, List.set_cons_succ, i64_w, i32_w]
                  rfl
                refine pure_ (i := 7) (N := some 133) (v := ?_) (a' := ?_) #[true, true, true, true, true, false, true, true, false, false, false, false, false, false] rfl rfl (by kernel_rfl) (fun _ _ _ h => h) (Or.inl ⟨by rfl, ?_⟩) ?_ ?_
                rotate_left
                · intro w'
                  go_simp
                  with_reducible rfl
                rotate_left
                · simp only [Act.put, List.setIfInBounds_toArray, List.set_cons_zero, List.set_cons_succ, i64_w, i32_w]
                  rfl
                refine pure_ (i := 8) (N := some 134) (v := ?_) (a' := ?_) #[true, true, true, true, true, false, true, true, true, false, false, false, false, false] rfl rfl (by kernel_rfl) (fun _ _ _ h => h) (Or.inl ⟨by rfl, ?_⟩) ?_ ?_
                rotate_left
                · intro w'
                  go_simp
                  with_reducible rfl
                rotate_left
                · simp only [Act.put, List.setIfInBounds_toArray, List.set_cons_zero, List.set_cons_succ, i64_w, i32_w]
                  rfl
                refine pure_ (i := 9) (N := some 135) (v := ?_) (a' := ?_) #[true, true, true, true, true, false, true, true, true, true, false, false, false, false] rfl rfl (by kernel_rfl) (fun _ _ _ h => h) (Or.inl ⟨by rfl, ?_⟩) ?_ ?_
                rotate_left
                · intro w'
                  go_simp
                  with_reducible rfl
                rotate_left
                · simp only [Act.put, List.setIfInBounds_toArray, List.set_cons_zero, List.set_cons_succ, i64_w, i32_w]
                  rfl
                refine take_ (i := 5) (N := some 131) (v := ?_) (a' := ?_) #[true, true, true, true, true, true, true, true, true, true, false, false, false, false] rfl rfl (by kernel_rfl) (fun _ _ _ h => h) (Or.inl ⟨by rfl, ?_⟩) hHeld ?_ ?_
                rotate_left
                · rintro w' ⟨s0, s1⟩
                  go_simp
                  with_reducible rfl
                rotate_left
                · simp only [Act.put, List.setIfInBounds_toArray, List.set_cons_zero, List.set_cons_succ, i64_w, i32_w]
                  rfl
                refine take_ (i := 10) (N := some 136) (v := ?_) (a' := ?_) #[true, true, true, true, true, true, true, true, true, true, true, false, false, false] rfl rfl (by kernel_rfl) (fun _ _ _ h => h) (Or.inl ⟨by rfl, ?_⟩) hHeld ?_ ?_
                rotate_left
                · rintro w' ⟨s0, s1⟩
                  go_simp
                  with_reducible rfl
                rotate_left
                · simp only [Act.put, List.setIfInBounds_toArray, List.set_cons_zero, List.set_cons_succ, i64_w, i32_w]
                  rfl
                refine one_ (i := 11) (N := some 137) #[true, true, true, true, true, true, true, true, true, true, true, true, false, false] rfl rfl (by kernel_rfl) (by decide) (fun K hK => ?_)
                refine goes_ Try.func18 (by kernel_rfl) rfl #[.pointer (some ⟨g2, 0, none⟩), .int .u64 ti, .int .u64 ta] (by rfl) rfl rfl (by simp only [List.map_toArray, List.map_cons, List.map_nil]; rfl) ?_
                with_reducible refine (wheel_Add.all HOD.out.two.b ti ta hti hta).mono ?_
                rintro e w6 ⟨rfl, F2', hw6, hF6, hk6⟩
                have HO6 := Aside0.mk (HOD.out.second hw6 hF6 hk6)
                clear hw6 hF6 hk6 HOD
                rw [HZ0.out]
                refine ⟨_, rfl, ?_⟩
                refine hK.out _ _ ⟨(rt_cells HO6.out.row q HQL.out HTM.out).1, (rt_cells HO6.out.row q HQL.out HTM.out).2⟩ (fun hHeld => ?_)
                clear hK K
                refine norm_ (a' := ?_) ?_ ?_
                rotate_left
                · show Act.put _ (some 137) _ = _
                  simp only [Act.put, List.setIfInBounds_toArray, List.set_cons_zero, List.set_cons_succ, i64_w, i32_w]
                  rfl
                refine one_ (i := 12) (N := some 138) #[true, true, true, true, true, true, true, true, true, true, true, true, true, false] rfl rfl (by kernel_rfl) (by decide) (fun K hK => ?_)
                refine goes_ Try.func14 (by kernel_rfl) rfl #[.int .i64 0] (by rfl) rfl rfl (by simp only [List.map_toArray, List.map_cons, List.map_nil]; rfl) ?_
                with_reducible refine (law_num.calls _ _).mono ?_
                rintro e wx ⟨rfl, rfl⟩
                refine ⟨_, rfl, ?_⟩
                refine hK.out _ _ ⟨hHeld.1, hHeld.2⟩ (fun hHeld => ?_)
                clear hK K
                refine norm_ (a' := ?_) ?_ ?_
                rotate_left
                · show Act.put _ (some 138) _ = _
                  simp only [Act.put, List.setIfInBounds_toArray, List.set_cons_zero, List.set_cons_succ, i64_w, i32_w]
                  rfl
                refine pure_ (i := 13) (N := some 139) (v := ?_) (a' := ?_) #[true, true, true, true, true, true, true, true, true, true, true, true, true, true] rfl rfl (by kernel_rfl) (fun _ _ _ h => h) (Or.inl ⟨by rfl, ?_⟩) ?_ ?_
                rotate_left
                · intro w'
                  go_simp
                  with_reducible rfl
                rotate_left
                · simp only [Act.put, List.setIfInBounds_toArray, List.set_cons_zero, List.set_cons_succ, i64_w, i32_w]
                  rfl
                refine done_ (by kernel_rfl) ?_
                have HNX : Aside0 (∃ F1 F2, OrdI w wx F1 F2 g m g2 m2 now K (K.drop q).reverse K (.slice (some ad) NK ck)) := ⟨⟨F1, F2', by
                  have h := HO6.out
                  unfold addL at h
                  rw [if_pos HZ0.out] at h
                  rw [drop_rev HQL.out, ← HTM.out]
                  exact h⟩⟩
                clear HO6 HZ0 HTM HTF hti hta hHeld h0 h1
                go_wp2_with fail
                go_roundw
                case rel => exact ⟨q, (q : Int) - 1, by omega, by omega, by go_num, HNX⟩
                case measure => simp [intOf]
            · have bk : decide ((k : Int) < (Ng : Int)) = false := decide_eq_false (by omega)
              obtain ⟨F1, F2, hO⟩ := HI.out
              have hq0 := rt_cells hO.row q HQL.out HTM.out
              have h0 := hq0.1
              have h1 := hq0.2
              have HZ0 : Aside0 (addE now (K.drop (q + 1)).reverse ti ta = 0) := ⟨by
                have hno := drop_no HFS.out.2.1 HQL.out
                rw [← HTM.out] at hno
                exact addE_ok hno HTF.out.2 (by rw [List.length_reverse, List.length_drop]; have := HFS.out.2.2.1; omega)⟩
              have hti : U ti := HTF.out.1.1
              have hta : U ta := HTF.out.1.2
              have HOD := Aside0.mk (hO.below (below_drew1 (Below.refl wr.heap.size wr)))
              have hqn : q < NK := by omega
              clear hO hq0 HI
              go_upto_region 24 with (fail)
              refine start_ (n := 14) (S := fun w' => w'.cell? (ad.add (q * 2)) = some (.int .u64 ti) ∧ w'.cell? ⟨(ad.add (q * 2)).block, (ad.add (q * 2)).off + 1, none⟩ = some (.int .u64 ta)) (ds := []) #[false, false, false, false, false, false, false, false, false, false, false, false, false, false] (by kernel_rfl) rfl rfl ⟨h0, h1⟩ (fun hHeld => ?_)
              refine pure_ (i := 0) (N := some 126) (v := ?_) (a' := ?_) #[true, false, false, false, false, false, false, false, false, false, false, false, false, false] rfl rfl (by kernel_rfl) (fun _ _ _ h => h) (Or.inl ⟨by rfl, ?_⟩) ?_ ?_
              rotate_left
              · intro w'
                go_simp
                with_reducible rfl
              rotate_left
              · simp only [Act.put, List.setIfInBounds_toArray, List.set_cons_zero, List.set_cons_succ, i64_w, i32_w]
                rfl
              refine pure_ (i := 1) (N := some 127) (v := ?_) (a' := ?_) #[true, true, false, false, false, false, false, false, false, false, false, false, false, false] rfl rfl (by kernel_rfl) (fun _ _ _ h => h) (Or.inl ⟨by rfl, ?_⟩) ?_ ?_
              rotate_left
              · intro w'
                go_simp
                with_reducible rfl
              rotate_left
              · simp only [Act.put, List.setIfInBounds_toArray, List.set_cons_zero, List.set_cons_succ, i64_w, i32_w]
                rfl
              refine pure_ (i := 2) (N := some 128) (v := ?_) (a' := ?_) #[true, true, true, false, false, false, false, false, false, false, false, false, false, false] rfl rfl (by kernel_rfl) (fun _ _ _ h => h) (Or.inl ⟨by rfl, ?_⟩) ?_ ?_
              rotate_left
              · intro w'
                go_simp
                with_reducible rfl
              rotate_left
              · simp only [Act.put, List.setIfInBounds_toArray, List.set_cons_zero, List.set_cons_succ, i64_w, i32_w]
                rfl
              refine pure_ (i := 3) (N := some 129) (v := ?_) (a' := ?_) #[true, true, true, true, false, false, false, false, false, false, false, false, false, false] rfl rfl (by kernel_rfl) (fun _ _ _ h => h) (Or.inl ⟨by rfl, ?_⟩) ?_ ?_
              rotate_left
              · intro w'
                go_simp
                with_reducible rfl
              rotate_left
              · simp only [Act.put, List.setIfInBounds_toArray, List.set_cons_zero, List.set_cons_succ, i64_w, i32_w]
                rfl
              refine pure_ (i := 4) (N := some 130) (v := ?_) (a' := ?_) #[true, true, true, true, true, false, false, false, false, false, false, false, false, false] rfl rfl (by kernel_rfl) (fun _ _ _ h => h) (Or.inl ⟨by rfl, ?_⟩) ?_ ?_
              rotate_left
              · intro w'
                go_simp
                with_reducible rfl
              rotate_left
              · simp only [Act.put, List.setIfInBounds_toArray, List.set_cons_zero, List.set_cons_succ, i64_w, i32_w]
                rfl
              refine pure_ (i := 6) (N := some 132) (v := ?_) (a' := ?_) #[true, true, true, true, true, false, true, false, false, false, false, false, false, false] rfl rfl (by kernel_rfl) (fun _ _ _ h => h) (Or.inl ⟨by rfl, ?_⟩) ?_ ?_
              rotate_left
              · intro w'
                go_simp
                with_reducible rfl
              rotate_left
              · simp only [Act.put, List.setIfInBounds_toArray, List.set_cons_zero, List.set_cons_succ, i64_w, i32_w]
                rfl
              refine pure_ (i := 7) (N := some 133) (v := ?_) (a' := ?_) #[true, true, true, true, true, false, true, true, false, false, false, false, false, false] rfl rfl (by kernel_rfl) (fun _ _ _ h => h) (Or.inl ⟨by rfl, ?_⟩) ?_ ?_
              rotate_left
              · intro w'
                go_simp
                with_reducible rfl
              rotate_left
              · simp only [Act.put, List.setIfInBounds_toArray, List.set_cons_zero, List.set_cons_succ, i64_w, i32_w]
                rfl
              refine pure_ (i := 8) (N := some 134) (v := ?_) (a' := ?_) #[true, true, true, true, true, false, true, true, true, false, false, false, false, false] rfl rfl (by kernel_rfl) (fun _ _ _ h => h) (Or.inl ⟨by rfl, ?_⟩) ?_ ?_
              rotate_left
              · intro w'
                go_simp
                with_reducible rfl
              rotate_left
              · simp only [Act.put, List.setIfInBounds_toArray, List.set_cons_zero, List.set_cons_succ, i64_w, i32_w]
                rfl
              refine pure_ (i := 9) (N := some 135) (v := ?_) (a' := ?_) #[true, true, true, true, true, false, true, true, true, true, false, false, false, false] rfl rfl (by kernel_rfl) (fun _ _ _ h => h) (Or.inl ⟨by rfl, ?_⟩) ?_ ?_
              rotate_left
              · intro w'
                go_simp
                with_reducible rfl
              rotate_left
              · simp only [Act.put, List.setIfInBounds_toArray, List.set_cons_zero, List.set_cons_succ, i64_w, i32_w]
                rfl
              refine take_ (i := 5) (N := some 131) (v := ?_) (a' := ?_) #[true, true, true, true, true, true, true, true, true, true, false, false, false, false] rfl rfl (by kernel_rfl) (fun _ _ _ h => h) (Or.inl ⟨by rfl, ?_⟩) hHeld ?_ ?_
              rotate_left
              · rintro w' ⟨s0, s1⟩
                go_simp
                with_reducible rfl
              rotate_left
              · simp only [Act.put, List.setIfInBounds_toArray, List.set_cons_zero, List.set_cons_succ, i64_w, i32_w]
                rfl
              refine take_ (i := 10) (N := some 136) (v := ?_) (a' := ?_) #[true, true, true, true, true, true, true, true, true, true, true, false, false, false] rfl rfl (by kernel_rfl) (fun _ _ _ h => h) (Or.inl ⟨by rfl, ?_⟩) hHeld ?_ ?_
              rotate_left
              · rintro w' ⟨s0, s1⟩
                go_simp
                with_reducible rfl
              rotate_left
              · simp only [Act.put, List.setIfInBounds_toArray, List.set_cons_zero, List.set_cons_succ, i64_w, i32_w]
                rfl
              refine one_ (i := 11) (N := some 137) #[true, true, true, true, true, true, true, true, true, true, true, true, false, false] rfl rfl (by kernel_rfl) (by decide) (fun K hK => ?_)
              refine goes_ Try.func18 (by kernel_rfl) rfl #[.pointer (some ⟨g2, 0, none⟩), .int .u64 ti, .int .u64 ta] (by rfl) rfl rfl (by simp only [List.map_toArray, List.map_cons, List.map_nil]; rfl) ?_
              with_reducible refine (wheel_Add.all HOD.out.two.b ti ta hti hta).mono ?_
              rintro e w6 ⟨rfl, F2', hw6, hF6, hk6⟩
              have HO6 := Aside0.mk (HOD.out.second hw6 hF6 hk6)
              clear hw6 hF6 hk6 HOD
              rw [HZ0.out]
              refine ⟨_, rfl, ?_⟩
              refine hK.out _ _ ⟨(rt_cells HO6.out.row q HQL.out HTM.out).1, (rt_cells HO6.out.row q HQL.out HTM.out).2⟩ (fun hHeld => ?_)
              clear hK K
              refine norm_ (a' := ?_) ?_ ?_
              rotate_left
              · show Act.put _ (some 137) _ = _
                simp only [Act.put, List.setIfInBounds_toArray, List.set_cons_zero, List.set_cons_succ, i64_w, i32_w]
                rfl
              refine one_ (i := 12) (N := some 138) #[true, true, true, true, true, true, true, true, true, true, true, true, true, false] rfl rfl (by kernel_rfl) (by decide) (fun K hK => ?_)
              refine goes_ Try.func14 (by kernel_rfl) rfl #[.int .i64 0] (by rfl) rfl rfl (by simp only [List.map_toArray, List.map_cons, List.map_nil]; rfl) ?_
              with_reducible refine (law_num.calls _ _).mono ?_
              rintro e wx ⟨rfl, rfl⟩
              refine ⟨_, rfl, ?_⟩
              refine hK.out _ _ ⟨hHeld.1, hHeld.2⟩ (fun hHeld => ?_)
              clear hK K
              refine norm_ (a' := ?_) ?_ ?_
              rotate_left
              · show Act.put _ (some 138) _ = _
                simp only [Act.put, List.setIfInBounds_toArray, List.set_cons_zero, List.set_cons_succ, i64_w, i32_w]
                rfl
              refine pure_ (i := 13) (N := some 139) (v := ?_) (a' := ?_) #[true, true, true, true, true, true, true, true, true, true, true, true, true, true] rfl rfl (by kernel_rfl) (fun _ _ _ h => h) (Or.inl ⟨by rfl, ?_⟩) ?_ ?_
              rotate_left
              · intro w'
                go_simp
                with_reducible rfl
              rotate_left
              · simp only [Act.put, List.setIfInBounds_toArray, List.set_cons_zero, List.set_cons_succ, i64_w, i32_w]
                rfl
              refine done_ (by kernel_rfl) ?_
              have HNX : Aside0 (∃ F1 F2, OrdI w wx F1 F2 g m g2 m2 now K (K.drop q).reverse K (.slice (some ad) NK ck)) := ⟨⟨F1, F2', by
                have h := HO6.out
                unfold addL at h
                rw [if_pos HZ0.out] at h
                rw [drop_rev HQL.out, ← HTM.out]
                exact h⟩⟩
              clear HO6 HZ0 HTM HTF hti hta hHeld h0 h1
              go_wp2_with fail
              go_roundw
              case rel => exact ⟨q, (q : Int) - 1, by omega, by omega, by go_num, HNX⟩
              case measure => simp [intOf]
        · clear hj
          obtain ⟨F1, F2, hO⟩ := HI.out
          have hj0 : j = 0 := by omega
          have hcn := hO.two.canon2 (by rw [hj0, List.drop_zero]; exact List.reverse_perm K)
          obtain ⟨T, hT⟩ : ∃ T, T = byId K := ⟨_, rfl⟩
          rw [← hT] at hcn
          have HT := Aside0.mk hcn.1
          have HST := Aside0.mk hcn.2
          have bz : decide (z ≥ 0) = false := decide_eq_false (by omega)
          have heq : ∀ W, (Op.equalIn 10000 40 (.agg #[.int .i64 (cntOf T now 0 : Nat), .int .i64 (cntOf T now 1 : Nat), .int .i64 (cntOf T now 2 : Nat), .int .i64 (cntOf T now 3 : Nat), .int .i64 (cntOf T now 4 : Nat)]) (.agg #[.int .i64 (cntOf T now 0 : Nat), .int .i64 (cntOf T now 1 : Nat), .int .i64 (cntOf T now 2 : Nat), .int .i64 (cntOf T now 3 : Nat), .int .i64 (cntOf T now 4 : Nat)])).run Try.prog W = .ok true W := fun W => equal5 _ _ _ _ _ W
          clear hO hcn hT HI hj0 hz1
          have T1 : Two w wr F1 F2 g m now T g2 m2 now T → True := fun _ => trivial
          go_wp2_with (first
            | (go_at_call 33; (with_reducible refine (law_timers.calls HT.out.a HST.out).mono ?_); rintro e w12 ⟨v12, rfl, hr, hb⟩; obtain ⟨A12, c12, hv12⟩ := Kd.R_slice hr; obtain ⟨N12, hN12⟩ : ∃ N12, N12 = (flatT T).length := ⟨_, rfl⟩; rw [← hN12] at hv12; subst hv12; have HC12 : Aside0 (IC w12 A12 N12 (flatT T)) := ⟨by have h := (Kd.R_reads' hr).2.2; rw [← hN12] at h; exact h⟩; have HT12 := Aside0.mk (HT.out.below hb); clear hr hb hN12 HT)
            | (go_at_call 33; (with_reducible refine (law_timers.calls HT12.out.b HST.out).mono ?_); rintro e w13 ⟨v13, rfl, hr, hb⟩; obtain ⟨A13, c13, hv13⟩ := Kd.R_slice hr; obtain ⟨N13, hN13⟩ : ∃ N13, N13 = (flatT T).length := ⟨_, rfl⟩; rw [← hN13] at hv13; subst hv13; have HC23 : Aside0 (IC w13 A13 N13 (flatT T)) := ⟨by have h := (Kd.R_reads' hr).2.2; rw [← hN13] at h; exact h⟩; have HC22 : Aside0 (IC w13 A12 N12 (flatT T)) := ⟨Kd.C_below HC12.out hb⟩; have HT13 := Aside0.mk (HT12.out.below hb); clear hr hb hN13 HT12 HC12)
            | (go_at_call 25; (with_reducible refine (law_ids.calls A12 A13 N12 N13 c12 c13 (flatT T) (flatT T) _ HC22.out HC23.out).mono ?_); rintro e w14 ⟨rfl, hd⟩; have HT14 := Aside0.mk (HT13.out.below (drawn_belowW hd)); rw [decide_eq_true (rfl : flatT T = flatT T)]; clear hd HC22 HC23 HT13)
            | (go_at_call 21; (with_reducible refine (wheel_Spread.all HT14.out.a).mono ?_); rintro e w15 ⟨rfl, hb⟩; have HT15 := Aside0.mk (HT14.out.below hb); clear hb HT14)
            | (go_at_call 21; (with_reducible refine (wheel_Spread.all HT15.out.b).mono ?_); rintro e w16 ⟨rfl, hb⟩; have HT16 := Aside0.mk (HT15.out.below hb); clear hb HT15)
            | (go_at_call 23; fail))
          clear heq T1
          by_cases hto : to_ < now
          · refine (wheel_Advance.back HT16.out.a to_ hto).mono ?_
            rintro e w17 ⟨rfl, rfl⟩
            go_wp2_with (go_at_call 23; fail)
            refine (wheel_Advance.back HT16.out.b to_ hto).mono ?_
            rintro e w18 ⟨rfl, rfl⟩
            have HCN : Aside0 (IC w18 none 0 []) := ⟨(Kd.R_reads' (Kd.R_nil (d := Kd.int .u64) 22 w18 0 (fun _ => True))).2.2⟩
            go_wp2_with (first
              | (go_at_call 25; (with_reducible refine (law_ids.calls none none 0 0 0 0 [] [] _ HCN.out HCN.out).mono ?_); rintro e w19 ⟨rfl, hd⟩; have HT19 := Aside0.mk (HT16.out.below (drawn_belowW hd)); rw [decide_eq_true (rfl : ([] : List Int) = [])]; clear hd HCN HT16)
              | (go_at_call 33; (with_reducible refine (law_timers.calls HT19.out.a HST.out).mono ?_); rintro e w12 ⟨v12, rfl, hr, hb⟩; obtain ⟨A12, c12, hv12⟩ := Kd.R_slice hr; obtain ⟨N12, hN12⟩ : ∃ N12, N12 = (flatT T).length := ⟨_, rfl⟩; rw [← hN12] at hv12; subst hv12; have HC12 : Aside0 (IC w12 A12 N12 (flatT T)) := ⟨by have h := (Kd.R_reads' hr).2.2; rw [← hN12] at h; exact h⟩; have HT12 := Aside0.mk (HT19.out.below hb); clear hr hb hN12 HT19)
              | (go_at_call 33; (with_reducible refine (law_timers.calls HT12.out.b HST.out).mono ?_); rintro e w13 ⟨v13, rfl, hr, hb⟩; obtain ⟨A13, c13, hv13⟩ := Kd.R_slice hr; obtain ⟨N13, hN13⟩ : ∃ N13, N13 = (flatT T).length := ⟨_, rfl⟩; rw [← hN13] at hv13; subst hv13; have HC23 : Aside0 (IC w13 A13 N13 (flatT T)) := ⟨by have h := (Kd.R_reads' hr).2.2; rw [← hN13] at h; exact h⟩; have HC22 : Aside0 (IC w13 A12 N12 (flatT T)) := ⟨Kd.C_below HC12.out hb⟩; have HT13 := Aside0.mk (HT12.out.below hb); clear hr hb hN13 HT12 HC12)
              | (go_at_call 25; (with_reducible refine (law_ids.calls A12 A13 N12 N13 c12 c13 (flatT T) (flatT T) _ HC22.out HC23.out).mono ?_); rintro e w14 ⟨rfl, hd⟩; have HT14 := Aside0.mk (HT13.out.below (drawn_belowW hd)); rw [decide_eq_true (rfl : flatT T = flatT T)]; clear hd HC22 HC23 HT13))
            go_ret
            exact ⟨rfl, HT14.out.bel⟩
          · refine (wheel_Advance.all HT16.out.a to_ HZ.out (by omega)).mono ?_
            rintro e w17 ⟨v1, F1', rfl, hw6, hF6, hk6, hr6⟩
            obtain ⟨hT6, hk6', hF6'⟩ := HT16.out.first hw6 hF6 hk6
            have HT17 := Aside0.mk hT6
            have hr6' : UR w17 0 (fun k => ¬ (F1' k ∨ F2 k)) v1 ((sorted (T.filter (isOver to_))).map (·.1)) := Kd.R_mono hr6 (fun k hk h => by
              rcases h with h | h
              · exact hk.2 h
              · rcases hk.1 with h2 | h2
                · exact HT16.out.dis k h2 h
                · have := HT16.out.b.lt k h; omega)
            have HR17 := Aside0.mk hr6'
            clear hw6 hF6 hk6 hr6 hr6' hT6 hk6' hF6' HT16
            go_wp2_with (go_at_call 23; fail)
            refine (wheel_Advance.all HT17.out.b to_ HZ.out (by omega)).mono ?_
            rintro e w18 ⟨v2, F2', rfl, hw8, hF8, hk8, hr8⟩
            obtain ⟨hT8, hk8', hF8'⟩ := HT17.out.swap.first hw8 hF8 hk8
            have HT18 := Aside0.mk hT8
            have HQ18 := Aside0.mk (KR.kept (F := fun k => F2 k ∨ F1' k) (Kd.R_mono HR17.out (fun k hk h => hk h.symm)) hk8' hF8')
            have HR18 := Aside0.mk hr8
            clear hw8 hF8 hk8 hr8 hT8 hk8' hF8' HT17 HR17
            obtain ⟨A1, c1, hv1⟩ := Kd.R_slice HQ18.out
            obtain ⟨A2, c2, hv2⟩ := Kd.R_slice HR18.out
            obtain ⟨X1, hX1⟩ : ∃ X1, X1 = (sorted (T.filter (isOver to_))).map (·.1) := ⟨_, rfl⟩
            rw [← hX1] at hv1 hv2 HQ18 HR18
            obtain ⟨M1, hM1⟩ : ∃ M1, M1 = X1.length := ⟨_, rfl⟩
            rw [← hM1] at hv1 hv2
            subst hv1 hv2
            have HC1 : Aside0 (IC w18 A1 M1 X1) := ⟨by have h := (Kd.R_reads' HQ18.out).2.2; rw [← hM1] at h; exact h⟩
            have HC2 : Aside0 (IC w18 A2 M1 X1) := ⟨by have h := (Kd.R_reads' HR18.out).2.2; rw [← hM1] at h; exact h⟩
            have HSV : Aside0 (Srt (T.filter (isStay to_))) := ⟨HST.out.filter _⟩
            obtain ⟨V, hV⟩ : ∃ V, V = T.filter (isStay to_) := ⟨_, rfl⟩
            rw [← hV] at HT18 HSV
            clear hX1 hM1 HQ18 HR18 hV HST
            go_wp2_with (first
              | (go_at_call 25; (with_reducible refine (law_ids.calls A1 A2 M1 M1 c1 c2 X1 X1 _ HC1.out HC2.out).mono ?_); rintro e w19 ⟨rfl, hd⟩; have HT19 := Aside0.mk (HT18.out.below (drawn_belowW hd)); rw [decide_eq_true (rfl : X1 = X1)]; clear hd HC1 HC2 HT18)
              | (go_at_call 33; (with_reducible refine (law_timers.calls HT19.out.b HSV.out).mono ?_); rintro e w12 ⟨v12, rfl, hr, hb⟩; obtain ⟨A12, c12, hv12⟩ := Kd.R_slice hr; obtain ⟨N12, hN12⟩ : ∃ N12, N12 = (flatT V).length := ⟨_, rfl⟩; rw [← hN12] at hv12; subst hv12; have HC12 : Aside0 (IC w12 A12 N12 (flatT V)) := ⟨by have h := (Kd.R_reads' hr).2.2; rw [← hN12] at h; exact h⟩; have HT12 := Aside0.mk (HT19.out.below hb); clear hr hb hN12 HT19)
              | (go_at_call 33; (with_reducible refine (law_timers.calls HT12.out.a HSV.out).mono ?_); rintro e w13 ⟨v13, rfl, hr, hb⟩; obtain ⟨A13, c13, hv13⟩ := Kd.R_slice hr; obtain ⟨N13, hN13⟩ : ∃ N13, N13 = (flatT V).length := ⟨_, rfl⟩; rw [← hN13] at hv13; subst hv13; have HC23 : Aside0 (IC w13 A13 N13 (flatT V)) := ⟨by have h := (Kd.R_reads' hr).2.2; rw [← hN13] at h; exact h⟩; have HC22 : Aside0 (IC w13 A12 N12 (flatT V)) := ⟨Kd.C_below HC12.out hb⟩; have HT13 := Aside0.mk (HT12.out.below hb); clear hr hb hN13 HT12 HC12)
              | (go_at_call 25; (with_reducible refine (law_ids.calls A12 A13 N12 N13 c12 c13 (flatT V) (flatT V) _ HC22.out HC23.out).mono ?_); rintro e w14 ⟨rfl, hd⟩; have HT14 := Aside0.mk (HT13.out.below (drawn_belowW hd)); rw [decide_eq_true (rfl : flatT V = flatT V)]; clear hd HC22 HC23 HT13))
            go_ret
            exact ⟨rfl, HT14.out.bel⟩
end Go.Proofs.Ytkgdlmgodpgcoaa.Hand
