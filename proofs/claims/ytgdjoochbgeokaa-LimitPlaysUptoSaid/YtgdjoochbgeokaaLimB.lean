/- Limit: forward: the clock goes on, what is over is let go. -/
import Derived.Test.YtgdjoochbgeokaaLimA
namespace Go.Proofs.Ytgdjoochbgeokaa.Hand
open Go.RowKit Go.Maps Go.Proofs.YtgdjoochbgeokaaW.PrintWords Go.Proofs.YtgdjoochbgeokaaW.PrintLast Go.Proofs.YtgdjoochbgeokaaW.PrintMore
set_option linter.unusedVariables false
set_option linter.unusedSimpArgs false
open Classical in
/-- Is a window, as it reads, open at t? -/
noncomputable def aliveD (t sp : Int) (d : DW) : Bool := if h : ∃ p : Int × Int, d = wv p.1 p.2 then aliveB t (Classical.choose h).1 sp else false
theorem wv_inj {a b c d : Int} (h : wv a b = wv c d) : a = c ∧ b = d := by
  unfold wv at h
  simp only [DataW.agg.injEq, List.cons.injEq, DataW.lit.injEq, Lit.int.injEq, true_and, and_true] at h
  exact h
theorem aliveD_wv (t sp b u : Int) : aliveD t sp (wv b u) = aliveB t b sp := by
  have hx : ∃ p : Int × Int, wv b u = wv p.1 p.2 := ⟨(b, u), rfl⟩
  unfold aliveD
  rw [dif_pos hx, ← (wv_inj (Classical.choose_spec hx)).1]
/-- What is left at t. -/
def Purged (D D' : DW) (t sp : Int) : Prop := (∀ k, view D' k = (view D k).filter (aliveD t sp)) ∧ Maps.size D' ≤ Maps.size D
/-- The loop, under way. -/
structure Under (D Dc : DW) (left : Lit → Bool) (t sp : Int) : Prop where
  todo : ∀ k, left k = true → view Dc k = view D k
  done : ∀ k, left k = false → view Dc k = (view D k).filter (aliveD t sp)
  size : Maps.size Dc ≤ Maps.size D
theorem Under.start (D : DW) (t sp : Int) : Under D D (Maps.has D) t sp := ⟨fun _ _ => rfl, fun k h => by rw [view_none h]; rfl, Nat.le_refl _⟩
theorem Under.fin {D Dc : DW} {left : Lit → Bool} {t sp : Int} (h : Under D Dc left t sp) (hl : ∀ k, left k = false) : Purged D Dc t sp := ⟨fun k => h.done k (hl k), h.size⟩
theorem Under.stay {D Dc : DW} {left : Lit → Bool} {t sp : Int} {kl : Lit} {y : DW} (h : Under D Dc left t sp) (hl : left kl = true) (hv : view Dc kl = some y) (ha : aliveD t sp y = true) : Under D Dc (fun z => left z && !z.sameKey kl) t sp := by
  refine ⟨fun k hk => h.todo k (by cases hh : left k <;> simp [hh] at hk ⊢), fun k hk => ?_, h.size⟩
  cases hh : left k with
  | false => exact h.done k hh
  | true =>
    have hs : k.sameKey kl = true := by simpa [hh] using hk
    have := WideAt.sameKey_eq hs
    subst this
    rw [← h.todo k hh, hv]
    simp [Option.filter, ha]
theorem Under.gone {D Dc : DW} {left : Lit → Bool} {t sp : Int} {kl : Lit} {y : DW} (h : Under D Dc left t sp) (hT : Tidy Dc) (hk2 : WideAt.IsKeyLit kl) (hl : left kl = true) (hv : view Dc kl = some y) (ha : aliveD t sp y = false) : Under D (Dc.del kl) (fun z => left z && !z.sameKey kl) t sp := by
  refine ⟨fun k hk => ?_, fun k hk => ?_, Nat.le_trans (by have := size_del (k := kl) hT; omega) h.size⟩
  · have h1 : left k = true := by cases hh : left k <;> simp [hh] at hk ⊢
    by_cases e : k = kl
    · subst e
      rw [h1, WideAt.sameKey_self hk2] at hk
      cases hk
    · rw [view_del_other e]; exact h.todo k h1
  · by_cases e : k = kl
    · subst e
      rw [view_del_same, ← h.todo k hl, hv]
      simp [Option.filter, ha]
    · rw [view_del_other e]
      cases hh : left k with
      | false => exact h.done k hh
      | true =>
        have hs : k.sameKey kl = true := by simpa [hh] using hk
        exact absurd (WideAt.sameKey_eq hs) e

theorem LimAt.not_iter {w : World} {g m b r n cnt : Nat} {tr mo sp ck : Int} {D : DW} {left : Lit → Bool} (hL : LimAt w g m tr mo sp ck) (h : w.ranges Try.prog 9 winElem b r n D left cnt) : ¬ g = r := by
  obtain ⟨es, clock, since, seen, c0, _, _, _, _, hr, _⟩ := h
  intro e
  rw [← e, hL] at hr
  cases hr
theorem ranges_below {w w' : World} {b r n cnt : Nat} {D : DW} {left : Lit → Bool} (h : w.ranges Try.prog 9 winElem b r n D left cnt) (hb : Below w.heap.size w w') : w'.ranges Try.prog 9 winElem b r n D left cnt := by
  obtain ⟨es, clock, since, seen, c0, h1, h2, h3, h4, h5, h6⟩ := h
  exact ⟨es, clock, since, seen, c0, blk_below h1 hb, h2, h3, h4, blk_below h5 hb, h6⟩
set_option maxHeartbeats 1000000 in
set_option maxRecDepth 100000 in
theorem limit_forward.calls (g m n : Nat) (tr mo sp ck now : Int) (D : DW) (w : World) (hL : LimAt w g m tr mo sp ck) (hO : Owns w m n D) :
    Calls Try.prog 20 #[.pointer (some ⟨g, 0, none⟩), .int .u64 now] w fun e w' => (∃ v, e = .returned v) ∧ KeptL (fun b => b = g ∨ b = m) w w' ∧ ∃ D', LimAt w' g m tr mo sp (max now ck) ∧ Owns w' m n D' ∧ Purged D D' (max now ck) sp := by
  have HL := Aside0.mk hL
  have HO := Aside0.mk hO
  have hne := hO.not_lim hL
  have hfz := blk_frozen hL 3
  have c3 := (blk_cell hL 3).trans rfl
  clear hL hO
  go_enter Try.func20, Try.ntmps20
  go_wp2_with fail
  refine (limit_at.calls g m tr mo sp ck now _ HL.out).mono ?_
  rintro x w1 ⟨rfl, rfl⟩
  have HL1 := Aside0.mk (HL.out.clock (max now ck))
  have c4 := (blk_cell HL1.out 4).trans rfl
  have HO1 : Aside0 (Owns (w1.setCell ⟨g, 3, none⟩ (.int .u64 (max now ck))) m n D) := ⟨HO.out.setCell (a := ⟨g, 3, none⟩) hne _⟩
  have HK1 : Aside0 (KeptL (fun b => b = g ∨ b = m) w1 (w1.setCell ⟨g, 3, none⟩ (.int .u64 (max now ck)))) := ⟨(KeptL.refl _ _).setCell _ _ (.inl (.inl rfl))⟩
  go_wp2_with (first
    | (at_range; refine wpList_range_own _ rfl _ 56 rfl 9 54 lawS Try.underlying56 winElem m n D rfl HO1.out ?_; intro w2 hrg0 hg0 hs0; have HR0 := Aside0.mk hrg0; have HL2 := Aside0.mk (HL1.out.grown hg0 (by simp)); have HK2 := Aside0.mk (HK1.out.grown hg0 (fun k e => by cases e)); clear hrg0 hg0 hs0)
    | go_in)
  go_frame
  clear HL1 HO1 HK1 c4 c3 hfz
  have hsz : Aside0 (w1.heap.size ≤ (w1.setCell ⟨g, 3, none⟩ (.int .u64 (max now ck))).heap.size) := ⟨by simp [World.setCell]⟩
  obtain ⟨r, hr⟩ : ∃ r, r = (w1.setCell ⟨g, 3, none⟩ (.int .u64 (max now ck))).heap.size := ⟨_, rfl⟩
  rw [← hr] at HR0 hsz ⊢
  clear hr
  go_loopw [4] (fun _ wr => ∃ (Dc : DW) (left : Lit → Bool) (cnt : Nat), Aside0 (wr.ranges Try.prog 9 winElem m r n Dc left cnt) ∧ Aside0 (Under D Dc left (max now ck) sp) ∧ Aside0 (LimAt wr g m tr mo sp (max now ck)) ∧ Aside0 (KeptL (fun b => b = g ∨ b = m) w1 wr)) (fun _ wr => wr.rangeLeft m r)
  case atStart => exact ⟨D, _, _, HR0, ⟨Under.start D (max now ck) sp⟩, HL2, HK2⟩
  case round =>
    clear HR0 HL2 HK2
    obtain ⟨Dc, left, cnt, HR, HU, HLr, HKr⟩ := hrel
    rcases HR.out.next lawS 0 with ⟨h0, hl0, hrun⟩ | ⟨key, v, kl, y, w3, cnt3, hkey, hlk, hv, hat, hrun, hrg1, hlt, hg1, hs1, hen⟩
    · have HE : Aside0 (∃ D', LimAt wr g m tr mo sp (max now ck) ∧ Owns wr m n D' ∧ Purged D D' (max now ck) sp) := ⟨Dc, HLr.out, HR.out.owns, HU.out.fin hl0⟩
      go_wp2_with fail
      go_end0
      exact ⟨⟨_, rfl⟩, HKr.out, HE.out⟩
    · obtain ⟨s, rfl, rfl, hsz2⟩ := Go.WideMaps.string_of_keyOf Try.underlying9 hkey
      obtain ⟨p, rfl, rfl, hp1, hp2⟩ := winElem_inv hv
      obtain ⟨pb, pu⟩ := p
      simp only at hat hrun hen hp1 hp2
      have HR3 := Aside0.mk hrg1
      have HLT := Aside0.mk hlt
      have HV := Aside0.mk (view_some hat)
      have HLK := Aside0.mk hlk
      have HKY := Aside0.mk hkey
      have HL3 := Aside0.mk (HLr.out.grown hg1 (fun e => HLr.out.not_iter HR.out (Option.some.inj e)))
      have HK3 := Aside0.mk (HKr.out.grown hg1 (fun k e => by cases e; exact .inr hsz.out))
      clear hrg1 hlt hat hlk hkey hg1 hs1
      have HL4 : Aside0 (LimAt (w3.alloc (.cells #[.int .u64 pb, .int .i64 pu] 54)) g m tr mo sp (max now ck)) := ⟨blk_alloc HL3.out _⟩
      have HR4 := Aside0.mk (HR3.out.alloc (.cells #[.int .u64 pb, .int .i64 pu] 54))
      have HK4 := Aside0.mk (HK3.out.alloc (.cells #[.int .u64 pb, .int .i64 pu] 54))
      have d0 := (blk_cell (blk_new w3 (.cells #[.int .u64 pb, .int .i64 pu] 54 (0, 0))) 0).trans rfl
      have d1 := (blk_cell (blk_new w3 (.cells #[.int .u64 pb, .int .i64 pu] 54 (0, 0))) 1).trans rfl
      have c3 := (blk_cell HL4.out 3).trans rfl
      go_wp2_with fail
      obtain ⟨B, hB⟩ : ∃ B, B = w3.heap.size := ⟨_, rfl⟩
      obtain ⟨w4, hw4⟩ : ∃ w4, w4 = w3.alloc (.cells #[.int .u64 pb, .int .i64 pu] 54) := ⟨_, rfl⟩
      rw [← hB] at d0 d1 ⊢
      rw [← hw4] at d0 d1 c3 HL4 HR4 HK4 ⊢
      clear hB hw4 HL3 HR3 HK3
      have HLd : Aside0 (LimAt w4.drew g m tr mo sp (max now ck)) := ⟨HL4.out⟩
      cases ha : aliveB (max now ck) pb sp with
      | true =>
        refine start_ (n := 8) (S := fun w' => w'.cell? ⟨B, 0, none⟩ = some (.int .u64 pb) ∧ w'.cell? ⟨B, 1, none⟩ = some (.int .i64 pu) ∧ w'.cell? ⟨g, 3, none⟩ = some (.int .u64 (max now ck))) (ds := []) #[false, false, false, false, false, false, false, false] (by kernel_rfl) rfl rfl ⟨d0, d1, c3⟩ (fun hHeld => ?_)
        refine pure_ (i := 0) (N := some 22) (v := ?_) (a' := ?_) #[true, false, false, false, false, false, false, false] rfl rfl (by kernel_rfl) (fun _ _ _ h => h) (Or.inl ⟨by rfl, ?_⟩) ?_ ?_
        rotate_left
        · intro w'
          go_simp
          with_reducible rfl
        rotate_left
        · simp only [Act.put, List.setIfInBounds_toArray, List.set_cons_zero, List.set_cons_succ, i64_w, i32_w]
          rfl
        refine pure_ (i := 2) (N := some 24) (v := ?_) (a' := ?_) #[true, false, true, false, false, false, false, false] rfl rfl (by kernel_rfl) (fun _ _ _ h => h) (Or.inl ⟨by rfl, ?_⟩) ?_ ?_
        rotate_left
        · intro w'
          go_simp
          with_reducible rfl
        rotate_left
        · simp only [Act.put, List.setIfInBounds_toArray, List.set_cons_zero, List.set_cons_succ, i64_w, i32_w]
          rfl
        refine pure_ (i := 3) (N := some 25) (v := ?_) (a' := ?_) #[true, false, true, true, false, false, false, false] rfl rfl (by kernel_rfl) (fun _ _ _ h => h) (Or.inl ⟨by rfl, ?_⟩) ?_ ?_
        rotate_left
        · intro w'
          go_simp
          with_reducible rfl
        rotate_left
        · simp only [Act.put, List.setIfInBounds_toArray, List.set_cons_zero, List.set_cons_succ, i64_w, i32_w]
          rfl
        refine pure_ (i := 4) (N := some 26) (v := ?_) (a' := ?_) #[true, false, true, true, true, false, false, false] rfl rfl (by kernel_rfl) (fun _ _ _ h => h) (Or.inl ⟨by rfl, ?_⟩) ?_ ?_
        rotate_left
        · intro w'
          go_simp
          with_reducible rfl
        rotate_left
        · simp only [Act.put, List.setIfInBounds_toArray, List.set_cons_zero, List.set_cons_succ, i64_w, i32_w]
          rfl
        refine take_ (i := 1) (N := some 23) (v := ?_) (a' := ?_) #[true, true, true, true, true, false, false, false] rfl rfl (by kernel_rfl) (fun _ _ _ h => h) (Or.inl ⟨by rfl, ?_⟩) hHeld ?_ ?_
        rotate_left
        · rintro w' ⟨s0, s1, s2⟩
          go_simp
          with_reducible rfl
        rotate_left
        · simp only [Act.put, List.setIfInBounds_toArray, List.set_cons_zero, List.set_cons_succ, i64_w, i32_w]
          rfl
        refine take_ (i := 5) (N := some 27) (v := ?_) (a' := ?_) #[true, true, true, true, true, true, false, false] rfl rfl (by kernel_rfl) (fun _ _ _ h => h) (Or.inl ⟨by rfl, ?_⟩) hHeld ?_ ?_
        rotate_left
        · rintro w' ⟨s0, s1, s2⟩
          go_simp
          with_reducible rfl
        rotate_left
        · simp only [Act.put, List.setIfInBounds_toArray, List.set_cons_zero, List.set_cons_succ, i64_w, i32_w]
          rfl
        refine one_ (i := 6) (N := some 28) #[true, true, true, true, true, true, true, false] rfl rfl (by kernel_rfl) (by decide) (fun K hK => ?_)
        refine goes_ Try.func30 (by kernel_rfl) rfl #[.pointer (some ⟨g, 0, none⟩), .agg #[.int .u64 pb, .int .i64 pu], .int .u64 (max now ck)] (by rfl) rfl rfl (by simp only [List.map_toArray, List.map_cons, List.map_nil]; rfl) ?_
        with_reducible refine (limit_is.calls g m tr mo sp (max now ck) pb pu (max now ck) w4.drew HLd.out).mono ?_
        rintro e w5 ⟨rfl, hb5⟩
        rw [ha]
        have hb6 := below_step (below_drew1 (Below.refl w4.heap.size w4)) hb5
        have HL5 := Aside0.mk (HL4.out.below hb6)
        have HR5 := Aside0.mk (ranges_below HR4.out hb6)
        have HK5 := Aside0.mk (HK4.out.step hb6)
        refine ⟨_, rfl, ?_⟩
        refine hK.out _ _ ⟨pw_cell_below hb5 hHeld.1, pw_cell_below hb5 hHeld.2.1, pw_cell_below hb5 hHeld.2.2⟩ (fun hHeld => ?_)
        clear hK K
        refine norm_ (a' := ?_) ?_ ?_
        rotate_left
        · show Act.put _ (some 28) _ = _
          simp only [Act.put, List.setIfInBounds_toArray, List.set_cons_zero, List.set_cons_succ, i64_w, i32_w]
          rfl
        refine pure_ (i := 7) (N := some 29) (v := ?_) (a' := ?_) #[true, true, true, true, true, true, true, true] rfl rfl (by kernel_rfl) (fun _ _ _ h => h) (Or.inl ⟨by rfl, ?_⟩) ?_ ?_
        rotate_left
        · intro w'
          go_simp
          with_reducible rfl
        rotate_left
        · simp only [Act.put, List.setIfInBounds_toArray, List.set_cons_zero, List.set_cons_succ, i64_w, i32_w]
          rfl
        refine done_ (by kernel_rfl) ?_
        go_wp2_with fail
        go_roundw
        case rel => exact ⟨Dc, _, cnt3, HR5, ⟨HU.out.stay HLK.out HV.out (by rw [aliveD_wv]; exact ha)⟩, HL5, HK5⟩
        case measure => rw [HR5.out.left_eq, HR.out.left_eq]; exact HLT.out
      | false =>
        refine start_ (n := 8) (S := fun w' => w'.cell? ⟨B, 0, none⟩ = some (.int .u64 pb) ∧ w'.cell? ⟨B, 1, none⟩ = some (.int .i64 pu) ∧ w'.cell? ⟨g, 3, none⟩ = some (.int .u64 (max now ck))) (ds := []) #[false, false, false, false, false, false, false, false] (by kernel_rfl) rfl rfl ⟨d0, d1, c3⟩ (fun hHeld => ?_)
        refine pure_ (i := 0) (N := some 22) (v := ?_) (a' := ?_) #[true, false, false, false, false, false, false, false] rfl rfl (by kernel_rfl) (fun _ _ _ h => h) (Or.inl ⟨by rfl, ?_⟩) ?_ ?_
        rotate_left
        · intro w'
          go_simp
          with_reducible rfl
        rotate_left
        · simp only [Act.put, List.setIfInBounds_toArray, List.set_cons_zero, List.set_cons_succ, i64_w, i32_w]
          rfl
        refine pure_ (i := 2) (N := some 24) (v := ?_) (a' := ?_) #[true, false, true, false, false, false, false, false] rfl rfl (by kernel_rfl) (fun _ _ _ h => h) (Or.inl ⟨by rfl, ?_⟩) ?_ ?_
        rotate_left
        · intro w'
          go_simp
          with_reducible rfl
        rotate_left
        · simp only [Act.put, List.setIfInBounds_toArray, List.set_cons_zero, List.set_cons_succ, i64_w, i32_w]
          rfl
        refine pure_ (i := 3) (N := some 25) (v := ?_) (a' := ?_) #[true, false, true, true, false, false, false, false] rfl rfl (by kernel_rfl) (fun _ _ _ h => h) (Or.inl ⟨by rfl, ?_⟩) ?_ ?_
        rotate_left
        · intro w'
          go_simp
          with_reducible rfl
        rotate_left
        · simp only [Act.put, List.setIfInBounds_toArray, List.set_cons_zero, List.set_cons_succ, i64_w, i32_w]
          rfl
        refine pure_ (i := 4) (N := some 26) (v := ?_) (a' := ?_) #[true, false, true, true, true, false, false, false] rfl rfl (by kernel_rfl) (fun _ _ _ h => h) (Or.inl ⟨by rfl, ?_⟩) ?_ ?_
        rotate_left
        · intro w'
          go_simp
          with_reducible rfl
        rotate_left
        · simp only [Act.put, List.setIfInBounds_toArray, List.set_cons_zero, List.set_cons_succ, i64_w, i32_w]
          rfl
        refine take_ (i := 1) (N := some 23) (v := ?_) (a' := ?_) #[true, true, true, true, true, false, false, false] rfl rfl (by kernel_rfl) (fun _ _ _ h => h) (Or.inl ⟨by rfl, ?_⟩) hHeld ?_ ?_
        rotate_left
        · rintro w' ⟨s0, s1, s2⟩
          go_simp
          with_reducible rfl
        rotate_left
        · simp only [Act.put, List.setIfInBounds_toArray, List.set_cons_zero, List.set_cons_succ, i64_w, i32_w]
          rfl
        refine take_ (i := 5) (N := some 27) (v := ?_) (a' := ?_) #[true, true, true, true, true, true, false, false] rfl rfl (by kernel_rfl) (fun _ _ _ h => h) (Or.inl ⟨by rfl, ?_⟩) hHeld ?_ ?_
        rotate_left
        · rintro w' ⟨s0, s1, s2⟩
          go_simp
          with_reducible rfl
        rotate_left
        · simp only [Act.put, List.setIfInBounds_toArray, List.set_cons_zero, List.set_cons_succ, i64_w, i32_w]
          rfl
        refine one_ (i := 6) (N := some 28) #[true, true, true, true, true, true, true, false] rfl rfl (by kernel_rfl) (by decide) (fun K hK => ?_)
        refine goes_ Try.func30 (by kernel_rfl) rfl #[.pointer (some ⟨g, 0, none⟩), .agg #[.int .u64 pb, .int .i64 pu], .int .u64 (max now ck)] (by rfl) rfl rfl (by simp only [List.map_toArray, List.map_cons, List.map_nil]; rfl) ?_
        with_reducible refine (limit_is.calls g m tr mo sp (max now ck) pb pu (max now ck) w4.drew HLd.out).mono ?_
        rintro e w5 ⟨rfl, hb5⟩
        rw [ha]
        have hb6 := below_step (below_drew1 (Below.refl w4.heap.size w4)) hb5
        have HL5 := Aside0.mk (HL4.out.below hb6)
        have HR5 := Aside0.mk (ranges_below HR4.out hb6)
        have HK5 := Aside0.mk (HK4.out.step hb6)
        refine ⟨_, rfl, ?_⟩
        refine hK.out _ _ ⟨pw_cell_below hb5 hHeld.1, pw_cell_below hb5 hHeld.2.1, pw_cell_below hb5 hHeld.2.2⟩ (fun hHeld => ?_)
        clear hK K
        refine norm_ (a' := ?_) ?_ ?_
        rotate_left
        · show Act.put _ (some 28) _ = _
          simp only [Act.put, List.setIfInBounds_toArray, List.set_cons_zero, List.set_cons_succ, i64_w, i32_w]
          rfl
        refine pure_ (i := 7) (N := some 29) (v := ?_) (a' := ?_) #[true, true, true, true, true, true, true, true] rfl rfl (by kernel_rfl) (fun _ _ _ h => h) (Or.inl ⟨by rfl, ?_⟩) ?_ ?_
        rotate_left
        · intro w'
          go_simp
          with_reducible rfl
        rotate_left
        · simp only [Act.put, List.setIfInBounds_toArray, List.set_cons_zero, List.set_cons_succ, i64_w, i32_w]
          rfl
        refine done_ (by kernel_rfl) ?_
        have c4 := (blk_cell HL5.out 4).trans rfl
        go_wp2_with (first
          | (at_delete; refine wpList_delete_ranges _ rfl _ _ 56 9 rfl 54 lawS Try.underlying56 winElem m r n Dc _ cnt3 rfl HR5.out _ _ rfl HKY.out ?_; intro w6 cnt6 hrg6 hle hturn; have HR6 := Aside0.mk hrg6; have HL6 := Aside0.mk (HL5.out.grown hturn.grown (fun e => hne (Option.some.inj e).symm)); have HK6 := Aside0.mk (HK5.out.grown hturn.grown (fun k e => by cases e; exact .inl (.inr rfl))); have HLE := Aside0.mk hle; clear hrg6 hturn hle)
          | go_in)
        go_frame
        rw [strike_twice] at HR6
        go_roundw
        case rel => exact ⟨_, _, cnt6, HR6, ⟨HU.out.gone (HR.out.owns.tidy lawS) trivial HLK.out HV.out (by rw [aliveD_wv]; exact ha)⟩, HL6, HK6⟩
        case measure => rw [HR6.out.left_eq, HR.out.left_eq]; have := HLT.out; have := HLE.out; omega
end Go.Proofs.Ytgdjoochbgeokaa.Hand
