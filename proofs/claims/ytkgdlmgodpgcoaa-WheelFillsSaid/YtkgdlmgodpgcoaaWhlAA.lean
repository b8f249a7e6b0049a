/- Wheel: the function that Each hands out; the law's timers. -/
import Derived.Test.YtkgdlmgodpgcoaaWhlX
import Derived.Test.YtkgdlmgodpgcoaaWhlQ
import Derived.RangeFuncBox
namespace Go.Proofs.Ytkgdlmgodpgcoaa.Hand
open Go.RowKit Go.Maps Go.Proofs.YtkgdlmgodpgcoaaW.PrintWords Go.Proofs.YtkgdlmgodpgcoaaW.PrintLast Go.Proofs.YtkgdlmgodpgcoaaW.PrintMore
open Go.Shelf Go.Sort
set_option linter.unusedVariables false
set_option linter.unusedSimpArgs false
attribute [local go_sem] Oper.semAt_some

/-- The blocks from n₀ to n₁ lie as they lay. -/
def KpR (n₀ n₁ : Nat) (W W' : World) : Prop := W.heap.size ≤ W'.heap.size ∧ ∀ k, n₀ ≤ k → k < n₁ → W'.heap[k]? = W.heap[k]?
theorem KpR.refl (n₀ n₁ : Nat) (W : World) : KpR n₀ n₁ W W := ⟨Nat.le_refl _, fun _ _ _ => rfl⟩
theorem kpR_t {n₀ n₁ : Nat} {A B C : World} (h : KpR n₀ n₁ A B) (k : KpR n₀ n₁ B C) : KpR n₀ n₁ A C := ⟨Nat.le_trans h.1 k.1, fun j h1 h2 => (k.2 j h1 h2).trans (h.2 j h1 h2)⟩
theorem kpR_b {n₀ n₁ : Nat} {w : World} (hn : n₁ ≤ w.heap.size) (W : World) (l : Nat) (o o' : Obj) (hl : w.heap.size ≤ l) (h : W.heap[l]? = some o) (_ : o.isCells = false) (_ : o.isWalk = false) : KpR n₀ n₁ W (W.putObj l o') :=
  ⟨(grownBy_putObj' W l o').size, fun k h1 h2 => (grownBy_putObj' W l o').block k (by have := (Array.getElem?_eq_some_iff.1 h).1; omega) (fun e => by injection e with e; omega)⟩
theorem KpR.cell {n₀ n₁ : Nat} {A B : World} (h : KpR n₀ n₁ A B) {b o : Nat} (h1 : n₀ ≤ b) (h2 : b < n₁) : B.cell? ⟨b, o, none⟩ = A.cell? ⟨b, o, none⟩ := World.cell?_of_block (h.2 b h1 h2)
abbrev ER (w : World) (base n₀ n₁ : Nat) (v : Value) (l : List TimT) : Prop := KT w base (fun k => n₀ ≤ k ∧ k < n₁) v l
theorem ER.step {w w' : World} {base n₀ n₁ : Nat} {v : Value} {l : List TimT} (h : ER w base n₀ n₁ v l) (hk : KpR n₀ n₁ w w') : ER w' base n₀ n₁ v l := Kd.R_step h (fun k ho _ => hk.2 k ho.1 ho.2)
set_option maxHeartbeats 2000000 in
set_option maxRecDepth 100000 in
theorem each2_stops (F : Fence) (n : Nat) (h7 : F.fn 54) (hro : F.round = none) (hn : 1 ≤ n) (Bs n₀ n₁ base : Nat) (A : Option Addr) (c : Nat) (Ls : List TimT) (w : World) (hB0 : n₀ ≤ Bs) (hB1 : Bs < n₁) (hn1 : n₁ ≤ w.heap.size) (hc : w.cell? ⟨Bs, 0, none⟩ = some (.slice A Ls.length c)) (hR : ER w base n₀ n₁ (.slice A Ls.length c) Ls) (hl : Ls.length ≤ 1000000) :
    SeqStopsK F n Try.prog 54 #[.pointer (some ⟨Bs, 0, none⟩)] encP (KpR n₀ n₁) (fun ys => ys = Ls) (fun pre => pre <+: Ls) Ls.length w := by
  intro l J Jx W hW hJ hJx hY h0
  have hbs : W.cell? ⟨Bs, 0, none⟩ = some (.slice A Ls.length c) := (hW.cell (p := ⟨Bs, 0, none⟩) (by show Bs < w.heap.size; omega)).trans hc
  have HE0 : Aside0 (ER W base n₀ n₁ (.slice A Ls.length c) Ls ∧ J (Ls.take 0) W ∧ W.heap.size ≤ W.heap.size) := ⟨Kd.R_below hR hW, h0, Nat.le_refl _⟩
  obtain ⟨N, hN⟩ : ∃ N, N = Ls.length := ⟨_, rfl⟩
  have HN := Aside0.mk hN
  rw [← hN] at hbs hl HE0 hY
  have HSZ : Aside0 (n₁ ≤ W.heap.size) := ⟨Nat.le_trans hn1 hW.size⟩
  clear hR hc hN h0 hW
  refine callsIn_of_wp Try.func54 rfl h7 ?_ hro
  simp only [Try.ntmps54, List.size_toArray, List.length_cons, List.length_nil, Nat.reduceAdd, Nat.reduceSub, Array.replicate_succ, Array.replicate_zero, List.push_toArray, List.append_toArray, List.nil_append, List.cons_append]
  gi_wp2
  clear hbs
  gi_loopw [7] (fun v7 wr => ∃ k : Nat, k ≤ N ∧ v7 = .int .i64 k ∧ Aside0 (ER wr base n₀ n₁ (.slice A N c) Ls ∧ J (Ls.take k) wr ∧ W.heap.size ≤ wr.heap.size)) (fun v7 _ => N - (intOf v7).toNat)
  case atStart => exact ⟨0, Nat.zero_le _, rfl, HE0⟩
  case round =>
    clear HE0
    obtain ⟨k, hk, rfl, HI⟩ := hrel
    by_cases hlt : k < N
    · have hC := (Kd.R_reads' HI.out.1).2.2
      rw [← HN.out] at hC
      obtain ⟨ad, hA, h0, h1⟩ := tim_at hC k hlt
      obtain ⟨⟨ti, ta⟩, htm⟩ : ∃ t, t = timN Ls k := ⟨_, rfl⟩
      rw [← htm] at h0 h1
      simp only at h0 h1
      have HT : Aside0 (Ls.take (k + 1) = Ls.take k ++ [(ti, ta)]) := ⟨by rw [take_succ' Ls k (by have := HN.out; omega), ← htm]⟩
      have hJ2 := hJ (Ls.take k) wr (wr.alloc (.cells #[.int .u64 ti, .int .u64 ta] 84)) none HI.out.2.1 (World.grownBy_alloc wr _ none) (fun r e => by cases e)
      obtain ⟨fn, tmps, assign, body, hy, hR⟩ := hY (Ls.take k) (ti, ta) _ hJ2 (by rw [List.length_take]; have := HN.out; omega)
      dsimp only [encP] at hy
      have b3 := blk_new wr (.cells #[.int .u64 ti, .int .u64 ta] 84 (0, 0))
      have d0 := (blk_cell b3 0).trans rfl
      have d1 := (blk_cell b3 1).trans rfl
      have HKA : Aside0 (KpR n₀ n₁ wr (wr.alloc (.cells #[.int .u64 ti, .int .u64 ta] 84))) := ⟨⟨by simp, fun j h1 h2 => (below_alloc (Below.refl wr.heap.size wr) (.cells #[.int .u64 ti, .int .u64 ta] 84)).block j (by have := HI.out.2.2; have := HSZ.out; omega)⟩⟩
      subst hA
      clear htm hC b3 hJ2
      gi_wp2
      refine hR.mono ?_
      clear hR hy
      rintro e W3 (⟨rfl, hJ3, hk3⟩ | ⟨rfl, hJx3⟩)
      · have HNX : Aside0 (ER W3 base n₀ n₁ (.slice (some ad) N c) Ls ∧ J (Ls.take (k + 1)) W3 ∧ W.heap.size ≤ W3.heap.size) := ⟨by
          rw [HT.out]
          have hs3 := hk3.1
          rw [World.size_alloc] at hs3
          have hI := HI.out
          exact ⟨(ER.step hI.1 HKA.out).step hk3, hJ3, by omega⟩⟩
        clear HI HKA hJ3 hk3
        gi_wp2
        go_roundw
        case rel => exact ⟨k + 1, by omega, by go_num, HNX⟩
        case measure => simp [intOf]; omega
      · have HX : Aside0 (Ls.take k ++ [(ti, ta)] <+: Ls) := ⟨by rw [← HT.out]; exact List.take_prefix _ _⟩
        gi_wp2
        refine bodyPost_ret (results_none rfl _ _ _) rfl ?_
        exact ⟨⟨_, rfl⟩, .inr ⟨_, HX.out, hJx3⟩⟩
    · obtain rfl : k = N := by omega
      gi_wp2
      go_end0
      exact ⟨⟨_, rfl⟩, .inl ⟨Ls.take k, by rw [HN.out, List.take_length], HI.out.2.1⟩⟩
/-- A variable's box and the row in it, behind an append and the store: what a loop over a function owes. -/
theorem appended2 {W w1 : World} {b n₀ B : Nat} {t e : TypeId} {size : Nat} {v v' : Value} {k m : Nat} {xs ys : List Value} {tmp : Obj}
    (hv : Boxed W B t v) (hte : t ≠ e) (hrow : W.ownsRow b e size v k xs) (hb : b ≤ W.heap.size) (hn : n₀ ≤ b) (hB : n₀ ≤ B) (hown' : w1.ownsRow b e size v' m ys) (hgrow : (W.alloc tmp).grownBy w1 v.ownBlock) :
    Boxed w1 B t v ∧ Boxed (w1.setCell ⟨B, 0, none⟩ v') B t v' ∧ (w1.setCell ⟨B, 0, none⟩ v').ownsRow b e size v' m ys ∧ KeepsOthers W (w1.setCell ⟨B, 0, none⟩ v') ∧ Below n₀ W (w1.setCell ⟨B, 0, none⟩ v') ∧ ∀ n₁ n₂, B < n₁ → n₂ ≤ b → KpR n₁ n₂ W (w1.setCell ⟨B, 0, none⟩ v') := by
  have hv1 : Boxed w1 B t v := (hv.alloc tmp).kept hgrow (hv.not_row hte hrow)
  have hob : ∀ k, v.ownBlock = some k → b ≤ k := fun k hk => by
    rcases hrow.2 with ⟨rfl, _⟩ | ⟨g, cap, cur, rfl, hb, _, _⟩
    · simp [Value.ownBlock] at hk
    · obtain rfl : g = k := by simpa [Value.ownBlock] using hk
      exact hb
  refine ⟨hv1, hv1.set v', hown'.kept (grownBy_setCell' w1 B v') (.inr (hv1.not_row hte hown').symm), ?_, ?_, fun n₁ n₂ h1 h2 => ⟨?_, fun k h3 h4 => ?_⟩⟩
  · refine ((KeepsOthers.alloc W tmp).trans (KeepsOthers.of_grownBy hgrow fun j o ej hj => ?_)).trans (KeepsOthers.setCell _ _ _)
    rcases (hrow.alloc tmp).2 with ⟨rfl, _⟩ | ⟨g, cap, cur, rfl, _, hgb, _⟩
    · simp [Value.ownBlock] at ej
    · obtain rfl : g = j := by simpa [Value.ownBlock] using ej
      rw [hgb] at hj; cases hj; rfl
  · exact (((Below.refl n₀ W).alloc (by omega) tmp).grown hgrow (by simp; omega) fun j ej => by have := hob j ej; omega).setCell (p := ⟨B, 0, none⟩) hB v'
  · have h5 := hgrow.size
    rw [World.size_alloc] at h5
    have h6 := (grownBy_setCell' w1 B v').size
    omega
  · rw [Below.heap_setCell w1 ⟨B, 0, none⟩ v' k (by show k ≠ B; omega), hgrow.block k (by simp; omega) (fun e => by have := hob k e.symm; omega)]
    exact Below.heap_alloc W tmp k (by omega)
def flatT (l : List TimT) : List Int := l.flatMap fun t => [t.1, t.2]
theorem flatT_snoc (l : List TimT) (t : TimT) : flatT (l ++ [t]) = flatT l ++ [t.1, t.2] := by
  unfold flatT
  rw [List.flatMap_append]
  rfl
theorem flatT_length (l : List TimT) : (flatT l).length = l.length * 2 := by
  induction l with
  | nil => rfl
  | cons t l ih =>
    unfold flatT at *
    rw [List.flatMap_cons, List.length_append, ih]
    simp
    omega
theorem cells_two (W : World) (a b : Value) (t : TypeId) : ∀ j u, [a, b][j]? = some u → (W.alloc (.cells #[a, b] t)).cell? ((⟨W.heap.size, 0, none⟩ : Addr).add j) = some u := by
  intro j u hu
  have b3 := blk_new W (.cells #[a, b] t (0, 0))
  match j with
  | 0 =>
    rw [Addr.add_mid, show 0 + 0 = 0 from rfl]
    exact (blk_cell b3 0).trans hu
  | 1 =>
    rw [Addr.add_mid, show 0 + 1 = 1 from rfl]
    exact (blk_cell b3 1).trans hu
  | j + 2 => simp at hu
set_option maxHeartbeats 4000000 in
set_option maxRecDepth 100000 in
theorem law_timers.calls {w : World} {F : Nat → Prop} {g m : Nat} {now : Int} {Ls : List TimT} (h : Wst w F g m now Ls) (hS : Srt Ls) :
    Calls Try.prog 33 #[.pointer (some ⟨g, 0, none⟩)] w fun e w' => ∃ v, e = .returned v ∧ Kd.R (Kd.int .u64) 22 w' w.heap.size (fun _ => True) v (flatT Ls) ∧ Below w.heap.size w w' := by
  have hlen : Ls.length ≤ 8192 := h.facts.2.2.1
  have hbw := below_alloc (Below.refl w.heap.size w) (.cells #[.slice none 0 0] 42)
  have HW1 := Aside0.mk (h.kept (KeptW.of_below (F := fun _ => False) hbw) (fun _ _ h => h))
  have HBW := Aside0.mk hbw
  have HS := Aside0.mk hS
  have hq : ∀ B W, (binOp BinOp.eql 73 (.func (.func 54) #[] #[.pointer (some ⟨B, 0, none⟩)]) .nilFunc).run Try.prog W = .ok (.bool false) W := fun B W => by kernel_rfl
  clear h hS hbw
  obtain ⟨i0, hi, hz0, hz1, hz2⟩ := info_parts info22
  refine (callsIn_wide (n := 3)).1 ?_
  refine callsIn_of_wp_marks Try.func33 rfl trivial ?_ rfl
  simp only [Try.ntmps33, List.size_toArray, List.length_cons, List.length_nil, Nat.reduceAdd, Nat.reduceSub, Array.replicate_succ, Array.replicate_zero, List.push_toArray, List.append_toArray, List.nil_append, List.cons_append]
  gi_wp2_with (refine ⟨trivial, ?_⟩; gi_at_call 37; refine (callsIn_wide.2 (wheel_Each.all HW1.out HS.out)).mono ?_; rintro e w1 ⟨A, c, rfl, hs1, hc1, hr1, hb1⟩)
  rw [World.size_alloc] at hs1 hc1 hr1 hb1
  have bO : Boxed w1 w.heap.size 42 (.slice none 0 0) := (hb1.block w.heap.size (by omega)).trans (Boxed.new w 42 (.slice none 0 0))
  have hB0 : Below w.heap.size w w1 := HBW.out.trans (hb1.mono (by omega))
  have hER : ER w1 (w.heap.size + 1) (w.heap.size + 1) w1.heap.size (.slice A Ls.length c) Ls := Kd.R_mono (Kd.R_bound hr1) (fun k hk => ⟨hk.2.1, hk.2.2.1⟩)
  refine wpIn_rangeFunc_ownF rfl (by omega) (gf := 54) (lb := #[.pointer (some ⟨w.heap.size + 1, 0, none⟩)]) rfl trivial (enters_of Try.func54 (by kernel_rfl) rfl)
    (each2_stops Fence.wide _ trivial rfl (by omega) (w.heap.size + 1) (w.heap.size + 1) w1.heap.size (w.heap.size + 1) A c Ls w1 (Nat.le_refl _) hs1 (Nat.le_refl _) hc1 hER (by omega)) kpR_t (kpR_b (Nat.le_refl _)) (Below.refl _ _) (fun _ => rfl)
    (fun pre W => (∃ v, Boxed W w.heap.size 42 v ∧ W.ownsRow w1.heap.size 22 1 v (flatT pre).length ((flatT pre).map (Value.int .u64)) ∧ True) ∧ Below w.heap.size w1 W)
    (fun _ _ _ => False)
    (OwnFrom.and (Own.from (holdsRow_own w1.heap.size w.heap.size 42 22 1 (fun pre => (flatT pre).length) (fun pre => (flatT pre).map (Value.int .u64)) (fun _ _ => True)) _) (ownFrom_below hB0.size hB0.size))
    (fun _ _ _ _ _ hs _ _ => hs)
    ⟨⟨_, bO, World.ownsRow_nil _ _ _ _, trivial⟩, Below.refl _ _⟩ ?a1 ?assign ?body ?done ?stop
  case assign =>
    intro l x W K hK
    gi_wp2
    exact hK
  case body =>
    rintro l pre ⟨x, y⟩ W ⟨⟨v, hv, hrow, _⟩, hB⟩ hlt
    have hc := hv.cell
    have hfl : (flatT pre).length ≤ 16384 := by rw [flatT_length]; omega
    have hsz : w1.heap.size ≤ W.heap.size := hB.size
    gi_wp2_with (gi_at_builtin; refine wpListIn_append_own _ rfl _ _ 42 rfl w1.heap.size 22 i0 (.int .u64 0) 1 8 Try.underlying42 hi hz0 hz1 hz2 rfl (by decide) _ _ _ rfl (hrow.alloc _) ⟨W.heap.size, 0, none⟩ 2 2 [.int .u64 x, .int .u64 y] rfl rfl (cells_two _ _ _ _) (by simp [Value.oneCell']) (by unfold maxLen; omega) (by omega) (by simp; omega) ?_; intro v' w2 hown' hgrow _; obtain ⟨g', cap', rfl⟩ := ownsRow_succ hown'; obtain ⟨hv1, hv2, hr2, hk2, hb2, hkp⟩ := appended2 hv (by decide) hrow hsz (n₀ := w.heap.size) (by have := hB0.size; omega) (Nat.le_refl _) hown' hgrow; have hc1 := hv1.cell; have hf1 := hv1.frozen)
    have e1 : (flatT (pre ++ [(x, y)])).length = (flatT pre).length + 2 := by rw [flatT_snoc, List.length_append]; rfl
    have hr3 : (w2.setCell ⟨w.heap.size, 0, none⟩ (.slice (some ⟨g', 0, none⟩) ((flatT pre).length + 1 + 1) cap')).ownsRow w1.heap.size 22 1 (.slice (some ⟨g', 0, none⟩) ((flatT pre).length + 1 + 1) cap') (flatT (pre ++ [(x, y)])).length ((flatT (pre ++ [(x, y)])).map (Value.int .u64)) := by
      rw [e1, flatT_snoc, List.map_append]
      exact hr2
    exact ⟨hk2, hkp (w.heap.size + 1) _ (by omega) (Nat.le_refl _), ⟨_, hv2, hr3⟩, hB.trans hb2⟩
  case done =>
    rintro D ys W hD rfl ⟨⟨v, hv, hrow, _⟩, hB⟩ hK
    have hc := hv.cell
    gi_wp2
    refine ⟨by simp, .inl ⟨_, _, rfl, run_takeDeferred hK, ?_⟩⟩
    refine ⟨_, results_tmp rfl _ _ _, v, rfl, ?_, (hB0.trans hB).trans (belowK_b (w := w) (Nat.le_refl _) W D _ _ (by have := hB0.size; omega) hK rfl rfl)⟩
    exact Kd.R_lower (Kd.R_of_own (ownsRow_putObj hrow _ hK rfl) (fun _ _ => trivial)) (by have := hB0.size; omega)
  case stop =>
    rintro D c pre W _ _ h _
    exact h.elim
end Go.Proofs.Ytkgdlmgodpgcoaa.Hand
