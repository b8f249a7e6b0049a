/- Limit: what Try tells, case by case; live. -/
import Derived.Test.YtgdjoochbgeokaaLimE
namespace Go.Proofs.Ytgdjoochbgeokaa.Hand
open Go.RowKit Go.Maps Go.Proofs.YtgdjoochbgeokaaW.PrintWords Go.Proofs.YtgdjoochbgeokaaW.PrintLast Go.Proofs.YtgdjoochbgeokaaW.PrintMore Go.Proofs.Ytgdjoochbgeokaa.PLimitMost
set_option linter.unusedVariables false
set_option linter.unusedSimpArgs false

theorem purged_some {D D1 : DW} {t sp b u : Int} {k : Lit} (hp : Purged D D1 t sp) (hv : view D k = some (wv b u)) : view D1 k = if aliveB t b sp = true then some (wv b u) else none := by
  rw [hp.1 k, hv]
  simp only [Option.filter, aliveD_wv]
theorem purged_none {D D1 : DW} {t sp : Int} {k : Lit} (hp : Purged D D1 t sp) (hv : view D k = none) : view D1 k = none := by
  rw [hp.1 k, hv]
  rfl
theorem size_put_has {D : DW} (hT : Tidy D) {k : Lit} {d y : DW} (hv : view D k = some y) : Maps.size (D.put k d) = Maps.size D := by
  rw [size_put hT, if_pos (by rw [has_view, hv]; rfl)]
theorem size_put_le {D : DW} (hT : Tidy D) (k : Lit) (d : DW) : Maps.size (D.put k d) ≤ Maps.size D + 1 := by
  rw [size_put hT]
  split <;> omega
theorem TryS.go {tr mo sp ck now ck' n e b u : Int} {s : ByteArray} {D D' : DW} (h : TryS tr mo sp ck now s D D' ck' n e) (hs : s.size ≤ 256) (hv : view D (ks s) = some (wv b u)) (ha : aliveB (max now ck) b sp = true) (hlt : u < tr) :
    n = tr - (u + 1) ∧ e = 0 ∧ ck' = max now ck ∧ view D' (ks s) = some (wv b (u + 1)) ∧ Maps.size D' ≤ Maps.size D := by
  rcases h with ⟨h1, _⟩ | ⟨_, rfl, D1, hT, hP, h⟩
  · omega
  have h2 := purged_some hP hv
  rw [if_pos ha] at h2
  rcases h with ⟨b', u', hv', hu, _⟩ | ⟨b', u', hv', _, rfl, rfl, rfl⟩ | ⟨hv', _⟩ | ⟨hv', _⟩
  · rw [h2] at hv'; obtain ⟨_, rfl⟩ := wv_inj (Option.some.inj hv'); omega
  · rw [h2] at hv'
    obtain ⟨rfl, rfl⟩ := wv_inj (Option.some.inj hv')
    exact ⟨rfl, rfl, rfl, view_put_same hT.isMap (ks_key s) _, by rw [size_put_has hT h2]; exact hP.2⟩
  · rw [h2] at hv'; cases hv'
  · rw [h2] at hv'; cases hv'
theorem TryS.spent {tr mo sp ck now ck' n e b u : Int} {s : ByteArray} {D D' : DW} (h : TryS tr mo sp ck now s D D' ck' n e) (hs : s.size ≤ 256) (hv : view D (ks s) = some (wv b u)) (ha : aliveB (max now ck) b sp = true) (hge : u ≥ tr) :
    n = 0 ∧ e = 80 ∧ ck' = max now ck ∧ view D' (ks s) = some (wv b u) ∧ Maps.size D' ≤ Maps.size D := by
  rcases h with ⟨h1, _⟩ | ⟨_, rfl, D1, hT, hP, h⟩
  · omega
  have h2 := purged_some hP hv
  rw [if_pos ha] at h2
  rcases h with ⟨b', u', hv', hu, rfl, rfl, rfl⟩ | ⟨b', u', hv', hu, _⟩ | ⟨hv', _⟩ | ⟨hv', _⟩
  · exact ⟨rfl, rfl, rfl, h2, hP.2⟩
  · rw [h2] at hv'
    obtain ⟨rfl, rfl⟩ := wv_inj (Option.some.inj hv')
    omega
  · rw [h2] at hv'; cases hv'
  · rw [h2] at hv'; cases hv'
/-- No window is open. -/
def Shutd (D : DW) (k : Lit) (t sp : Int) : Prop := view D k = none ∨ ∃ b u, view D k = some (wv b u) ∧ aliveB t b sp = false
theorem Shutd.purged {D D1 : DW} {k : Lit} {t sp : Int} (h : Shutd D k t sp) (hp : Purged D D1 t sp) : view D1 k = none := by
  rcases h with h | ⟨b, u, h, ha⟩
  · exact purged_none hp h
  · rw [purged_some hp h, ha]; rfl
theorem TryS.fresh {tr mo sp ck now ck' n e : Int} {s : ByteArray} {D D' : DW} (h : TryS tr mo sp ck now s D D' ck' n e) (hs : s.size ≤ 256) (hv : Shutd D (ks s) (max now ck) sp) :
    ck' = max now ck ∧ ((n = tr - 1 ∧ e = 0 ∧ view D' (ks s) = some (wv ck' 1) ∧ Maps.size D' ≤ Maps.size D + 1) ∨ (n = 0 ∧ e = 5 ∧ view D' (ks s) = none ∧ (Maps.size D : Int) ≥ mo ∧ Maps.size D' ≤ Maps.size D)) := by
  rcases h with ⟨h1, _⟩ | ⟨_, rfl, D1, hT, hP, h⟩
  · omega
  have h2 := hv.purged hP
  have h3 := hP.2
  refine ⟨rfl, ?_⟩
  rcases h with ⟨b', u', hv', _⟩ | ⟨b', u', hv', _⟩ | ⟨hv', hm, rfl, rfl, rfl⟩ | ⟨hv', hm, rfl, rfl, rfl⟩
  · rw [h2] at hv'; cases hv'
  · rw [h2] at hv'; cases hv'
  · exact .inr ⟨rfl, rfl, h2, by omega, h3⟩
  · exact .inl ⟨rfl, rfl, view_put_same hT.isMap (ks_key s) _, by have := size_put_le hT (ks s) (wv (max now ck) 1); omega⟩
theorem TryS.first {tr mo sp ck now ck' n e : Int} {s : ByteArray} {D D' : DW} (h : TryS tr mo sp ck now s D D' ck' n e) (hs : s.size ≤ 256) (hv : Shutd D (ks s) (max now ck) sp) (hm : (Maps.size D : Int) < mo) :
    n = tr - 1 ∧ e = 0 ∧ ck' = max now ck ∧ view D' (ks s) = some (wv ck' 1) ∧ Maps.size D' ≤ Maps.size D + 1 := by
  obtain ⟨h1, ⟨h2, h3, h4, h5⟩ | ⟨_, _, _, h5, _⟩⟩ := h.fresh hs hv
  · exact ⟨h2, h3, h1, h4, h5⟩
  · omega
theorem drawn_belowL {w w' : World} (h : Drawn0 w w') : Below w.heap.size w w' := by
  obtain ⟨n, rfl⟩ := h
  exact pw_below_drewN (Below.refl _ _) n
theorem below_step2 {S : Nat → Prop} {a w w' : World} (h : Below a.heap.size a w) (k : KeptL S w w') (hS : ∀ b, S b → a.heap.size ≤ b) : Below a.heap.size a w' :=
  h.trans (k.below h.size hS)
theorem good_empty (tr mo : Int) (h : 0 ≤ mo) : GoodD (.map []) tr mo := ⟨fun k d hd => (by rw [view_none rfl] at hd; cases hd), h⟩

set_option maxHeartbeats 1000000 in
set_option maxRecDepth 100000 in
theorem lim_live.calls (w : World) : Calls Try.prog 8 #[] w fun e w' => e = .returned (.bool true) ∧ Below w.heap.size w w' := by
  go_enter Try.func8, Try.ntmps8
  go_wp2_with fail
  refine (limit_New.good 2 10 2 w (by decide)).mono ?_
  rintro x w1 ⟨g, m, rfl, hL, hO, hb, hg, hm⟩
  have HL := Aside0.mk hL
  have HO := Aside0.mk hO
  have HB := Aside0.mk hb
  have HGM := Aside0.mk (show ∀ b, (b = g ∨ b = m) → w.heap.size ≤ b from fun b h => by rcases h with rfl | rfl <;> assumption)
  have HG := Aside0.mk (good_empty 2 2 (by decide))
  clear hL hO hb hg hm
  go_wp2_with (go_at_call 11; (with_reducible refine (wicketlaw08_num.calls _ _ _ rfl).mono ?_); rintro e w2 ⟨rfl, hd⟩; have HB2 := Aside0.mk (drawn_belowL hd); clear hd)
  replace HL := Aside0.mk (HL.out.below HB2.out)
  replace HO := Aside0.mk (Owns.below HO.out HB2.out)
  replace HB := Aside0.mk (below_step HB.out HB2.out)
  clear HB2
  refine (limit_Try.calls g m 0 2 2 10 0 5 ⟨#[97]⟩ (.map []) w2 HL.out HO.out (by decide) (by decide) (by decide) (by decide) HG.out).mono ?_
  rintro x w3 ⟨D1, ck1, r1, e1, n1, rfl, hK, hL, hO, hS⟩
  have hG1 := hS.good HG.out (by decide)
  obtain ⟨rfl, rfl, rfl, hv1, hs1⟩ := hS.first (by decide) (.inl rfl) (by decide)
  have HV := Aside0.mk hv1
  have HS1 := Aside0.mk hs1
  have HG1 := Aside0.mk hG1
  replace HB := Aside0.mk (below_step2 HB.out hK HGM.out)
  replace HL := Aside0.mk hL
  replace HO := Aside0.mk hO
  clear hK hL hO hS hG1 hv1 hs1 HG
  go_wp2_with fail
  refine (limit_Try.calls g m n1 2 2 10 5 6 ⟨#[97]⟩ D1 w3 HL.out HO.out (by decide) (by decide) (by decide) (by decide) HG1.out).mono ?_
  rintro x w4 ⟨D2, ck2, r2, e2, n2, rfl, hK, hL, hO, hS⟩
  have HG2 := Aside0.mk (hS.good HG1.out (by decide))
  obtain ⟨rfl, rfl, rfl, hv1, hs1⟩ := hS.go (by decide) HV.out (by decide) (by decide)
  replace HV := Aside0.mk hv1
  replace HS1 := Aside0.mk (Nat.le_trans hs1 HS1.out)
  replace HB := Aside0.mk (below_step2 HB.out hK HGM.out)
  replace HL := Aside0.mk hL
  replace HO := Aside0.mk hO
  clear hK hL hO hS hv1 hs1 HG1
  go_wp2_with fail
  refine (limit_Try.calls g m n2 2 2 10 6 7 ⟨#[97]⟩ D2 w4 HL.out HO.out (by decide) (by decide) (by decide) (by decide) HG2.out).mono ?_
  rintro x w5 ⟨D3, ck3, r3, e3, n3, rfl, hK, hL, hO, hS⟩
  have HG3 := Aside0.mk (hS.good HG2.out (by decide))
  obtain ⟨rfl, rfl, rfl, hv1, hs1⟩ := hS.spent (by decide) HV.out (by decide) (by decide)
  replace HV := Aside0.mk hv1
  replace HS1 := Aside0.mk (Nat.le_trans hs1 HS1.out)
  replace HB := Aside0.mk (below_step2 HB.out hK HGM.out)
  replace HL := Aside0.mk hL
  replace HO := Aside0.mk hO
  clear hK hL hO hS hv1 hs1 HG2
  go_wp2_with fail
  refine (limit_Try.calls g m n3 2 2 10 7 15 ⟨#[97]⟩ D3 w5 HL.out HO.out (by decide) (by decide) (by decide) (by decide) HG3.out).mono ?_
  rintro x w6 ⟨D4, ck4, r4, e4, n4, rfl, hK, hL, hO, hS⟩
  obtain ⟨rfl, rfl, rfl, hv1, hs1⟩ := hS.first (by decide) (.inr ⟨_, _, HV.out, by decide⟩) (by have := HS1.out; have h0 : Maps.size (DataW.map [] : DW) = 0 := rfl; omega)
  replace HB := Aside0.mk (below_step2 HB.out hK HGM.out)
  clear hK hL hO hS hv1 hs1 HG3 HL HO HV HS1
  go_wp2_with (go_at_call 11; (with_reducible refine (wicketlaw08_num.calls _ _ _ rfl).mono ?_); rintro e w7 ⟨rfl, hd⟩; replace HB := Aside0.mk (below_step HB.out (drawn_belowL hd)); clear hd)
  go_ret
  exact ⟨rfl, HB.out⟩
end Go.Proofs.Ytgdjoochbgeokaa.Hand
