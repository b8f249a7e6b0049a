/- LimitApart: the plain law: a subject is answered as if it were alone. -/
import Derived.Test.YtgdjoochbgeokaaLimS
namespace Go.Proofs.Ytgdjoochbgeokaa.Hand
open Go.RowKit Go.Maps Go.Proofs.YtgdjoochbgeokaaW.PrintWords Go.Proofs.YtgdjoochbgeokaaW.PrintLast Go.Proofs.YtgdjoochbgeokaaW.PrintMore Go.Proofs.Ytgdjoochbgeokaa.PLimitMost
set_option linter.unusedVariables false
set_option linter.unusedSimpArgs false
/-- A limit of many and one beside it tell the same of a subject. -/
structure Alone (sp tr : Int) (k : Lit) (D E : DW) (ck : Int) (i : Nat) : Prop where
  rck : 0 ≤ ck ∧ ck ≤ 18446744073709551615
  same : view D k = view E k
  good : GoodD D tr 4096
  good2 : GoodD E tr 4096
  size : Maps.size D ≤ i
  size2 : Maps.size E ≤ i
theorem same_purged {D D1 E E1 : DW} {t sp : Int} {k : Lit} (h : view D k = view E k) (hp : Purged D D1 t sp) (hq : Purged E E1 t sp) : view D1 k = view E1 k := by rw [hp.1 k, hq.1 k, h]
theorem TryS.size {tr mo sp ck now ck' n e : Int} {s : ByteArray} {D D' : DW} (h : TryS tr mo sp ck now s D D' ck' n e) : Maps.size D' ≤ Maps.size D + 1 := by
  rcases h with ⟨_, _, _, rfl, _⟩ | ⟨_, _, D1, hT, hP, h⟩
  · omega
  · have h3 := hP.2
    rcases h with ⟨b, u, _, _, _, _, rfl⟩ | ⟨b, u, hv, _, _, _, rfl⟩ | ⟨_, _, _, _, rfl⟩ | ⟨_, _, _, _, rfl⟩
    · omega
    · have := size_put_le hT (ks s) (wv b (u + 1)); omega
    · omega
    · have := size_put_le hT (ks s) (wv ck' 1); omega
/-- Both are asked. -/
theorem Alone.both {sp tr ck now c1 c2 n1 n2 e1 e2 : Int} {s : ByteArray} {D E D' E' : DW} {i : Nat} (h : Alone sp tr (ks s) D E ck i) (hi : i < 4096) (htr : 1 ≤ tr) (hn : 0 ≤ now ∧ now ≤ 18446744073709551615) (h1 : TryS tr 4096 sp ck now s D D' c1 n1 e1) (h2 : TryS tr 4096 sp ck now s E E' c2 n2 e2) :
    n1 = n2 ∧ e1 = e2 ∧ c1 = c2 ∧ Alone sp tr (ks s) D' E' c1 (i + 1) := by
  have hg1 := h1.good h.good htr
  have hg2 := h2.good h.good2 htr
  have hs1 := h1.size
  have hs2 := h2.size
  have hk1 := h1.clock h.rck hn
  have hsz := h.size
  have hsz2 := h.size2
  suffices hx : n1 = n2 ∧ e1 = e2 ∧ c1 = c2 ∧ view D' (ks s) = view E' (ks s) by
    obtain ⟨a, b, c, d⟩ := hx
    exact ⟨a, b, c, ⟨hk1, d, hg1, hg2, by omega, by omega⟩⟩
  rcases h1 with ⟨g1, rfl, rfl, rfl, rfl⟩ | ⟨g1, rfl, D1, hT, hP, h1⟩
  · rcases h2 with ⟨_, rfl, rfl, rfl, rfl⟩ | ⟨g2, _⟩
    · exact ⟨rfl, rfl, rfl, h.same⟩
    · omega
  rcases h2 with ⟨g2, _⟩ | ⟨_, rfl, E1, hT2, hP2, h2⟩
  · omega
  have hv := same_purged h.same hP hP2
  have z1 := hP.2
  have z2 := hP2.2
  rcases h1 with ⟨b, u, hv1, hu, rfl, rfl, rfl⟩ | ⟨b, u, hv1, hu, rfl, rfl, rfl⟩ | ⟨hv1, hm, _⟩ | ⟨hv1, hm, rfl, rfl, rfl⟩
  · rcases h2 with ⟨b', u', hv2, hu', rfl, rfl, rfl⟩ | ⟨b', u', hv2, hu', _⟩ | ⟨hv2, _⟩ | ⟨hv2, _⟩
    · exact ⟨rfl, rfl, rfl, hv⟩
    · rw [hv, hv2] at hv1; obtain ⟨_, rfl⟩ := wv_inj (Option.some.inj hv1); omega
    · rw [hv, hv2] at hv1; cases hv1
    · rw [hv, hv2] at hv1; cases hv1
  · rcases h2 with ⟨b', u', hv2, hu', _⟩ | ⟨b', u', hv2, hu', rfl, rfl, rfl⟩ | ⟨hv2, _⟩ | ⟨hv2, _⟩
    · rw [hv, hv2] at hv1; obtain ⟨_, rfl⟩ := wv_inj (Option.some.inj hv1); omega
    · rw [hv, hv2] at hv1
      obtain ⟨rfl, rfl⟩ := wv_inj (Option.some.inj hv1)
      exact ⟨rfl, rfl, rfl, by rw [view_put_same hT.isMap (ks_key s), view_put_same hT2.isMap (ks_key s)]⟩
    · rw [hv, hv2] at hv1; cases hv1
    · rw [hv, hv2] at hv1; cases hv1
  · omega
  · rcases h2 with ⟨b', u', hv2, _⟩ | ⟨b', u', hv2, _⟩ | ⟨hv2, hm2, _⟩ | ⟨hv2, _, rfl, rfl, rfl⟩
    · rw [hv, hv2] at hv1; cases hv1
    · rw [hv, hv2] at hv1; cases hv1
    · omega
    · exact ⟨rfl, rfl, rfl, by rw [view_put_same hT.isMap (ks_key s), view_put_same hT2.isMap (ks_key s)]⟩
/-- Another one is asked of the many; the other goes on in time. -/
theorem Alone.other {sp tr ck now c1 n1 e1 : Int} {s subject : ByteArray} {D E D' : DW} {i : Nat} (h : Alone sp tr (ks subject) D E ck i) (hne : ¬ s = subject) (htr : 1 ≤ tr) (hn : 0 ≤ now ∧ now ≤ 18446744073709551615) (h1 : TryS tr 4096 sp ck now s D D' c1 n1 e1) :
    (s.size > 256 ∧ c1 = ck ∧ Alone sp tr (ks subject) D' E ck (i + 1)) ∨ (s.size ≤ 256 ∧ c1 = max now ck ∧ ∀ E', Purged E E' (max now ck) sp → Alone sp tr (ks subject) D' E' (max now ck) (i + 1)) := by
  have hg1 := h1.good h.good htr
  have hs1 := h1.size
  have hk1 := h1.clock h.rck hn
  have hsz := h.size
  have hsz2 := h.size2
  have hkk : ks subject ≠ ks s := fun e => hne (ks_inj e).symm
  rcases h1 with ⟨g1, rfl, rfl, rfl, rfl⟩ | ⟨g1, rfl, D1, hT, hP, h1⟩
  · exact .inl ⟨g1, rfl, ⟨hk1, h.same, hg1, h.good2, by omega, by omega⟩⟩
  · refine .inr ⟨g1, rfl, fun E' hq => ⟨hk1, ?_, hg1, h.good2.purged hq, by omega, by have := hq.2; omega⟩⟩
    have hv := same_purged h.same hP hq
    rcases h1 with ⟨b, u, _, _, _, _, rfl⟩ | ⟨b, u, _, _, _, _, rfl⟩ | ⟨_, _, _, _, rfl⟩ | ⟨_, _, _, _, rfl⟩
    · exact hv
    · rw [view_put_other hkk]; exact hv
    · exact hv
    · rw [view_put_other hkk]; exact hv
theorem alone_start (sp tr : Int) (k : Lit) : Alone sp tr k (.map []) (.map []) 0 0 := ⟨by omega, rfl, good_empty tr 4096 (by omega), good_empty tr 4096 (by omega), Nat.le_refl _, Nat.le_refl _⟩
end Go.Proofs.Ytgdjoochbgeokaa.Hand
