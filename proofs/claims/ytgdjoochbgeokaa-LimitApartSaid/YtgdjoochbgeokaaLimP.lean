/- LimitMost: the plain law: what is counted is what the limit has. -/
import Derived.Test.YtgdjoochbgeokaaLimF
namespace Go.Proofs.Ytgdjoochbgeokaa.Hand
open Go.RowKit Go.Maps Go.Proofs.YtgdjoochbgeokaaW.PrintWords Go.Proofs.YtgdjoochbgeokaaW.PrintLast Go.Proofs.YtgdjoochbgeokaaW.PrintMore Go.Proofs.Ytgdjoochbgeokaa.PLimitMost
set_option linter.unusedVariables false
set_option linter.unusedSimpArgs false

theorem alive_plain {t b sp : Int} (h0 : 0 ≤ b) (h1 : b ≤ t) (h2 : t ≤ 18446744073709551615) : aliveB t b sp = decide (t - b < sp) := by
  unfold aliveB
  rw [IntKind.wrap_u64, Int.emod_eq_of_lt (by omega) (by omega)]
/-- What is counted of a subject is what the limit has. -/
structure Most (sp tr : Int) (k : Lit) (D : DW) (ck bg ct : Int) : Prop where
  rck : 0 ≤ ck ∧ ck ≤ 18446744073709551615
  rbg : 0 ≤ bg ∧ bg ≤ ck
  rct : 0 ≤ ct ∧ ct ≤ tr
  has : (view D k = none ∧ (ct = 0 ∨ aliveB ck bg sp = false)) ∨ (view D k = some (wv bg ct) ∧ 1 ≤ ct)
/-- The time goes on. -/
theorem Most.later {sp tr ck bg ct now : Int} {k : Lit} {D D1 : DW} (h : Most sp tr k D ck bg ct) (hn : 0 ≤ now ∧ now ≤ 18446744073709551615) (hp : Purged D D1 (max now ck) sp) :
    (view D1 k = none ∧ (ct = 0 ∨ aliveB (max now ck) bg sp = false)) ∨ (view D1 k = some (wv bg ct) ∧ 1 ≤ ct ∧ aliveB (max now ck) bg sp = true) := by
  have h1 := h.rck
  have h2 := h.rbg
  rcases h.has with ⟨hv, hd⟩ | ⟨hv, hc⟩
  · refine .inl ⟨purged_none hp hv, ?_⟩
    rcases hd with hd | hd
    · exact .inl hd
    · refine .inr ?_
      rw [alive_plain h2.1 h2.2 h1.2] at hd
      rw [alive_plain h2.1 (by omega) (by omega)]
      have := of_decide_eq_false hd
      exact decide_eq_false (by omega)
  · have := purged_some hp hv
    cases ha : aliveB (max now ck) bg sp with
    | true => rw [ha, if_pos rfl] at this; exact .inr ⟨this, hc, rfl⟩
    | false => rw [ha, if_neg (by decide)] at this; exact .inl ⟨this, .inr rfl⟩
theorem Most.mk' {sp tr ck bg ct now : Int} {k : Lit} {D D1 : DW} (h : Most sp tr k D ck bg ct) (hn : 0 ≤ now ∧ now ≤ 18446744073709551615) (hh : (view D1 k = none ∧ (ct = 0 ∨ aliveB (max now ck) bg sp = false)) ∨ (view D1 k = some (wv bg ct) ∧ 1 ≤ ct ∧ aliveB (max now ck) bg sp = true)) : Most sp tr k D1 (max now ck) bg ct := by
  have h1 := h.rck
  have h2 := h.rbg
  refine ⟨by omega, by omega, h.rct, ?_⟩
  rcases hh with hh | ⟨a, b, _⟩
  · exact .inl hh
  · exact .inr ⟨a, b⟩
theorem most_step {sp tr mo ck bg ct now ck' n e : Int} {s subject : ByteArray} {D D' : DW} (hJ : Most sp tr (ks subject) D ck bg ct) (h : TryS tr mo sp ck now s D D' ck' n e) (hn : 0 ≤ now ∧ now ≤ 18446744073709551615) (htr : 1 ≤ tr) :
    (s.size > 256 ∧ e = 1 ∧ ck' = ck ∧ Most sp tr (ks subject) D' ck' bg ct) ∨
    (s.size ≤ 256 ∧ ck' = max now ck ∧ ((s ≠ subject ∧ Most sp tr (ks subject) D' ck' bg ct) ∨ (s = subject ∧ e = 5 ∧ Most sp tr (ks subject) D' ck' bg ct) ∨
      (s = subject ∧ e = 80 ∧ ct > 0 ∧ aliveB ck' bg sp = true ∧ ¬ ct < tr ∧ Most sp tr (ks subject) D' ck' bg ct) ∨
      (s = subject ∧ e = 0 ∧ ct > 0 ∧ aliveB ck' bg sp = true ∧ ct < tr ∧ n = tr - (ct + 1) ∧ Most sp tr (ks subject) D' ck' bg (ct + 1)) ∨
      (s = subject ∧ e = 0 ∧ (ct = 0 ∨ (ct > 0 ∧ aliveB ck' bg sp = false)) ∧ n = tr - 1 ∧ Most sp tr (ks subject) D' ck' ck' 1))) := by
  rcases h with ⟨h1, rfl, rfl, rfl, rfl⟩ | ⟨h1, rfl, D1, hT, hP, h⟩
  · exact .inl ⟨h1, rfl, rfl, hJ⟩
  refine .inr ⟨h1, rfl, ?_⟩
  have hl := hJ.later hn hP
  have h1 := hJ.rck
  have h2 := hJ.rbg
  have h3 := hJ.rct
  by_cases hs : s = subject
  · subst hs
    rcases h with ⟨b, u, hv, hu, rfl, rfl, rfl⟩ | ⟨b, u, hv, hu, rfl, rfl, rfl⟩ | ⟨hv, hm, rfl, rfl, rfl⟩ | ⟨hv, hm, rfl, rfl, rfl⟩
    · rcases hl with ⟨hl, _⟩ | ⟨hl, hc, ha⟩
      · rw [hl] at hv; cases hv
      · rw [hl] at hv
        obtain ⟨rfl, rfl⟩ := wv_inj (Option.some.inj hv)
        exact .inr (.inr (.inl ⟨rfl, rfl, by omega, ha, by omega, hJ.mk' hn (.inr ⟨hl, hc, ha⟩)⟩))
    · rcases hl with ⟨hl, _⟩ | ⟨hl, hc, ha⟩
      · rw [hl] at hv; cases hv
      · rw [hl] at hv
        obtain ⟨rfl, rfl⟩ := wv_inj (Option.some.inj hv)
        exact .inr (.inr (.inr (.inl ⟨rfl, rfl, by omega, ha, by omega, rfl, ⟨by omega, by omega, by omega, .inr ⟨view_put_same hT.isMap (ks_key s) _, by omega⟩⟩⟩)))
    · refine .inr (.inl ⟨rfl, rfl, hJ.mk' hn ?_⟩)
      exact hl
    · rcases hl with ⟨hl, hc⟩ | ⟨hl, hc, ha⟩
      · refine .inr (.inr (.inr (.inr ⟨rfl, rfl, ?_, rfl, ⟨by omega, by omega, by omega, .inr ⟨view_put_same hT.isMap (ks_key s) _, by omega⟩⟩⟩)))
        by_cases h0 : ct = 0
        · exact .inl h0
        · exact .inr ⟨by omega, by rcases hc with hc | hc; exact absurd hc h0; exact hc⟩
      · rw [hl] at hv; cases hv
  · refine .inl ⟨hs, hJ.mk' hn ?_⟩
    have hne : ks subject ≠ ks s := fun e => hs (ks_inj e).symm
    rcases h with ⟨b, u, hv, hu, rfl, rfl, rfl⟩ | ⟨b, u, hv, hu, rfl, rfl, rfl⟩ | ⟨hv, hm, rfl, rfl, rfl⟩ | ⟨hv, hm, rfl, rfl, rfl⟩
    · exact hl
    · rw [view_put_other hne]; exact hl
    · exact hl
    · rw [view_put_other hne]; exact hl
theorem most_start (sp tr : Int) (htr : 1 ≤ tr) (k : Lit) : Most sp tr k (.map []) 0 0 0 := ⟨by omega, by omega, by omega, .inl ⟨view_none rfl, .inl rfl⟩⟩
end Go.Proofs.Ytgdjoochbgeokaa.Hand
