/- Limits: one limit, the program's and the document's beside it. -/
import Derived.Test.YtgdjoochbgeokaaLimMB
namespace Go.Proofs.Ytgdjoochbgeokaa.Hand
open Go.RowKit Go.Maps Go.Proofs.YtgdjoochbgeokaaW.PrintWords Go.Proofs.YtgdjoochbgeokaaW.PrintLast Go.Proofs.YtgdjoochbgeokaaW.PrintMore Go.Proofs.Ytgdjoochbgeokaa.Q
set_option linter.unusedVariables false
set_option linter.unusedSimpArgs false
theorem RelL.perm_ {tr mo sp ck : Int} {All Es Es' : List Win} (h : RelL tr mo sp ck All Es) (hp : Es.Perm Es') : RelL tr mo sp ck All Es' :=
  ⟨h.perm.trans hp, ((hp.map _).nodup_iff).1 h.nodup, h.beg, fun x hx => h.used x (hp.mem_iff.2 hx), by rw [← hp.length_eq]; exact h.len, fun x hx => h.size x (hp.mem_iff.2 hx)⟩
theorem RelL.opens_ {tr mo sp ck : Int} {l : List DocW} {Es : List Win} (h : RelL tr mo sp ck (l.map toW) Es) : (opens sp ck l).Perm Es := h.perm
theorem RelL.nodupO {tr mo sp ck : Int} {l : List DocW} {Es : List Win} (h : RelL tr mo sp ck (l.map toW) Es) : ((opens sp ck l).map (·.1)).Nodup := ((h.opens_.map _).nodup_iff).2 h.nodup
theorem map_docN {l : List DocW} {i : Nat} (hi : i < l.length) : (l.map toW)[i]'(by simpa using hi) = toW (docN l i) := by
  rw [List.getElem_map, docN_get hi]
theorem map_setD {l : List DocW} {i : Nat} (x : DocW) : (l.set i x).map toW = (l.map toW).set i (toW x) := List.map_set
theorem why_lt {tr mo : Int} {s : ByteArray} {E : List Win} (h : whyI tr mo s E = 0) (hl : look E s = none) : (E.length : Int) < mo := by
  unfold whyI at h
  split at h
  · exact absurd h (by decide)
  · rw [hl] at h
    simp only at h
    split at h
    · exact absurd h (by decide)
    · omega
theorem try_rel {tr mo sp ck t : Int} {l l' : List DocW} {Es : List Win} {s : ByteArray} (h : RelL tr mo sp ck (l.map toW) Es) (ht : ck ≤ t) (hsp : 0 < sp) (hck : 0 ≤ ck) (htr : 1 ≤ tr) (hT : TryD tr mo sp t s l l') :
    RelL tr mo sp (tryC ck t s) (l'.map toW) (tryL tr mo t s Es (Es.filter (al sp t))) := by
  have hl := h.later ht
  obtain ⟨E, hE⟩ : ∃ E, E = Es.filter (al sp t) := ⟨_, rfl⟩
  rw [← hE] at hl ⊢
  have hp := hl.opens_
  have hN := hl.nodupO
  have hw := whyI_perm (tr := tr) (mo := mo) (s := s) hp hN
  have hk := look_perm (s := s) hp hN
  unfold TryD at hT
  rw [hw, hk] at hT
  by_cases hs : (s.size : Int) > 256
  · have h1 : whyI tr mo s E = 1 := whyI_one.2 hs
    unfold tryC tryL
    rw [if_pos hs, if_pos hs]
    rcases hT with ⟨_, rfl⟩ | ⟨h2, _⟩ | ⟨h2, _⟩
    · exact h
    · rw [h1] at h2; exact absurd h2 (by decide)
    · rw [h1] at h2; exact absurd h2 (by decide)
  · have hs2 : s.size ≤ 256 := by omega
    unfold tryC tryL
    rw [if_neg hs, if_neg hs]
    rcases hT with ⟨h2, rfl⟩ | ⟨h2, h3, rfl⟩ | ⟨h2, i, hi, ho, hf, rfl⟩
    · rw [if_neg h2]
      exact hl
    · rw [if_pos h2, h3, List.map_append]
      exact hl.fresh hsp (by omega) htr (look_none.1 h3) (why_lt h2 h3) hs2
    · have hm := hp.mem_iff.1 (opens_mem hi ho)
      have hlk : look E s = some (toW (docN l i)) := look_in hl.nodup hm hf
      have hlt := whyI_zero h2 hlk
      rw [if_pos h2, hlk]
      have hi2 : i < (l.map toW).length := by simpa using hi
      obtain ⟨Es', hq, hR⟩ := hl.more hi2 (by rw [map_docN hi]; exact ho) (by rw [map_docN hi]; exact hlt)
      rw [map_docN hi] at hq hR
      rw [map_setD]
      refine RelL.perm_ hR (hq.trans ?_)
      have e1 : (toW (docN l i)).1 = s := hf
      rw [e1]
      exact List.Perm.refl _
theorem try_cnt {tr mo sp t : Int} {l l' : List DocW} {s : ByteArray} (h : ∀ x, x ∈ l → 0 ≤ x.f2) (hT : TryD tr mo sp t s l l') : (∀ x, x ∈ l' → 0 ≤ x.f2) ∧ l'.length ≤ l.length + 1 := by
  rcases hT with ⟨h2, rfl⟩ | ⟨h2, h3, rfl⟩ | ⟨h2, i, hi, ho, hf, rfl⟩
  · exact ⟨h, Nat.le_succ _⟩
  · refine ⟨fun x hx => ?_, by simp⟩
    rcases List.mem_append.1 hx with hx | hx
    · exact h x hx
    · rw [List.mem_singleton] at hx; rw [hx]; show (0 : Int) ≤ 1; omega
  · refine ⟨fun x hx => ?_, by simp⟩
    rcases List.mem_or_eq_of_mem_set hx with hx | hx
    · exact h x hx
    · have := h _ (List.getElem_mem hi)
      rw [← docN_get hi] at this
      rw [hx]; show 0 ≤ (docN l i).f2 + 1; omega
theorem forgive_rel {tr mo sp ck : Int} {l l' : List DocW} {Es : List Win} {s : ByteArray} (h : RelL tr mo sp ck (l.map toW) Es) (hc : ∀ x, x ∈ l → 0 ≤ x.f2)
    (hT : (look (opens sp ck l) s = none ∧ l' = l) ∨ ∃ i, i < l.length ∧ opn sp ck (toW (docN l i)) = true ∧ (docN l i).f0 = s ∧ l' = l.set i (cntD (docN l i) 0)) :
    RelL tr mo sp ck (l'.map toW) ((Es.filter (al sp ck)).filter fun x => !decide (x.1 = s)) ∧ (∀ x, x ∈ l' → 0 ≤ x.f2) ∧ l'.length ≤ l.length + 1 := by
  have hl := h.later (Int.le_refl ck)
  obtain ⟨E, hE⟩ : ∃ E, E = Es.filter (al sp ck) := ⟨_, rfl⟩
  rw [← hE] at hl ⊢
  have hp := hl.opens_
  rcases hT with ⟨h1, rfl⟩ | ⟨i, hi, ho, hf, rfl⟩
  · rw [look_perm hp hl.nodupO] at h1
    rw [List.filter_eq_self.2 (fun x hx => by have := look_none.1 h1 x hx; simpa using this)]
    exact ⟨hl, hc, Nat.le_succ _⟩
  · have hi2 : i < (l.map toW).length := by simpa using hi
    have hR := hl.forgive hi2 (by rw [map_docN hi]; exact ho)
    rw [map_docN hi] at hR
    have e1 : (toW (docN l i)).1 = s := hf
    rw [e1] at hR
    rw [map_setD]
    have e2 : toW (cntD (docN l i) 0) = (s, (toW (docN l i)).2.1, 0) := by show ((docN l i).f0, (docN l i).f1, (0 : Int)) = _; rw [hf]; rfl
    rw [e2]
    refine ⟨hR, fun x hx => ?_, by simp⟩
    rcases List.mem_or_eq_of_mem_set hx with hx | hx
    · exact hc x hx
    · rw [hx]; exact Int.le_refl 0
theorem RelL.empty {tr mo sp ck : Int} (h : 0 ≤ mo) : RelL tr mo sp ck (([] : List DocW).map toW) [] :=
  ⟨List.Perm.refl _, List.nodup_nil, fun x hx => absurd hx List.not_mem_nil, fun x hx => absurd hx List.not_mem_nil, h, fun x hx => absurd hx List.not_mem_nil⟩
/-- One limit, the document's beside it. -/
structure PairL (w : World) (g m : Nat) (tr mo sp ck : Int) (v : Value) (l : List DocW) (Es : List Win) : Prop where
  st : LSt w g m tr mo sp ck Es
  doc : DV w v l
  rel : RelL tr mo sp ck (l.map toW) Es
  cnt : ∀ x, x ∈ l → 0 ≤ x.f2
theorem PairL.docB {w : World} {g m : Nat} {tr mo sp ck : Int} {v : Value} {l : List DocW} {Es : List Win} (h : PairL w g m tr mo sp ck v l Es) {t : Int} (ht : ck ≤ t) (h1 : t ≤ 18446744073709551615) (hl : (l.length : Int) < 4398046511104) : DocB sp t l where
  sp0 := by have := h.st.spB; omega
  sp1 := h.st.spB.2
  t1 := h1
  beg := fun x hx => by have := h.rel.beg (toW x) (List.mem_map.2 ⟨x, hx, rfl⟩); show 0 ≤ (toW x).2.1 ∧ (toW x).2.1 ≤ t; omega
  len := by omega
  cnt := h.cnt
theorem PairL.nodupAt {w : World} {g m : Nat} {tr mo sp ck : Int} {v : Value} {l : List DocW} {Es : List Win} (h : PairL w g m tr mo sp ck v l Es) {t : Int} (ht : ck ≤ t) : ((opens sp t l).map (·.1)).Nodup := (h.rel.later ht).nodupO
theorem PairL.permAt {w : World} {g m : Nat} {tr mo sp ck : Int} {v : Value} {l : List DocW} {Es : List Win} (h : PairL w g m tr mo sp ck v l Es) {t : Int} (ht : ck ≤ t) : (opens sp t l).Perm (Es.filter (al sp t)) := (h.rel.later ht).opens_
theorem PairL.below {w w' : World} {g m : Nat} {tr mo sp ck : Int} {v : Value} {l : List DocW} {Es : List Win} (h : PairL w g m tr mo sp ck v l Es) (hb : Below w.heap.size w w') : PairL w' g m tr mo sp ck v l Es := ⟨h.st.below hb, Kd.R_below h.doc hb, h.rel, h.cnt⟩
/-- Another limit has turned. -/
theorem PairL.kept {w w' : World} {g m g2 m2 : Nat} {tr mo sp ck tr2 mo2 sp2 ck2 : Int} {v : Value} {l : List DocW} {Es Es2 : List Win} (h : PairL w g m tr mo sp ck v l Es) (h2 : LSt w g2 m2 tr2 mo2 sp2 ck2 Es2) (hk : KeptL (Gm g2 m2) w w') (hg : g ≠ g2 ∧ g ≠ m2) (hm : m ≠ g2 ∧ m ≠ m2) : PairL w' g m tr mo sp ck v l Es :=
  ⟨h.st.kept hk (fun hh => hh.elim hg.1 hg.2) (fun hh => hh.elim hm.1 hm.2), h.doc.kept h2 hk, h.rel, h.cnt⟩
theorem LSt.mlt {w : World} {g m : Nat} {tr mo sp ck : Int} {Es : List Win} (h : LSt w g m tr mo sp ck Es) : g < w.heap.size ∧ m < w.heap.size := by
  obtain ⟨n, D, ⟨es, clock, o1, o2⟩, h2⟩ := h.own
  exact ⟨blk_lt h.lim, blk_lt o1⟩
/-- What lies on played's desk. -/
structure Desk (w W : World) (B0 B1 B2 g m : Nat) (tr mo sp ck : Int) (v : Value) (k : Int) (s : ByteArray) (now : Int) : Prop where
  b0 : W.heap[B0]? = some (.cells #[.int .i64 tr, .int .u64 sp, .int .i64 mo, .int .u64 ck, v] 31 (0, 0))
  b1 : W.heap[B1]? = some (.cells #[.int .i64 k, .string s, .int .u64 now] 35 (0, 0))
  b2 : W.heap[B2]? = some (.cells #[.int .i64 0, .int .u64 0, .int .i64 0, .int .u64 0, .slice none 0 0] 31 (0, 0))
  kept : KeptL (Gm g m) w W
  up : w.heap.size ≤ B0 ∧ w.heap.size ≤ B1 ∧ w.heap.size ≤ B2
  far : B0 ≠ B1 ∧ B0 ≠ B2 ∧ B1 ≠ B2
  low : g < w.heap.size ∧ m < w.heap.size
theorem Desk.below {w W W' : World} {B0 B1 B2 g m : Nat} {tr mo sp ck : Int} {v : Value} {k : Int} {s : ByteArray} {now : Int} (h : Desk w W B0 B1 B2 g m tr mo sp ck v k s now) (hb : Below W.heap.size W W') : Desk w W' B0 B1 B2 g m tr mo sp ck v k s now :=
  ⟨blk_below h.b0 hb, blk_below h.b1 hb, blk_below h.b2 hb, h.kept.step hb, h.up, h.far, h.low⟩
theorem Desk.keep {w W W' : World} {B0 B1 B2 g m : Nat} {tr mo sp ck : Int} {v : Value} {k : Int} {s : ByteArray} {now : Int} (h : Desk w W B0 B1 B2 g m tr mo sp ck v k s now) (hk : KeptL (Gm g m) W W') : Desk w W' B0 B1 B2 g m tr mo sp ck v k s now :=
  have hn : ∀ B, w.heap.size ≤ B → ¬ Gm g m B := fun B hB hh => by have := h.low; rcases hh with rfl | rfl <;> omega
  ⟨(hk.block B0 (blk_lt h.b0) (hn B0 h.up.1)).trans h.b0, (hk.block B1 (blk_lt h.b1) (hn B1 h.up.2.1)).trans h.b1, (hk.block B2 (blk_lt h.b2) (hn B2 h.up.2.2)).trans h.b2, h.kept.trans hk, h.up, h.far, h.low⟩
/-- What played answers. -/
def PlayedPost (w : World) (g m : Nat) (tr mo sp : Int) (n : Nat) : Ending → World → Prop := fun e w' =>
  ∃ ck' v' l' Es', e = .returned (.tuple #[(.agg #[.int .i64 tr, .int .u64 sp, .int .i64 mo, .int .u64 ck', v']), .bool true]) ∧ PairL w' g m tr mo sp ck' v' l' Es' ∧ KeptL (Gm g m) w w' ∧ l'.length ≤ n + 1
theorem KeptL.five {S : Nat → Prop} {a w : World} {g : Nat} (h : KeptL S a w) (hg : a.heap.size ≤ g) (y0 y1 y2 y3 y4 : Value) :
    KeptL S a (((((w.setCell ⟨g, 0, none⟩ y0).setCell ⟨g, 1, none⟩ y1).setCell ⟨g, 2, none⟩ y2).setCell ⟨g, 3, none⟩ y3).setCell ⟨g, 4, none⟩ y4) :=
  ((((h.setCell _ _ (.inr hg)).setCell _ _ (.inr hg)).setCell _ _ (.inr hg)).setCell _ _ (.inr hg)).setCell _ _ (.inr hg)
theorem blk_five_far {W : World} {g h : Nat} {o : Obj} (hh : W.heap[h]? = some o) (hne : h ≠ g) (y0 y1 y2 y3 y4 : Value) :
    (((((W.setCell ⟨g, 0, none⟩ y0).setCell ⟨g, 1, none⟩ y1).setCell ⟨g, 2, none⟩ y2).setCell ⟨g, 3, none⟩ y3).setCell ⟨g, 4, none⟩ y4).heap[h]? = some o :=
  ((Below.heap_setCell _ ⟨g, 4, none⟩ _ h hne).trans ((Below.heap_setCell _ ⟨g, 3, none⟩ _ h hne).trans ((Below.heap_setCell _ ⟨g, 2, none⟩ _ h hne).trans ((Below.heap_setCell _ ⟨g, 1, none⟩ _ h hne).trans (Below.heap_setCell _ ⟨g, 0, none⟩ _ h hne))))).trans hh
/-- The result's cells are written: a block that nothing else leans on. -/
theorem PairL.five {W W0 : World} {g m G : Nat} {tr mo sp ck : Int} {v : Value} {l : List DocW} {Es : List Win} (h : PairL W0 g m tr mo sp ck v l Es) (hb : Below W0.heap.size W0 W) (hG : W0.heap.size ≤ G) (y0 y1 y2 y3 y4 : Value) :
    PairL (((((W.setCell ⟨G, 0, none⟩ y0).setCell ⟨G, 1, none⟩ y1).setCell ⟨G, 2, none⟩ y2).setCell ⟨G, 3, none⟩ y3).setCell ⟨G, 4, none⟩ y4) g m tr mo sp ck v l Es :=
  h.below (below_five hb hG _ _ _ _ _)
/-- The desk's blocks, and what lies beside them: a world that differs at a block of type Limit that is not the limit's. -/
theorem PairL.farB {W : World} {g m G : Nat} {tr mo sp ck : Int} {v : Value} {l : List DocW} {Es : List Win} {cs : Array Value} (h : PairL W g m tr mo sp ck v l Es) (hG : W.heap[G]? = some (.cells cs 31 (0, 0))) (y0 y1 y2 y3 y4 : Value) :
    PairL (((((W.setCell ⟨G, 0, none⟩ y0).setCell ⟨G, 1, none⟩ y1).setCell ⟨G, 2, none⟩ y2).setCell ⟨G, 3, none⟩ y3).setCell ⟨G, 4, none⟩ y4) g m tr mo sp ck v l Es := by
  obtain ⟨n, D, hO, hM⟩ := h.st.own
  have hgG : g ≠ G := blk_ne h.st.lim hG (by decide)
  obtain ⟨es, clock, o1, o2⟩ := hO
  have hmG : m ≠ G := fun e => by rw [e, hG] at o1; cases o1
  have hL : LSt (((((W.setCell ⟨G, 0, none⟩ y0).setCell ⟨G, 1, none⟩ y1).setCell ⟨G, 2, none⟩ y2).setCell ⟨G, 3, none⟩ y3).setCell ⟨G, 4, none⟩ y4) g m tr mo sp ck Es := { h.st with lim := blk_five_far h.st.lim hgG _ _ _ _ _, own := ⟨n, D, ⟨es, clock, blk_five_far o1 hmG _ _ _ _ _, o2⟩, hM⟩ }
  refine ⟨hL, ?_, h.rel, h.cnt⟩
  refine Kd.R_mono (Kd.R_step (Kd.R_bound h.doc) (fun k ho hlt => ?_)) (fun _ _ => trivial)
  obtain ⟨_, _, _, q, hq, cells, hc⟩ := ho
  have hk : k ≠ G := fun e => by
    rw [e, hG] at hc
    injection hc with hc
    injection hc with _ ht _
    rw [← ht] at hq
    revert hq
    decide
  show (((((W.setCell ⟨G, 0, none⟩ y0).setCell ⟨G, 1, none⟩ y1).setCell ⟨G, 2, none⟩ y2).setCell ⟨G, 3, none⟩ y3).setCell ⟨G, 4, none⟩ y4).heap[k]? = W.heap[k]?
  rw [hc]
  exact blk_five_far hc hk _ _ _ _ _
end Go.Proofs.Ytgdjoochbgeokaa.Hand
