/- Wheel: the document's Advance. -/
import Derived.Test.YtkgdlmgodpgcoaaWhlAH
import Derived.RangeFuncBox
namespace Go.Proofs.Ytkgdlmgodpgcoaa.Hand
open Go.RowKit Go.Maps Go.Proofs.YtkgdlmgodpgcoaaW.PrintWords Go.Proofs.YtkgdlmgodpgcoaaW.PrintLast Go.Proofs.YtkgdlmgodpgcoaaW.PrintMore
open Go.Sort
set_option linter.unusedVariables false
set_option linter.unusedSimpArgs false

theorem kt_open {e : Nat} {w : World} {base b n c : Nat} {ok : Nat → Prop} {l : List TimT} (h : Kd.R kT e w base ok (.slice (some ⟨b, 0, none⟩) n c) l) : n = l.length ∧ l.length ≤ c ∧ c ≤ maxLen ∧ base ≤ b ∧ ok b ∧ ∃ cur, w.heap[b]? = some (.cells cur e (0, 0)) ∧ cur.size = c * 2 ∧ ∀ t, t < l.length → At2 cur t (timN l t) := by
  obtain ⟨h0, inner, ho, hr⟩ := h
  rcases ho.2 with ⟨e, _⟩ | ⟨g, cap, cur, e, hbase, hb, h1, h2, h3, h4⟩
  · injection e with e1; cases e1
  · injection e with e1 e2 e3
    injection e1 with e1
    injection e1 with e1
    subst e1 e3
    refine ⟨e2, h1, h2, hbase, h0 _ rfl, cur, hb, h3, fun t ht => ?_⟩
    have hin := reps_flat hr
    have hp : l.toArray[t]! = timN l t := by
      rw [getElem!_pos _ t (by simpa using ht)]
      unfold timN
      rw [List.getD_eq_getElem?_getD, List.getElem?_eq_getElem ht]
      simp
    have g0 := flat_get l.toArray t 0 (by simpa using ht) (by decide)
    have g1 := flat_get l.toArray t 1 (by simpa using ht) (by decide)
    rw [hp] at g0 g1
    rw [← hin, ← h4] at g0 g1
    have ht2 : t * 2 + 1 < l.length * 2 := by omega
    rw [List.getElem?_take_of_lt (by show _ < l.length * 2; omega), Array.getElem?_toList] at g0 g1
    exact ⟨g0, g1⟩
theorem kt_mk {e : Nat} {w : World} {base b c : Nat} {ok : Nat → Prop} {l : List TimT} {cur : Array Value} (hb : w.heap[b]? = some (.cells cur e (0, 0))) (hl : l.length ≤ c) (hc : c ≤ maxLen) (hbase : base ≤ b) (hf : ok b) (hs : cur.size = c * 2) (ha : ∀ t, t < l.length → At2 cur t (timN l t)) : Kd.R kT e w base ok (.slice (some ⟨b, 0, none⟩) l.length c) l := by
  refine ⟨fun k hk => ?_, (flatK encT 2 l.toArray).toList, ⟨?_, .inr ⟨b, c, cur, rfl, hbase, hb, hl, hc, hs, ?_⟩⟩, flat_reps _ _ _ _⟩
  · have : b = k := by simpa [Value.ownBlock] using hk
    rw [← this]; exact hf
  · simp [kT, Kd.iso, Kd.pair, Kd.int, Kd.scalar]
  · show cur.toList.take (l.length * 2) = _
    apply List.ext_getElem?
    intro t
    by_cases ht : t < l.length * 2
    · have hj : t / 2 < l.length := by omega
      have hp : l.toArray[t / 2]! = timN l (t / 2) := by
        rw [getElem!_pos _ (t / 2) (by simpa using hj)]
        unfold timN
        rw [List.getD_eq_getElem?_getD, List.getElem?_eq_getElem hj]
        simp
      have g := flat_get l.toArray (t / 2) (t % 2) (by simpa using hj) (by omega)
      rw [hp, show t / 2 * 2 + t % 2 = t by omega] at g
      rw [g, List.getElem?_take_of_lt ht, Array.getElem?_toList]
      obtain ⟨a0, a1⟩ := ha (t / 2) hj
      have hc2 : t % 2 = 0 ∨ t % 2 = 1 := by omega
      rcases hc2 with hc2 | hc2
      · rw [hc2, show t = t / 2 * 2 by omega, show t / 2 * 2 / 2 = t / 2 by omega, a0]; rfl
      · rw [hc2, show t = t / 2 * 2 + 1 by omega, show (t / 2 * 2 + 1) / 2 = t / 2 by omega, a1]; rfl
    · rw [List.getElem?_take_eq_none (by omega), List.getElem?_eq_none (by simp; omega)]
theorem kt_cells {e : Nat} {w : World} {base b n c : Nat} {ok : Nat → Prop} {l : List TimT} (h : Kd.R kT e w base ok (.slice (some ⟨b, 0, none⟩) n c) l) (t : Nat) (ht : t < l.length) : (w.cell? ⟨b, t * 2, none⟩ = some (.int .u64 (timN l t).1) ∧ w.cell? ⟨b, t * 2 + 1, none⟩ = some (.int .u64 (timN l t).2)) ∧ w.frozen? ⟨b, t * 2, none⟩ = false ∧ w.frozen? ⟨b, t * 2 + 1, none⟩ = false := by
  obtain ⟨_, _, _, _, _, cur, hb, _, ha⟩ := kt_open h
  exact ⟨⟨(blk_cell hb _).trans (ha t ht).1, (blk_cell hb _).trans (ha t ht).2⟩, blk_frozen hb _, blk_frozen hb _⟩
theorem timN_set {l : List TimT} {i : Nat} (hi : i < l.length) (x : TimT) (t : Nat) : timN (l.set i x) t = if t = i then x else timN l t := by
  unfold timN
  rw [List.getD_eq_getElem?_getD, List.getD_eq_getElem?_getD]
  by_cases e : t = i
  · subst e
    rw [if_pos rfl, List.getElem?_set_self hi]
    rfl
  · rw [if_neg e, List.getElem?_set_ne (fun h => e h.symm)]
theorem kt_set {e : Nat} {w : World} {base b n c : Nat} {ok : Nat → Prop} {l : List TimT} (h : Kd.R kT e w base ok (.slice (some ⟨b, 0, none⟩) n c) l) {i : Nat} (hi : i < l.length) (x : TimT) :
    Kd.R kT e ((w.setCell ⟨b, i * 2, none⟩ (.int .u64 x.1)).setCell ⟨b, i * 2 + 1, none⟩ (.int .u64 x.2)) base ok (.slice (some ⟨b, 0, none⟩) n c) (l.set i x) ∧ w.grownBy ((w.setCell ⟨b, i * 2, none⟩ (.int .u64 x.1)).setCell ⟨b, i * 2 + 1, none⟩ (.int .u64 x.2)) (some b) := by
  obtain ⟨hn, h1, h2, h3, h4, cur, hb, hs, ha⟩ := kt_open h
  subst hn
  refine ⟨?_, (grown_set _ _ _ _).trans (grown_set _ _ _ _)⟩
  have hlen : (l.set i x).length = l.length := List.length_set
  rw [← hlen]
  refine kt_mk (blk_put (blk_put hb (i * 2) _ rfl) (i * 2 + 1) _ rfl) (by rw [hlen]; exact h1) h2 h3 h4 (by simpa using hs) (fun t ht => ?_)
  rw [hlen] at ht
  rw [timN_set hi]
  by_cases e : t = i
  · subst e
    rw [if_pos rfl]
    exact At2.here (by omega) x
  · rw [if_neg e]
    exact (ha t ht).set e _ _
theorem set_mid {D : List TimT} {k : Nat} (hk : k ≤ D.length) (y x : TimT) : (D.take k ++ y :: D.drop k).set k x = D.take k ++ x :: D.drop k := by
  have hl : (D.take k).length = k := by rw [List.length_take]; omega
  rw [List.set_append_right _ _ (by omega), hl, Nat.sub_self, List.set_cons_zero]
theorem mid_len {D : List TimT} {k : Nat} (hk : k ≤ D.length) (y : TimT) : (D.take k ++ y :: D.drop k).length = D.length + 1 := by
  rw [List.length_append, List.length_take, List.length_cons, List.length_drop]
  omega
theorem mid_get {D : List TimT} {k j : Nat} (hk : k ≤ D.length) (hj : j < k) (y : TimT) : timN (D.take k ++ y :: D.drop k) j = timN D j := by
  unfold timN
  rw [List.getD_eq_getElem?_getD, List.getD_eq_getElem?_getD, List.getElem?_append_left (by rw [List.length_take]; omega), List.getElem?_take_of_lt hj]
theorem mid_shift {D : List TimT} {q : Nat} (hq : q < D.length) : D.take (q + 1) ++ timN D q :: D.drop (q + 1) = D.take q ++ timN D q :: D.drop q := by
  rw [take_succ' D q hq, List.append_assoc, List.singleton_append, List.drop_eq_getElem_cons hq, timN_get hq]
theorem ins_pair {D : List TimT} {k : Nat} {t : TimT} (hk : k ≤ D.length) (hp : D.Pairwise leT) (h1 : k = 0 ∨ (timN D (k - 1)).2 ≤ t.2) (h2 : ∀ j, k ≤ j → j < D.length → t.2 < (timN D j).2) (h3 : ∀ d, d ∈ D → d.1 < t.1) : (D.take k ++ t :: D.drop k).Pairwise leT := by
  have hs : D.take k ++ D.drop k = D := List.take_append_drop k D
  have hp2 : (D.take k ++ D.drop k).Pairwise leT := by rw [hs]; exact hp
  obtain ⟨p1, p2, p3⟩ := List.pairwise_append.1 hp2
  rw [List.pairwise_append, List.pairwise_cons]
  have hdrop : ∀ d, d ∈ D.drop k → t.2 < d.2 := fun d hd => by
    obtain ⟨j, hj, rfl⟩ := List.getElem_of_mem hd
    rw [List.length_drop] at hj
    rw [List.getElem_drop]
    have := h2 (k + j) (by omega) (by omega)
    rwa [timN_get (by omega)] at this
  have htake : ∀ d, d ∈ D.take k → d.2 ≤ t.2 := fun d hd => by
    rcases h1 with h1 | h1
    · subst h1; rw [List.take_zero] at hd; cases hd
    · obtain ⟨j, hj, rfl⟩ := List.getElem_of_mem hd
      rw [List.length_take] at hj
      rw [List.getElem_take]
      have hk1 : k - 1 < D.length := by omega
      by_cases e : j = k - 1
      · subst e
        rw [timN_get hk1] at h1
        exact h1
      · have h5 := List.pairwise_iff_getElem.1 hp j (k - 1) (by omega) hk1 (by omega)
        rw [timN_get hk1] at h1
        unfold leT at h5
        omega
  refine ⟨p1, ⟨fun d hd => ?_, p2⟩, fun a ha b hb => ?_⟩
  · have := hdrop d hd
    unfold leT
    omega
  · rcases List.mem_cons.1 hb with rfl | hb
    · have := htake a ha
      have := h3 a (List.mem_of_mem_take ha)
      unfold leT
      omega
    · exact p3 a ha b hb
abbrev RF (w : World) (base : Nat) (f : Nat → Nat) (i : Nat) (v : Value) (l : List TimT) : Prop := RT w base (fun k => f k = i) v l
theorem RF.other {w w' : World} {base i j : Nat} {f : Nat → Nat} {v u : Value} {l : List TimT} (h : RF w base f i v l) (hij : i ≠ j) (hu : ∀ k, u.ownBlock = some k → f k = j) (hg : w.grownBy w' u.ownBlock) : RF w' base (fun k => if k < w.heap.size then f k else j) i v l :=
  Kd.R_mono (Kd.R_grown (Kd.R_bound h) hg (fun k hk e => hij (hk.1.symm.trans (hu k e.symm)))) (fun k hk => by show (if k < w.heap.size then f k else j) = i; rw [if_pos hk.2.2.1]; exact hk.1)
theorem RF.mine {w : World} {base i : Nat} {f : Nat → Nat} {v : Value} {l : List TimT} (h : RF w base f i v l) : RT w base (fun k => (if k < w.heap.size then f k else i) = i) v l :=
  Kd.R_mono h (fun k hk => by split; exact hk; rfl)
structure AdvR (w1 wr : World) (f : Nat → Nat) (tz : Int) (Ls : List TimT) (i : Nat) (v6 v7 : Value) (D : List TimT) : Prop where
  bel : Below w1.heap.size w1 wr
  due : RF wr w1.heap.size f 0 v6 D
  rest : RF wr w1.heap.size f 1 v7 ((Ls.take i).filter (isStay tz))
  perm : D.Perm ((Ls.take i).filter (isOver tz))
  pw : D.Pairwise leT
theorem AdvR.below {w1 wr wr' : World} {f : Nat → Nat} {tz : Int} {Ls : List TimT} {i : Nat} {v6 v7 : Value} {D : List TimT} (h : AdvR w1 wr f tz Ls i v6 v7 D) (hb : Below wr.heap.size wr wr') : AdvR w1 wr' f tz Ls i v6 v7 D :=
  ⟨h.bel.trans (hb.mono h.bel.size), Kd.R_below h.due hb, Kd.R_below h.rest hb, h.perm, h.pw⟩
theorem srt_take_lt {Ls : List TimT} (hS : Srt Ls) {i : Nat} (hi : i < Ls.length) {d : TimT} (hd : d ∈ Ls.take i) : d.1 < (timN Ls i).1 := by
  have h : (Ls.take i ++ timN Ls i :: Ls.drop (i + 1)).Pairwise fun a b => a.1 < b.1 := by rw [split_at hi]; exact hS
  exact (List.pairwise_append.1 h).2.2 d hd _ List.mem_cons_self
theorem AdvR.mark {w1 wr : World} {f : Nat → Nat} {tz : Int} {Ls : List TimT} {i : Nat} {v6 v7 : Value} {D : List TimT} (h : AdvR w1 wr f tz Ls i v6 v7 D) : ∃ f2, f2 wr.heap.size = 5 ∧ AdvR w1 wr f2 tz Ls i v6 v7 D :=
  ⟨fun k => if k = wr.heap.size then 5 else f k, if_pos rfl, h.bel, Kd.R_mono (Kd.R_bound h.due) (fun k hk => by show (if k = wr.heap.size then 5 else f k) = 0; rw [if_neg (by omega)]; exact hk.1), Kd.R_mono (Kd.R_bound h.rest) (fun k hk => by show (if k = wr.heap.size then 5 else f k) = 1; rw [if_neg (by omega)]; exact hk.1), h.perm, h.pw⟩
/-- While a timer is put into its place. -/
structure InsI (w1 wq : World) (f : Nat → Nat) (b ND c5 B : Nat) (x : TimT) (v7 : Value) (rest D : List TimT) (k : Nat) : Prop where
  due : ∃ y, RF wq w1.heap.size f 0 (.slice (some ⟨b, 0, none⟩) (ND + 1) c5) (D.take k ++ y :: D.drop k)
  rest : RF wq w1.heap.size f 1 v7 rest
  bel : Below w1.heap.size w1 wq
  box : wq.heap[B]? = some (.cells #[.int .u64 x.1, .int .u64 x.2] 56 (0, 0))
  mark : f B = 5
  late : ∀ j, k ≤ j → j < D.length → x.2 < (timN D j).2
theorem InsI.set {w1 wq : World} {f : Nat → Nat} {b ND c5 B : Nat} {x : TimT} {v7 : Value} {rest D : List TimT} {k : Nat} (h : InsI w1 wq f b ND c5 B x v7 rest D k) (hk : k ≤ D.length) (z : TimT) :
    RF ((wq.setCell ⟨b, k * 2, none⟩ (.int .u64 z.1)).setCell ⟨b, k * 2 + 1, none⟩ (.int .u64 z.2)) w1.heap.size f 0 (.slice (some ⟨b, 0, none⟩) (ND + 1) c5) (D.take k ++ z :: D.drop k) ∧ RF ((wq.setCell ⟨b, k * 2, none⟩ (.int .u64 z.1)).setCell ⟨b, k * 2 + 1, none⟩ (.int .u64 z.2)) w1.heap.size f 1 v7 rest ∧ Below w1.heap.size w1 ((wq.setCell ⟨b, k * 2, none⟩ (.int .u64 z.1)).setCell ⟨b, k * 2 + 1, none⟩ (.int .u64 z.2)) ∧ ((wq.setCell ⟨b, k * 2, none⟩ (.int .u64 z.1)).setCell ⟨b, k * 2 + 1, none⟩ (.int .u64 z.2)).heap[B]? = some (.cells #[.int .u64 x.1, .int .u64 x.2] 56 (0, 0)) := by
  obtain ⟨y, hd⟩ := h.due
  obtain ⟨_, _, _, hbase, hfb, _⟩ := kt_open hd
  obtain ⟨h1, hg⟩ := kt_set hd (i := k) (by rw [mid_len hk]; omega) z
  rw [set_mid hk] at h1
  refine ⟨h1, Kd.R_mono (Kd.R_grown (Kd.R_bound h.rest) hg (fun k hk e => ?_)) (fun k hk => hk.1), h.bel.grown hg h.bel.size (fun k e => by cases e; exact hbase), (hg.block B (blk_lt h.box) (fun e => ?_)).trans h.box⟩
  · injection e with e
    have h2 := hk.1
    rw [e, hfb] at h2
    cases h2
  · injection e with e
    have h2 := h.mark
    rw [e, hfb] at h2
    cases h2
theorem InsI.drew {w1 wq : World} {f : Nat → Nat} {b ND c5 B : Nat} {x : TimT} {v7 : Value} {rest D : List TimT} {k : Nat} (h : InsI w1 wq f b ND c5 B x v7 rest D k) : InsI w1 wq.drew f b ND c5 B x v7 rest D k :=
  ⟨by obtain ⟨y, hd⟩ := h.due; exact ⟨y, Kd.R_below hd (below_drew1 (Below.refl _ _))⟩, Kd.R_below h.rest (below_drew1 (Below.refl _ _)), below_drew1 h.bel, h.box, h.mark, h.late⟩
theorem InsI.down {w1 wq : World} {f : Nat → Nat} {b ND c5 B : Nat} {x : TimT} {v7 : Value} {rest D : List TimT} {q : Nat} (h : InsI w1 wq f b ND c5 B x v7 rest D (q + 1)) (hq : q < D.length) (hx : x.2 < (timN D q).2) :
    InsI w1 ((wq.setCell ⟨b, (q + 1) * 2, none⟩ (.int .u64 (timN D q).1)).setCell ⟨b, (q + 1) * 2 + 1, none⟩ (.int .u64 (timN D q).2)) f b ND c5 B x v7 rest D q := by
  obtain ⟨h1, h2, h3, h4⟩ := h.set (by omega) (timN D q)
  rw [mid_shift hq] at h1
  exact ⟨⟨_, h1⟩, h2, h3, h4, h.mark, fun j hj hl => by
    by_cases e : j = q
    · rw [e]; exact hx
    · exact h.late j (by omega) hl⟩
theorem InsI.done {w1 wq : World} {f : Nat → Nat} {b ND c5 B : Nat} {tz : Int} {x : TimT} {v7 : Value} {Ls D : List TimT} {i k : Nat} (h : InsI w1 wq f b ND c5 B x v7 ((Ls.take (i + 1)).filter (isStay tz)) D k) (hk : k ≤ D.length) (h0 : k = 0 ∨ (timN D (k - 1)).2 ≤ x.2) (hp : D.Perm ((Ls.take i).filter (isOver tz))) (hpw : D.Pairwise leT) (hS : Srt Ls) (hi : i < Ls.length) (hx : x = timN Ls i) (hF : (Ls.take (i + 1)).filter (isOver tz) = (Ls.take i).filter (isOver tz) ++ [x]) :
    AdvR w1 ((wq.setCell ⟨b, k * 2, none⟩ (.int .u64 x.1)).setCell ⟨b, k * 2 + 1, none⟩ (.int .u64 x.2)) f tz Ls (i + 1) (.slice (some ⟨b, 0, none⟩) (ND + 1) c5) v7 (D.take k ++ x :: D.drop k) := by
  obtain ⟨h1, h2, h3, _⟩ := h.set hk x
  refine ⟨h3, h1, h2, ?_, ins_pair hk hpw h0 h.late (fun d hd => ?_)⟩
  · rw [hF]
    exact (put_perm D x k).trans (hp.append_right [x])
  · rw [hx]
    exact srt_take_lt hS hi (List.mem_filter.1 (hp.mem_iff.1 hd)).1
theorem ins_start {w1 wa w5 : World} {f2 : Nat → Nat} {tz : Int} {Ls : List TimT} {i ND B : Nat} {v6 v7 v5 : Value} {D : List TimT} {x : TimT} (hA : AdvR w1 wa f2 tz Ls i v6 v7 D) (hf : f2 B = 5) (hB : B < wa.heap.size) (hbt : wa.heap[B]? = some (.cells #[.int .u64 x.1, .int .u64 x.2] 56 (0, 0))) (hF : (Ls.take (i + 1)).filter (isStay tz) = (Ls.take i).filter (isStay tz)) (hN : ND = D.length)
    (ho : RT w5 w1.heap.size (fun k => (if k < wa.heap.size then f2 k else 0) = 0) v5 (D ++ [x])) (hb : Below w1.heap.size w1 w5) (hg : wa.grownBy w5 v6.ownBlock) :
    ∃ b c5 f5, v5 = .slice (some ⟨b, 0, none⟩) (ND + 1) c5 ∧ InsI w1 w5 f5 b ND c5 B x v7 ((Ls.take (i + 1)).filter (isStay tz)) D ND := by
  obtain ⟨inner, hown⟩ := Kd.R_own ho
  have hln : (D ++ [x]).length = ND + 1 := by rw [List.length_append, hN]; rfl
  rw [hln] at hown
  obtain ⟨b, c5, rfl⟩ := ownsRow_succ hown
  refine ⟨b, c5, fun k => if k < wa.heap.size then f2 k else 0, rfl, ⟨x, ?_⟩, ?_, hb, ?_, ?_, fun j h1 h2 => by omega⟩
  · rw [hN, List.take_length, List.drop_length]
    rw [hN] at ho
    exact ho
  · rw [hF]
    exact RF.other hA.rest (by decide) hA.due.1 hg
  · exact (hg.block B hB (fun e => by have h2 : f2 B = 0 := hA.due.1 B e.symm; rw [hf] at h2; cases h2)).trans hbt
  · show (if B < wa.heap.size then f2 B else 0) = 5
    rw [if_pos hB]
    exact hf
theorem timN_memD {D : List TimT} {l : List TimT} {p : TimT → Bool} (h : D.Perm (l.filter p)) {d : TimT} (hd : d ∈ D) : d ∈ l := (List.mem_filter.1 (h.mem_iff.1 hd)).1
set_option maxHeartbeats 16000000 in
set_option maxRecDepth 100000 in
theorem ref_Advance.all {w : World} {F : Nat → Prop} {r : Nat} {now : Int} {Ls : List TimT} (h : Rst w F r now Ls) (hS : Srt Ls) (hl : Ls.length ≤ 8192) (tz : Int) (hle : now ≤ tz) :
    Calls Try.prog 24 #[.pointer (some ⟨r, 0, none⟩), .int .u64 tz] w fun e w' => ∃ v F', e = .returned (.tuple #[v, .int .i64 0]) ∧ Rst w' F' r tz (Ls.filter (isStay tz)) ∧ (∀ k, F' k → F k ∨ w.heap.size ≤ k) ∧ KeptW F w w' ∧ Kd.R (Kd.int .u64) 22 w' w.heap.size (fun k => ¬ F' k) v ((sorted (Ls.filter (isOver tz))).map (·.1)) := by
  obtain ⟨A, c, hb, hC, hc⟩ := h.view
  have d1 := (blk_cell hb 1).trans rfl
  have f1 := blk_frozen hb 1
  have HR1 : Aside0 (Rst (w.setCell ⟨r, 1, none⟩ (.int .u64 tz)) F r tz Ls ∧ KeptW F w (w.setCell ⟨r, 1, none⟩ (.int .u64 tz))) := ⟨by
    obtain ⟨⟨v, h1, h2⟩, hr, hlt⟩ := h
    exact ⟨⟨⟨v, blk_put h1 1 _ rfl, Kd.R_set h2 h1 (by decide) 1 _⟩, hr, fun k hk => by simpa [World.setCell] using hlt k hk⟩, (KeptW.of_grown (grown_set w r 1 _)).mono (fun k e => by cases e; exact hr)⟩⟩
  have HS := Aside0.mk hS
  have HL := Aside0.mk hl
  have b1 : decide (tz < now) = false := decide_eq_false (by omega)
  clear h hb hC hc hS hl hle
  go_enter Try.func24, Try.ntmps24
  go_wp2_with fail
  clear d1 f1 b1
  obtain ⟨w1, hw1⟩ : ∃ w1, w1 = w.setCell ⟨r, 1, none⟩ (.int .u64 tz) := ⟨_, rfl⟩
  have HSZ : Aside0 (w1.heap.size = w.heap.size) := ⟨by rw [hw1]; simp [World.setCell]⟩
  rw [← hw1] at HR1
  rw [← hw1]
  clear hw1
  obtain ⟨A, c, hb, hC, hc⟩ := HR1.out.1.view
  obtain ⟨N, hN⟩ : ∃ N, N = Ls.length := ⟨_, rfl⟩
  rw [← hN] at hb hC hc
  have hN2 : (N : Int) ≤ 8192 := by have := HL.out; omega
  have HC := Aside0.mk hC
  have HN := Aside0.mk hN
  have HBL := Aside0.mk hb
  have HI0 : Aside0 (∃ f D, AdvR w1 w1 f tz Ls 0 (.slice none 0 0) (.slice none 0 0) D) := ⟨⟨fun _ => 0, [], Below.refl _ _, Kd.R_nil _ _ _ _ _, Kd.R_nil _ _ _ _ _, List.Perm.refl _, List.Pairwise.nil⟩⟩
  clear hb hC hc hN
  go_loopw [8, 6, 7] (fun v8 v6 v7 wr => ∃ i : Nat, i ≤ N ∧ v8 = .int .i64 i ∧ Aside0 (∃ f D, AdvR w1 wr f tz Ls i v6 v7 D)) (fun v8 _ _ _ => N - (intOf v8).toNat)
  case atStart => exact ⟨0, Nat.zero_le _, rfl, HI0⟩
  case round =>
    clear HI0
    obtain ⟨i, hi, rfl, HI⟩ := hrel
    obtain ⟨f, D, hA⟩ := HI.out
    have hbw := (hA.bel.block r (blk_lt HBL.out)).trans HBL.out
    have d0 := (blk_cell hbw 0).trans rfl
    have HAD := Aside0.mk hA
    clear hbw hA HI
    by_cases hlt : i < N
    · have HIL : Aside0 (i < Ls.length) := ⟨by have := HN.out; omega⟩
      obtain ⟨ad, hAd, h0, h1⟩ := tim_at (Kd.C_below HC.out HAD.out.bel) i hlt
      subst hAd
      obtain ⟨⟨ti, ta⟩, htm⟩ : ∃ t, t = timN Ls i := ⟨_, rfl⟩
      rw [← htm] at h0 h1
      simp only at h0 h1
      have HTM := Aside0.mk htm
      have hba := below_alloc (Below.refl wr.heap.size wr) (.cells #[.int .u64 ti, .int .u64 ta] 56)
      have bt := blk_new wr (.cells #[.int .u64 ti, .int .u64 ta] 56 (0, 0))
      obtain ⟨f2, hf2, hA2⟩ := HAD.out.mark
      have HAA := Aside0.mk (hA2.below hba)
      obtain ⟨B, hB⟩ : ∃ B, B = wr.heap.size := ⟨_, rfl⟩
      rw [← hB] at hf2
      have HF2 := Aside0.mk hf2
      obtain ⟨wa, hwa⟩ : ∃ wa, wa = wr.alloc (.cells #[.int .u64 ti, .int .u64 ta] 56) := ⟨_, rfl⟩
      have HBA : Aside0 (B < wa.heap.size) := ⟨by rw [hwa, hB, World.size_alloc]; omega⟩
      clear htm hba HAD hf2 hA2
      go_upto_region 10 with (fail)
      rw [← hB, ← hwa] at bt
      rw [← hwa] at HAA
      rw [← hwa]
      rw [← hB]
      clear hB hwa h0 h1 d0
      have e0 := (blk_cell bt 0).trans rfl
      have e1 := (blk_cell bt 1).trans rfl
      have HBT := Aside0.mk bt
      have HFN : Aside0 ((Ls.take (i + 1)).filter (isStay tz) = (Ls.take i).filter (isStay tz) ++ (if isStay tz (ti, ta) = true then [(ti, ta)] else []) ∧ (Ls.take (i + 1)).filter (isOver tz) = (Ls.take i).filter (isOver tz) ++ (if isOver tz (ti, ta) = true then [(ti, ta)] else [])) := ⟨by
        rw [filter_next _ Ls i HIL.out, filter_next _ Ls i HIL.out, ← HTM.out]
        exact ⟨rfl, rfl⟩⟩
      clear bt
      by_cases g : tz < ta
      · have b2 : decide (ta > tz) = true := decide_eq_true g
        have HF1 : Aside0 ((Ls.take (i + 1)).filter (isStay tz) = (Ls.take i).filter (isStay tz) ++ [(ti, ta)] ∧ (Ls.take (i + 1)).filter (isOver tz) = (Ls.take i).filter (isOver tz)) := ⟨by
          rw [HFN.out.1, HFN.out.2]
          have h1 : isOver tz (ti, ta) = false := decide_eq_false (by show ¬ ta ≤ tz; omega)
          unfold isStay
          rw [h1]
          exact ⟨rfl, List.append_nil _⟩⟩
        have HLN : Aside0 ((((Ls.take i).filter (isStay tz)).length + 1) * 16 ≤ 140737488355328) := ⟨by
          have h1 : ((Ls.take i).filter (isStay tz)).length ≤ (Ls.take i).length := List.length_filter_le _ _
          rw [List.length_take] at h1
          have := HL.out
          omega⟩
        clear g HFN
        go_wp2_with ((with_reducible refine gate_builtin (b := .append) (xs := #[.tmp 43, .tmp 45]) rfl ?_); at_builtin; refine Kd.R_append kT (w0 := w1) w1.heap.size rfl (.tmp 43) (.tmp 45) 37 56 (.agg #[.int .u64 0, .int .u64 0]) 16 rfl Try.underlying37 info56 rfl (by decide) (by decide) u7 ((Ls.take i).filter (isStay tz)) (ti, ta) [.int .u64 ti, .int .u64 ta] (fun k => (if k < wa.heap.size then f2 k else 1) = 1) (fun _ => False) rfl rfl (kT_M _ _ _ _) (fun _ h => h.elim) (fun k hk => by rw [if_neg (by omega)]) (RF.mine HAA.out.rest) HAA.out.bel HAA.out.bel.size HLN.out ?_; intro v5 w5 ho hb hg hat; have HNX : Aside0 (∃ f D, AdvR w1 w5 f tz Ls (i + 1) u6 v5 D) := ⟨⟨fun k => if k < wa.heap.size then f2 k else 1, D, hb, RF.other HAA.out.due (by decide) HAA.out.rest.1 hg, by rw [HF1.out.1]; exact ho, by rw [HF1.out.2]; exact HAA.out.perm, HAA.out.pw⟩⟩; clear ho hb hg hat)
        clear HAA HF1 HLN e0 e1 b2 HBT
        go_roundw
        case rel => exact ⟨i + 1, by omega, by go_num, HNX⟩
        case measure => simp [intOf]; omega
      · have b2 : decide (ta > tz) = false := decide_eq_false g
        have HF1 : Aside0 ((Ls.take (i + 1)).filter (isStay tz) = (Ls.take i).filter (isStay tz) ∧ (Ls.take (i + 1)).filter (isOver tz) = (Ls.take i).filter (isOver tz) ++ [(ti, ta)]) := ⟨by
          rw [HFN.out.1, HFN.out.2]
          have h1 : isOver tz (ti, ta) = true := decide_eq_true (by show ta ≤ tz; omega)
          unfold isStay
          rw [h1]
          exact ⟨List.append_nil _, rfl⟩⟩
        obtain ⟨A6, c6, hv6⟩ := Kd.R_slice HAA.out.due
        obtain ⟨ND, hND⟩ : ∃ ND, ND = D.length := ⟨_, rfl⟩
        have HND := Aside0.mk hND
        have hNDB : (ND : Int) ≤ 8192 := by
          have h1 := HAA.out.perm.length_eq
          have h2 : ((Ls.take i).filter (isOver tz)).length ≤ (Ls.take i).length := List.length_filter_le _ _
          rw [List.length_take] at h2
          have := HL.out
          omega
        rw [← hND] at hv6
        have HLN : Aside0 ((D.length + 1) * 16 ≤ 140737488355328) := ⟨by rw [← hND]; omega⟩
        subst hv6
        clear g HFN hND
        go_wp2_with ((with_reducible refine gate_builtin (b := .append) (xs := #[.tmp 49, .tmp 51]) rfl ?_); at_builtin; refine Kd.R_append kT (w0 := w1) w1.heap.size rfl (.tmp 49) (.tmp 51) 37 56 (.agg #[.int .u64 0, .int .u64 0]) 16 rfl Try.underlying37 info56 rfl (by decide) (by decide) (.slice A6 ND c6) D (ti, ta) [.int .u64 ti, .int .u64 ta] (fun k => (if k < wa.heap.size then f2 k else 0) = 0) (fun _ => False) rfl rfl (kT_M _ _ _ _) (fun _ h => h.elim) (fun k hk => by rw [if_neg (by omega)]) (RF.mine HAA.out.due) HAA.out.bel HAA.out.bel.size HLN.out ?_; intro v5 w5 ho hb hg hat; have HII := Aside0.mk (ins_start HAA.out HF2.out HBA.out HBT.out HF1.out.1 HND.out ho hb hg); clear ho hb hg hat)
        obtain ⟨b, c5, f5, hv5, hI5⟩ := HII.out
        subst hv5
        have HI5 := Aside0.mk hI5
        clear hI5 HII e0 e1 b2
        go_loopw [10] (fun v10 wq => ∃ k : Nat, k ≤ ND ∧ v10 = .int .i64 k ∧ Aside0 (InsI w1 wq f5 b ND c5 B (ti, ta) u7 ((Ls.take (i + 1)).filter (isStay tz)) D k)) (fun v10 _ => (intOf v10).toNat)
        case atStart => exact ⟨ND, Nat.le_refl _, rfl, HI5⟩
        case round =>
          clear HI5
          obtain ⟨k, hk, rfl, HI⟩ := hrel
          have e0 := (blk_cell HI.out.box 0).trans rfl
          have e1 := (blk_cell HI.out.box 1).trans rfl
          have HKD : Aside0 (k ≤ D.length) := ⟨by have := HND.out; omega⟩
          by_cases hk0 : 0 < k
          · obtain ⟨q, rfl⟩ : ∃ q, k = q + 1 := ⟨k - 1, by omega⟩
            have HQL : Aside0 (q < D.length) := ⟨by have := HND.out; omega⟩
            obtain ⟨y, hd⟩ := HI.out.due
            have hqd := kt_cells hd q (by rw [mid_len HKD.out]; have := HQL.out; omega)
            rw [mid_get HKD.out (by omega)] at hqd
            have hqk := kt_cells hd (q + 1) (by rw [mid_len HKD.out]; have := HQL.out; omega)
            obtain ⟨⟨q0, q1⟩, _⟩ := hqd
            obtain ⟨⟨x0, x1⟩, y0, y1⟩ := hqk
            have hwq : wrap64 (q : Int) = (q : Int) := by unfold wrap64; omega
            have hqn : q < ND + 1 := by omega
            have hqn3 : (q : Int) < (ND : Int) + 1 := by omega
            have hqn2 : q + 1 < ND + 1 := by omega
            obtain ⟨⟨di, da⟩, hdm⟩ : ∃ t, t = timN D q := ⟨_, rfl⟩
            rw [← hdm] at q0 q1
            simp only at q0 q1
            have HDM := Aside0.mk hdm
            have HD := Aside0.mk HI.out.drew
            clear hdm hd hk0
            by_cases hgt : ta < da
            · have b3 : decide (da > ta) = true := decide_eq_true hgt
              have HDN : Aside0 (InsI w1 ((wr.drew.setCell ⟨b, (q + 1) * 2, none⟩ (.int .u64 di)).setCell ⟨b, (q + 1) * 2 + 1, none⟩ (.int .u64 da)) f5 b ND c5 B (ti, ta) u7 ((Ls.take (i + 1)).filter (isStay tz)) D q) := ⟨by
                have h := HD.out.down HQL.out (by rw [← HDM.out]; exact hgt)
                rw [← HDM.out] at h
                exact h⟩
              clear hgt HI HD
              go_upto_region 14 with (fail)
              refine start_ (n := 13) (S := fun w' => w'.cell? ⟨b, q * 2 + 1, none⟩ = some (.int .u64 da) ∧ w'.cell? ⟨B, 1, none⟩ = some (.int .u64 ta)) (ds := []) #[false, false, false, false, false, false, false, false, false, false, false, false, false] (by kernel_rfl) rfl rfl ⟨q1, e1⟩ (fun hHeld => ?_)
              refine pure_ (i := 0) (N := some 53) (v := ?_) (a' := ?_) #[true, false, false, false, false, false, false, false, false, false, false, false, false] rfl rfl (by kernel_rfl) (fun _ _ _ h => h) (Or.inl ⟨by rfl, ?_⟩) ?_ ?_
              rotate_left
              · intro w'
                go_simp
                with_reducible rfl
              rotate_left
              · simp only [Act.put, List.setIfInBounds_toArray, List.set_cons_zero, List.set_cons_succ, i64_w, i32_w]
                rfl
              refine pure_ (i := 1) (N := some 54) (v := ?_) (a' := ?_) #[true, true, false, false, false, false, false, false, false, false, false, false, false] rfl rfl (by kernel_rfl) (fun _ _ _ h => h) (Or.inl ⟨by rfl, ?_⟩) ?_ ?_
              rotate_left
              · intro w'
                go_simp
                with_reducible rfl
              rotate_left
              · simp only [Act.put, List.setIfInBounds_toArray, List.set_cons_zero, List.set_cons_succ, i64_w, i32_w]
                rfl
              refine pure_ (i := 2) (N := some 55) (v := ?_) (a' := ?_) #[true, true, true, false, false, false, false, false, false, false, false, false, false] rfl rfl (by kernel_rfl) (fun _ _ _ h => h) (Or.inl ⟨by rfl, ?_⟩) ?_ ?_
              rotate_left
              · intro w'
                go_simp
                with_reducible rfl
              rotate_left
              · simp only [Act.put, List.setIfInBounds_toArray, List.set_cons_zero, List.set_cons_succ, i64_w, i32_w]
                rfl
              refine pure_ (i := 3) (N := some 56) (v := ?_) (a' := ?_) #[true, true, true, true, false, false, false, false, false, false, false, false, false] rfl rfl (by kernel_rfl) (fun _ _ _ h => h) (Or.inl ⟨by rfl, ?_⟩) ?_ ?_
              rotate_left
              · intro w'
                go_simp
                with_reducible rfl
              rotate_left
              · simp only [Act.put, List.setIfInBounds_toArray, List.set_cons_zero, List.set_cons_succ, i64_w, i32_w]
                rfl
              refine pure_ (i := 4) (N := some 57) (v := ?_) (a' := ?_) #[true, true, true, true, true, false, false, false, false, false, false, false, false] rfl rfl (by kernel_rfl) (fun _ _ _ h => h) (Or.inl ⟨by rfl, ?_⟩) ?_ ?_
              rotate_left
              · intro w'
                go_simp
                with_reducible rfl
              rotate_left
              · simp only [Act.put, List.setIfInBounds_toArray, List.set_cons_zero, List.set_cons_succ, i64_w, i32_w]
                rfl
              refine pure_ (i := 5) (N := some 58) (v := ?_) (a' := ?_) #[true, true, true, true, true, true, false, false, false, false, false, false, false] rfl rfl (by kernel_rfl) (fun _ _ _ h => h) (Or.inl ⟨by rfl, ?_⟩) ?_ ?_
              rotate_left
              · intro w'
                go_simp
                with_reducible rfl
              rotate_left
              · simp only [Act.put, List.setIfInBounds_toArray, List.set_cons_zero, List.set_cons_succ, i64_w, i32_w]
                rfl
              refine pure_ (i := 6) (N := some 59) (v := ?_) (a' := ?_) #[true, true, true, true, true, true, true, false, false, false, false, false, false] rfl rfl (by kernel_rfl) (fun _ _ _ h => h) (Or.inl ⟨by rfl, ?_⟩) ?_ ?_
              rotate_left
              · intro w'
                go_simp
                with_reducible rfl
              rotate_left
              · simp only [Act.put, List.setIfInBounds_toArray, List.set_cons_zero, List.set_cons_succ, i64_w, i32_w]
                rfl
              refine pure_ (i := 7) (N := some 60) (v := ?_) (a' := ?_) #[true, true, true, true, true, true, true, true, false, false, false, false, false] rfl rfl (by kernel_rfl) (fun _ _ _ h => h) (Or.inl ⟨by rfl, ?_⟩) ?_ ?_
              rotate_left
              · intro w'
                go_simp
                with_reducible rfl
              rotate_left
              · simp only [Act.put, List.setIfInBounds_toArray, List.set_cons_zero, List.set_cons_succ, i64_w, i32_w]
                rfl
              refine pure_ (i := 9) (N := some 62) (v := ?_) (a' := ?_) #[true, true, true, true, true, true, true, true, false, true, false, false, false] rfl rfl (by kernel_rfl) (fun _ _ _ h => h) (Or.inl ⟨by rfl, ?_⟩) ?_ ?_
              rotate_left
              · intro w'
                go_simp
                with_reducible rfl
              rotate_left
              · simp only [Act.put, List.setIfInBounds_toArray, List.set_cons_zero, List.set_cons_succ, i64_w, i32_w]
                rfl
              refine take_ (i := 8) (N := some 61) (v := ?_) (a' := ?_) #[true, true, true, true, true, true, true, true, true, true, false, false, false] rfl rfl (by kernel_rfl) (fun _ _ _ h => h) (Or.inl ⟨by rfl, ?_⟩) hHeld ?_ ?_
              rotate_left
              · rintro w' ⟨s0, s1⟩
                go_simp
                with_reducible rfl
              rotate_left
              · simp only [Act.put, List.setIfInBounds_toArray, List.set_cons_zero, List.set_cons_succ, i64_w, i32_w]
                rfl
              refine take_ (i := 10) (N := some 63) (v := ?_) (a' := ?_) #[true, true, true, true, true, true, true, true, true, true, true, false, false] rfl rfl (by kernel_rfl) (fun _ _ _ h => h) (Or.inl ⟨by rfl, ?_⟩) hHeld ?_ ?_
              rotate_left
              · rintro w' ⟨s0, s1⟩
                go_simp
                with_reducible rfl
              rotate_left
              · simp only [Act.put, List.setIfInBounds_toArray, List.set_cons_zero, List.set_cons_succ, i64_w, i32_w]
                rfl
              refine pure_ (i := 11) (N := some 64) (v := ?_) (a' := ?_) #[true, true, true, true, true, true, true, true, true, true, true, true, false] rfl rfl (by kernel_rfl) (fun _ _ _ h => h) (Or.inl ⟨by rfl, ?_⟩) ?_ ?_
              rotate_left
              · intro w'
                go_simp
                with_reducible rfl
              rotate_left
              · simp only [Act.put, List.setIfInBounds_toArray, List.set_cons_zero, List.set_cons_succ, i64_w, i32_w]
                rfl
              refine pure_ (i := 12) (N := some 65) (v := ?_) (a' := ?_) #[true, true, true, true, true, true, true, true, true, true, true, true, true] rfl rfl (by kernel_rfl) (fun _ _ _ h => h) (Or.inl ⟨by rfl, ?_⟩) ?_ ?_
              rotate_left
              · intro w'
                go_simp
                with_reducible rfl
              rotate_left
              · simp only [Act.put, List.setIfInBounds_toArray, List.set_cons_zero, List.set_cons_succ, i64_w, i32_w]
                rfl
              refine done_ (by kernel_rfl) ?_
              go_wp2_with fail
              go_roundw
              case rel => exact ⟨q, by omega, by go_num, HDN⟩
              case measure => simp [intOf]
            · have b3 : decide (da > ta) = false := decide_eq_false hgt
              have HK0 : Aside0 (q + 1 = 0 ∨ (timN D (q + 1 - 1)).2 ≤ (ti, ta).2) := ⟨.inr (by rw [Nat.add_sub_cancel, ← HDM.out]; show da ≤ ta; omega)⟩
              clear hgt
              go_upto_region 14 with (fail)
              refine start_ (n := 13) (S := fun w' => w'.cell? ⟨b, q * 2 + 1, none⟩ = some (.int .u64 da) ∧ w'.cell? ⟨B, 1, none⟩ = some (.int .u64 ta)) (ds := []) #[false, false, false, false, false, false, false, false, false, false, false, false, false] (by kernel_rfl) rfl rfl ⟨q1, e1⟩ (fun hHeld => ?_)
              refine pure_ (i := 0) (N := some 53) (v := ?_) (a' := ?_) #[true, false, false, false, false, false, false, false, false, false, false, false, false] rfl rfl (by kernel_rfl) (fun _ _ _ h => h) (Or.inl ⟨by rfl, ?_⟩) ?_ ?_
              rotate_left
              · intro w'
                go_simp
                with_reducible rfl
              rotate_left
              · simp only [Act.put, List.setIfInBounds_toArray, List.set_cons_zero, List.set_cons_succ, i64_w, i32_w]
                rfl
              refine pure_ (i := 1) (N := some 54) (v := ?_) (a' := ?_) #[true, true, false, false, false, false, false, false, false, false, false, false, false] rfl rfl (by kernel_rfl) (fun _ _ _ h => h) (Or.inl ⟨by rfl, ?_⟩) ?_ ?_
              rotate_left
              · intro w'
                go_simp
                with_reducible rfl
              rotate_left
              · simp only [Act.put, List.setIfInBounds_toArray, List.set_cons_zero, List.set_cons_succ, i64_w, i32_w]
                rfl
              refine pure_ (i := 2) (N := some 55) (v := ?_) (a' := ?_) #[true, true, true, false, false, false, false, false, false, false, false, false, false] rfl rfl (by kernel_rfl) (fun _ _ _ h => h) (Or.inl ⟨by rfl, ?_⟩) ?_ ?_
              rotate_left
              · intro w'
                go_simp
                with_reducible rfl
              rotate_left
              · simp only [Act.put, List.setIfInBounds_toArray, List.set_cons_zero, List.set_cons_succ, i64_w, i32_w]
                rfl
              refine pure_ (i := 3) (N := some 56) (v := ?_) (a' := ?_) #[true, true, true, true, false, false, false, false, false, false, false, false, false] rfl rfl (by kernel_rfl) (fun _ _ _ h => h) (Or.inl ⟨by rfl, ?_⟩) ?_ ?_
              rotate_left
              · intro w'
                go_simp
                with_reducible rfl
              rotate_left
              · simp only [Act.put, List.setIfInBounds_toArray, List.set_cons_zero, List.set_cons_succ, i64_w, i32_w]
                rfl
              refine pure_ (i := 4) (N := some 57) (v := ?_) (a' := ?_) #[true, true, true, true, true, false, false, false, false, false, false, false, false] rfl rfl (by kernel_rfl) (fun _ _ _ h => h) (Or.inl ⟨by rfl, ?_⟩) ?_ ?_
              rotate_left
              · intro w'
                go_simp
                with_reducible rfl
              rotate_left
              · simp only [Act.put, List.setIfInBounds_toArray, List.set_cons_zero, List.set_cons_succ, i64_w, i32_w]
                rfl
              refine pure_ (i := 5) (N := some 58) (v := ?_) (a' := ?_) #[true, true, true, true, true, true, false, false, false, false, false, false, false] rfl rfl (by kernel_rfl) (fun _ _ _ h => h) (Or.inl ⟨by rfl, ?_⟩) ?_ ?_
              rotate_left
              · intro w'
                go_simp
                with_reducible rfl
              rotate_left
              · simp only [Act.put, List.setIfInBounds_toArray, List.set_cons_zero, List.set_cons_succ, i64_w, i32_w]
                rfl
              refine pure_ (i := 6) (N := some 59) (v := ?_) (a' := ?_) #[true, true, true, true, true, true, true, false, false, false, false, false, false] rfl rfl (by kernel_rfl) (fun _ _ _ h => h) (Or.inl ⟨by rfl, ?_⟩) ?_ ?_
              rotate_left
              · intro w'
                go_simp
                with_reducible rfl
              rotate_left
              · simp only [Act.put, List.setIfInBounds_toArray, List.set_cons_zero, List.set_cons_succ, i64_w, i32_w]
                rfl
              refine pure_ (i := 7) (N := some 60) (v := ?_) (a' := ?_) #[true, true, true, true, true, true, true, true, false, false, false, false, false] rfl rfl (by kernel_rfl) (fun _ _ _ h => h) (Or.inl ⟨by rfl, ?_⟩) ?_ ?_
              rotate_left
              · intro w'
                go_simp
                with_reducible rfl
              rotate_left
              · simp only [Act.put, List.setIfInBounds_toArray, List.set_cons_zero, List.set_cons_succ, i64_w, i32_w]
                rfl
              refine pure_ (i := 9) (N := some 62) (v := ?_) (a' := ?_) #[true, true, true, true, true, true, true, true, false, true, false, false, false] rfl rfl (by kernel_rfl) (fun _ _ _ h => h) (Or.inl ⟨by rfl, ?_⟩) ?_ ?_
              rotate_left
              · intro w'
                go_simp
                with_reducible rfl
              rotate_left
              · simp only [Act.put, List.setIfInBounds_toArray, List.set_cons_zero, List.set_cons_succ, i64_w, i32_w]
                rfl
              refine take_ (i := 8) (N := some 61) (v := ?_) (a' := ?_) #[true, true, true, true, true, true, true, true, true, true, false, false, false] rfl rfl (by kernel_rfl) (fun _ _ _ h => h) (Or.inl ⟨by rfl, ?_⟩) hHeld ?_ ?_
              rotate_left
              · rintro w' ⟨s0, s1⟩
                go_simp
                with_reducible rfl
              rotate_left
              · simp only [Act.put, List.setIfInBounds_toArray, List.set_cons_zero, List.set_cons_succ, i64_w, i32_w]
                rfl
              refine take_ (i := 10) (N := some 63) (v := ?_) (a' := ?_) #[true, true, true, true, true, true, true, true, true, true, true, false, false] rfl rfl (by kernel_rfl) (fun _ _ _ h => h) (Or.inl ⟨by rfl, ?_⟩) hHeld ?_ ?_
              rotate_left
              · rintro w' ⟨s0, s1⟩
                go_simp
                with_reducible rfl
              rotate_left
              · simp only [Act.put, List.setIfInBounds_toArray, List.set_cons_zero, List.set_cons_succ, i64_w, i32_w]
                rfl
              refine pure_ (i := 11) (N := some 64) (v := ?_) (a' := ?_) #[true, true, true, true, true, true, true, true, true, true, true, true, false] rfl rfl (by kernel_rfl) (fun _ _ _ h => h) (Or.inl ⟨by rfl, ?_⟩) ?_ ?_
              rotate_left
              · intro w'
                go_simp
                with_reducible rfl
              rotate_left
              · simp only [Act.put, List.setIfInBounds_toArray, List.set_cons_zero, List.set_cons_succ, i64_w, i32_w]
                rfl
              refine pure_ (i := 12) (N := some 65) (v := ?_) (a' := ?_) #[true, true, true, true, true, true, true, true, true, true, true, true, true] rfl rfl (by kernel_rfl) (fun _ _ _ h => h) (Or.inl ⟨by rfl, ?_⟩) ?_ ?_
              rotate_left
              · intro w'
                go_simp
                with_reducible rfl
              rotate_left
              · simp only [Act.put, List.setIfInBounds_toArray, List.set_cons_zero, List.set_cons_succ, i64_w, i32_w]
                rfl
              refine done_ (by kernel_rfl) ?_
              go_wp2_with fail
              have HNX := Aside0.mk (HD.out.done HKD.out HK0.out HAA.out.perm HAA.out.pw HS.out HIL.out HTM.out HF1.out.2)
              clear HD HKD HK0 HAA HF1 HBT HI q0 q1 y0 y1 e0 e1
              go_roundw
              case rel => exact ⟨i + 1, by omega, by go_num, ⟨_, _, HNX.out⟩⟩
              case measure => simp [intOf]; omega
          · obtain rfl : k = 0 := by omega
            obtain ⟨y, hd⟩ := HI.out.due
            have hqk := kt_cells hd 0 (by rw [mid_len HKD.out]; omega)
            obtain ⟨⟨q0, q1⟩, y0, y1⟩ := hqk
            simp only [Nat.zero_mul, Nat.zero_add] at q0 q1 y0 y1
            have hkn : 0 < ND + 1 := by omega
            have HK0 : Aside0 (0 = 0 ∨ (timN D (0 - 1)).2 ≤ (ti, ta).2) := ⟨.inl rfl⟩
            have HD := Aside0.mk HI.out.drew
            clear hd hk0
            go_upto_region 14 with (fail)
            refine start_ (n := 13) (S := fun w' => True) (ds := []) #[false, false, false, false, false, false, false, false, false, false, false, false, false] (by kernel_rfl) rfl rfl trivial (fun hHeld => ?_)
            refine pure_ (i := 0) (N := some 53) (v := ?_) (a' := ?_) #[true, false, false, false, false, false, false, false, false, false, false, false, false] rfl rfl (by kernel_rfl) (fun _ _ _ h => h) (Or.inl ⟨by rfl, ?_⟩) ?_ ?_
            rotate_left
            · intro w'
              go_simp
              with_reducible rfl
            rotate_left
            · simp only [Act.put, List.setIfInBounds_toArray, List.set_cons_zero, List.set_cons_succ, i64_w, i32_w]
              rfl
            refine pure_ (i := 1) (N := some 54) (v := ?_) (a' := ?_) #[true, true, false, false, false, false, false, false, false, false, false, false, false] rfl rfl (by kernel_rfl) (fun _ _ _ h => h) (Or.inl ⟨by rfl, ?_⟩) ?_ ?_
            rotate_left
            · intro w'
              go_simp
              with_reducible rfl
            rotate_left
            · simp only [Act.put, List.setIfInBounds_toArray, List.set_cons_zero, List.set_cons_succ, i64_w, i32_w]
              rfl
            refine pure_ (i := 2) (N := some 55) (v := ?_) (a' := ?_) #[true, true, true, false, false, false, false, false, false, false, false, false, false] rfl rfl (by kernel_rfl) (fun _ _ _ h => h) (Or.inl ⟨by rfl, ?_⟩) ?_ ?_
            rotate_left
            · intro w'
              go_simp
              with_reducible rfl
            rotate_left
            · simp only [Act.put, List.setIfInBounds_toArray, List.set_cons_zero, List.set_cons_succ, i64_w, i32_w]
              rfl
            refine pure_ (i := 3) (N := some 56) (v := undef) (a' := ?_) #[true, true, true, true, false, false, false, false, false, false, false, false, false] rfl rfl (by kernel_rfl) (fun _ _ _ h => h) (Or.inr ⟨by rfl, rfl⟩) ?_ ?_
            rotate_left
            · simp only [Act.put, List.setIfInBounds_toArray, List.set_cons_zero, List.set_cons_succ, i64_w, i32_w]
              rfl
            refine pure_ (i := 4) (N := some 57) (v := undef) (a' := ?_) #[true, true, true, true, true, false, false, false, false, false, false, false, false] rfl rfl (by kernel_rfl) (fun _ _ _ h => h) (Or.inr ⟨by rfl, rfl⟩) ?_ ?_
            rotate_left
            · simp only [Act.put, List.setIfInBounds_toArray, List.set_cons_zero, List.set_cons_succ, i64_w, i32_w]
              rfl
            refine pure_ (i := 5) (N := some 58) (v := undef) (a' := ?_) #[true, true, true, true, true, true, false, false, false, false, false, false, false] rfl rfl (by kernel_rfl) (fun _ _ _ h => h) (Or.inr ⟨by rfl, rfl⟩) ?_ ?_
            rotate_left
            · simp only [Act.put, List.setIfInBounds_toArray, List.set_cons_zero, List.set_cons_succ, i64_w, i32_w]
              rfl
            refine pure_ (i := 6) (N := some 59) (v := undef) (a' := ?_) #[true, true, true, true, true, true, true, false, false, false, false, false, false] rfl rfl (by kernel_rfl) (fun _ _ _ h => h) (Or.inr ⟨by rfl, rfl⟩) ?_ ?_
            rotate_left
            · simp only [Act.put, List.setIfInBounds_toArray, List.set_cons_zero, List.set_cons_succ, i64_w, i32_w]
              rfl
            refine pure_ (i := 7) (N := some 60) (v := undef) (a' := ?_) #[true, true, true, true, true, true, true, true, false, false, false, false, false] rfl rfl (by kernel_rfl) (fun _ _ _ h => h) (Or.inr ⟨by rfl, rfl⟩) ?_ ?_
            rotate_left
            · simp only [Act.put, List.setIfInBounds_toArray, List.set_cons_zero, List.set_cons_succ, i64_w, i32_w]
              rfl
            refine pure_ (i := 8) (N := some 61) (v := undef) (a' := ?_) #[true, true, true, true, true, true, true, true, true, false, false, false, false] rfl rfl (by kernel_rfl) (fun _ _ _ h => h) (Or.inr ⟨by rfl, rfl⟩) ?_ ?_
            rotate_left
            · simp only [Act.put, List.setIfInBounds_toArray, List.set_cons_zero, List.set_cons_succ, i64_w, i32_w]
              rfl
            refine pure_ (i := 9) (N := some 62) (v := undef) (a' := ?_) #[true, true, true, true, true, true, true, true, true, true, false, false, false] rfl rfl (by kernel_rfl) (fun _ _ _ h => h) (Or.inr ⟨by rfl, rfl⟩) ?_ ?_
            rotate_left
            · simp only [Act.put, List.setIfInBounds_toArray, List.set_cons_zero, List.set_cons_succ, i64_w, i32_w]
              rfl
            refine pure_ (i := 10) (N := some 63) (v := undef) (a' := ?_) #[true, true, true, true, true, true, true, true, true, true, true, false, false] rfl rfl (by kernel_rfl) (fun _ _ _ h => h) (Or.inr ⟨by rfl, rfl⟩) ?_ ?_
            rotate_left
            · simp only [Act.put, List.setIfInBounds_toArray, List.set_cons_zero, List.set_cons_succ, i64_w, i32_w]
              rfl
            refine pure_ (i := 11) (N := some 64) (v := undef) (a' := ?_) #[true, true, true, true, true, true, true, true, true, true, true, true, false] rfl rfl (by kernel_rfl) (fun _ _ _ h => h) (Or.inr ⟨by rfl, rfl⟩) ?_ ?_
            rotate_left
            · simp only [Act.put, List.setIfInBounds_toArray, List.set_cons_zero, List.set_cons_succ, i64_w, i32_w]
              rfl
            refine pure_ (i := 12) (N := some 65) (v := ?_) (a' := ?_) #[true, true, true, true, true, true, true, true, true, true, true, true, true] rfl rfl (by kernel_rfl) (fun _ _ _ h => h) (Or.inl ⟨by rfl, ?_⟩) ?_ ?_
            rotate_left
            · intro w'
              go_simp
              with_reducible rfl
            rotate_left
            · simp only [Act.put, List.setIfInBounds_toArray, List.set_cons_zero, List.set_cons_succ, i64_w, i32_w]
              rfl
            refine done_ (by kernel_rfl) ?_
            go_wp2_with fail
            have HNX := Aside0.mk (HD.out.done HKD.out HK0.out HAA.out.perm HAA.out.pw HS.out HIL.out HTM.out HF1.out.2)
            clear HD HKD HK0 HAA HF1 HBT HI q0 q1 y0 y1 e0 e1
            go_roundw
            case rel => exact ⟨i + 1, by omega, by go_num, ⟨_, _, HNX.out⟩⟩
            case measure => simp [intOf]; omega
    · obtain rfl : i = N := by omega
      obtain ⟨A6, c6, hv6⟩ := Kd.R_slice HAD.out.due
      obtain ⟨A7, c7, hv7⟩ := Kd.R_slice HAD.out.rest
      have HSD : Aside0 (sorted (Ls.filter (isOver tz)) = D) := ⟨by
        have hp := HAD.out.perm
        rw [HN.out, List.take_length] at hp
        exact sorted_eq hp.symm HAD.out.pw⟩
      have hrr := HAD.out.rest
      rw [hv7, HN.out, List.take_length] at hrr
      have hCD := (Kd.R_reads' (hv6 ▸ HAD.out.due)).2.2
      obtain ⟨ND, hND⟩ : ∃ ND, ND = D.length := ⟨_, rfl⟩
      have HND := Aside0.mk hND
      have hNDB : (ND : Int) ≤ 8192 := by
        have h1 := HAD.out.perm.length_eq
        have h2 : ((Ls.take i).filter (isOver tz)).length ≤ (Ls.take i).length := List.length_filter_le _ _
        rw [List.length_take] at h2
        have := HL.out
        omega
      obtain ⟨N7, hN7⟩ : ∃ N7, N7 = ((Ls.take i).filter (isStay tz)).length := ⟨_, rfl⟩
      have hN7' : ((Ls.take i).filter (isStay tz)).length = (Ls.filter (isStay tz)).length := by rw [HN.out, List.take_length]
      rw [← hND] at hv6 hCD
      rw [← hN7] at hv7
      rw [← hN7', ← hN7] at hrr
      obtain ⟨F', hF1, hF2, hF3⟩ := HR1.out.1.close HAD.out.bel (Kd.R_mono hrr (fun _ _ => trivial))
      have hbw := (HAD.out.bel.block r (blk_lt HBL.out)).trans HBL.out
      have y0 := blk_frozen hbw 0
      have HF1 := Aside0.mk hF1
      have HF2 := Aside0.mk hF2
      have HF3 := Aside0.mk (HR1.out.2.trans hF3 (fun k hk => .inl hk))
      have HSZ3 : Aside0 (w.heap.size ≤ (wr.setCell ⟨r, 0, none⟩ (.slice A7 N7 c7)).heap.size) := ⟨by have := HAD.out.bel.size; have := HSZ.out; simp [World.setCell]; omega⟩
      have hCD3 : CT (wr.setCell ⟨r, 0, none⟩ (.slice A7 N7 c7)) A6 ND D := by
        have h1 := Kd.R_set HAD.out.due hbw (by decide) 0 (.slice A7 N7 c7)
        rw [hv6] at h1
        have h2 := (Kd.R_reads' h1).2.2
        rw [← hND] at h2
        exact h2
      have HCD := Aside0.mk hCD3
      subst hv6 hv7
      clear hbw hF1 hF2 hF3 hCD hCD3 hrr hND hN7 hN7' HAD
      go_wp2_with fail
      obtain ⟨w3, hw3⟩ : ∃ w3, w3 = wr.setCell ⟨r, 0, none⟩ (.slice A7 N7 c7) := ⟨_, rfl⟩
      rw [← hw3] at HF1 HF3 HCD HSZ3
      rw [← hw3]
      clear hw3 d0 y0
      have HJ0 : Aside0 (Kd.R (Kd.int .u64) 22 w3 w3.heap.size (fun _ => True) (.slice none 0 0) ((D.take 0).map (·.1)) ∧ Below w3.heap.size w3 w3) := ⟨Kd.R_nil _ _ _ _ _, Below.refl _ _⟩
      go_loopw [12, 11] (fun v12 v11 wq => ∃ j : Nat, j ≤ ND ∧ v12 = .int .i64 j ∧ Aside0 (Kd.R (Kd.int .u64) 22 wq w3.heap.size (fun _ => True) v11 ((D.take j).map (·.1)) ∧ Below w3.heap.size w3 wq)) (fun v12 _ _ => ND - (intOf v12).toNat)
      case atStart => exact ⟨0, Nat.zero_le _, rfl, HJ0⟩
      case round =>
        clear HJ0
        obtain ⟨j, hj, rfl, HJ⟩ := hrel
        by_cases hjl : j < ND
        · obtain ⟨ad, hAd, h0, h1⟩ := tim_at (Kd.C_below HCD.out HJ.out.2) j hjl
          subst hAd
          obtain ⟨⟨ti, ta⟩, htm⟩ : ∃ t, t = timN D j := ⟨_, rfl⟩
          rw [← htm] at h0
          simp only at h0
          have HM : Aside0 ((D.take (j + 1)).map (·.1) = (D.take j).map (·.1) ++ [ti]) := ⟨by rw [take_succ' D j (by have := HND.out; omega), List.map_append, ← htm]; rfl⟩
          have HLN : Aside0 ((((D.take j).map (·.1)).length + 1) * 8 ≤ 140737488355328) := ⟨by rw [List.length_map, List.length_take]; omega⟩
          clear htm h1
          go_wp2_with ((with_reducible refine gate_builtin (b := .append) (xs := #[.tmp 90, .tmp 96]) rfl ?_); at_builtin; refine Kd.R_append (Kd.int .u64) (w0 := w3) w3.heap.size rfl (.tmp 90) (.tmp 96) 42 22 (.int .u64 0) 8 rfl Try.underlying42 info22 rfl (by decide) (by decide) u11 ((D.take j).map (·.1)) ti [.int .u64 ti] (fun _ => True) (fun _ => False) rfl rfl rfl (fun _ h => h.elim) (fun _ _ => trivial) HJ.out.1 HJ.out.2 HJ.out.2.size HLN.out ?_; intro v5 w5 ho hb hg hat; have HNX : Aside0 (Kd.R (Kd.int .u64) 22 w5 w3.heap.size (fun _ => True) v5 ((D.take (j + 1)).map (·.1)) ∧ Below w3.heap.size w3 w5) := ⟨by rw [HM.out]; exact ⟨ho, hb⟩⟩; clear ho hb hg hat)
          clear HJ HM HLN h0
          go_roundw
          case rel => exact ⟨j + 1, by omega, by go_num, HNX⟩
          case measure => simp [intOf]; omega
        · obtain rfl : j = ND := by omega
          have HE : Aside0 ((D.take j).map (·.1) = (sorted (Ls.filter (isOver tz))).map (·.1)) := ⟨by rw [HND.out, List.take_length, HSD.out]⟩
          go_wp2_with fail
          go_ret2
          refine ⟨u11, rfl, F', HF1.out.kept (KeptW.of_below (F := fun _ => False) HJ.out.2) (fun _ _ h => h), fun k hk => by have h := HF2.out k hk; rw [HSZ.out] at h; exact h, HF3.out.trans (KeptW.of_below (F := fun _ => False) HJ.out.2) (fun _ h => h.elim), ?_⟩
          rw [← HE.out]
          exact Kd.R_mono (Kd.R_lower (Kd.R_bound HJ.out.1) HSZ3.out) (fun k hk h => by have := HF1.out.lt k h; have := hk.2.1; omega)
theorem ref_Advance.back {w : World} {F : Nat → Prop} {r : Nat} {now : Int} {Ls : List TimT} (h : Rst w F r now Ls) (tz : Int) (hlt : tz < now) :
    Calls Try.prog 24 #[.pointer (some ⟨r, 0, none⟩), .int .u64 tz] w fun e w' => e = .returned (.tuple #[.slice none 0 0, .int .i64 70]) ∧ w' = w := by
  obtain ⟨A, c, hb, _, _⟩ := h.view
  have d1 := (blk_cell hb 1).trans rfl
  have b1 : decide (tz < now) = true := decide_eq_true hlt
  clear h hb hlt
  go_enter Try.func24, Try.ntmps24
  go_wp2_with fail
  go_ret2
  exact ⟨rfl, rfl⟩
end Go.Proofs.Ytkgdlmgodpgcoaa.Hand
