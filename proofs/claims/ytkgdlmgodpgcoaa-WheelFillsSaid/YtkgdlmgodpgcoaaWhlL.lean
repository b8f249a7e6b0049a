/- Wheel: slices.DeleteFunc on a row of timers of the call's own, with the closure that looks for a number. -/
import Derived.Test.YtkgdlmgodpgcoaaWhlJ
import Derived.Lib.SliceRun
namespace Go.Proofs.Ytkgdlmgodpgcoaa.Hand
open Go.RowKit Go.Maps Go.Proofs.YtkgdlmgodpgcoaaW.PrintWords Go.Proofs.YtkgdlmgodpgcoaaW.PrintLast Go.Proofs.YtkgdlmgodpgcoaaW.PrintMore
open Go.Sort
set_option linter.unusedVariables false
set_option linter.unusedSimpArgs false

/-- A timer's two cells. -/
def At2 (cur : Array Value) (t : Nat) (x : TimT) : Prop := cur[t * 2]? = some (.int .u64 x.1) ∧ cur[t * 2 + 1]? = some (.int .u64 x.2)
theorem tr_open {w : World} {base q b n c : Nat} {f : Nat → Nat} {l : List TimT} (h : TR w base f q (.slice (some ⟨b, 0, none⟩) n c) l) : n = l.length ∧ l.length ≤ c ∧ c ≤ maxLen ∧ base ≤ b ∧ f b = q ∧ ∃ cur, w.heap[b]? = some (.cells cur 84 (0, 0)) ∧ cur.size = c * 2 ∧ ∀ t, t < l.length → At2 cur t (timN l t) := by
  obtain ⟨h0, inner, ho, hr⟩ := h
  rcases ho.2 with ⟨e, _⟩ | ⟨g, cap, cur, e, hbase, hb, h1, h2, h3, h4⟩
  · injection e with e1; cases e1
  · injection e with e1 e2 e3
    injection e1 with e1
    injection e1 with e1
    subst e1 e3
    refine ⟨e2, h1, h2, hbase, h0 _ rfl, cur, hb, h3, fun t ht => ?_⟩
    have hin := reps_flat hr
    have hp : l.toArray[t]! = timN l t := by
      rw [getElem!_pos _ t (by simpa using ht)]
      unfold timN
      rw [List.getD_eq_getElem?_getD, List.getElem?_eq_getElem ht]
      simp
    have g0 := flat_get l.toArray t 0 (by simpa using ht) (by decide)
    have g1 := flat_get l.toArray t 1 (by simpa using ht) (by decide)
    rw [hp] at g0 g1
    rw [← hin, ← h4] at g0 g1
    have ht2 : t * 2 + 1 < l.length * 2 := by omega
    rw [List.getElem?_take_of_lt (by show _ < l.length * 2; omega), Array.getElem?_toList] at g0 g1
    exact ⟨g0, g1⟩
theorem tr_mk {w : World} {base q b c : Nat} {f : Nat → Nat} {l : List TimT} {cur : Array Value} (hb : w.heap[b]? = some (.cells cur 84 (0, 0))) (hl : l.length ≤ c) (hc : c ≤ maxLen) (hbase : base ≤ b) (hf : f b = q) (hs : cur.size = c * 2) (ha : ∀ t, t < l.length → At2 cur t (timN l t)) : TR w base f q (.slice (some ⟨b, 0, none⟩) l.length c) l := by
  refine ⟨fun k hk => ?_, (flatK encT 2 l.toArray).toList, ⟨?_, .inr ⟨b, c, cur, rfl, hbase, hb, hl, hc, hs, ?_⟩⟩, flat_reps _ _ _ _⟩
  · have : b = k := by simpa [Value.ownBlock] using hk
    rw [← this]; exact hf
  · simp [kT, Kd.iso, Kd.pair, Kd.int, Kd.scalar]
  · show cur.toList.take (l.length * 2) = _
    apply List.ext_getElem?
    intro t
    by_cases ht : t < l.length * 2
    · have hj : t / 2 < l.length := by omega
      have hp : l.toArray[t / 2]! = timN l (t / 2) := by
        rw [getElem!_pos _ (t / 2) (by simpa using hj)]
        unfold timN
        rw [List.getD_eq_getElem?_getD, List.getElem?_eq_getElem hj]
        simp
      have g := flat_get l.toArray (t / 2) (t % 2) (by simpa using hj) (by omega)
      rw [hp, show t / 2 * 2 + t % 2 = t by omega] at g
      rw [g, List.getElem?_take_of_lt ht, Array.getElem?_toList]
      obtain ⟨a0, a1⟩ := ha (t / 2) hj
      have hc2 : t % 2 = 0 ∨ t % 2 = 1 := by omega
      rcases hc2 with hc2 | hc2
      · rw [hc2, show t = t / 2 * 2 by omega, show t / 2 * 2 / 2 = t / 2 by omega, a0]; rfl
      · rw [hc2, show t = t / 2 * 2 + 1 by omega, show (t / 2 * 2 + 1) / 2 = t / 2 by omega, a1]; rfl
    · rw [List.getElem?_take_eq_none (by omega), List.getElem?_eq_none (by simp; omega)]
theorem At2.set {cur : Array Value} {t i : Nat} {x : TimT} (h : At2 cur t x) (hne : t ≠ i) (a b : Value) : At2 ((cur.setIfInBounds (i * 2) a).setIfInBounds (i * 2 + 1) b) t x := by
  constructor
  · rw [Array.getElem?_setIfInBounds_ne (by omega), Array.getElem?_setIfInBounds_ne (by omega)]; exact h.1
  · rw [Array.getElem?_setIfInBounds_ne (by omega), Array.getElem?_setIfInBounds_ne (by omega)]; exact h.2
theorem At2.here {cur : Array Value} {i : Nat} (hs : i * 2 + 1 < cur.size) (x : TimT) : At2 ((cur.setIfInBounds (i * 2) (.int .u64 x.1)).setIfInBounds (i * 2 + 1) (.int .u64 x.2)) i x := by
  constructor
  · rw [Array.getElem?_setIfInBounds_ne (by omega), Array.getElem?_setIfInBounds_self_of_lt (by omega)]
  · rw [Array.getElem?_setIfInBounds_self_of_lt (by rw [Array.size_setIfInBounds]; exact hs)]
theorem grown_set (w : World) (b o : Nat) (v : Value) : w.grownBy (w.setCell ⟨b, o, none⟩ v) (some b) :=
  ⟨rfl, rfl, rfl, by simp [World.setCell], fun k _ hk => Below.heap_setCell w ⟨b, o, none⟩ v k (fun e => hk (by rw [e]))⟩
theorem blk_setCells {b : Nat} {t : TypeId} : ∀ (vs : List Value) (o : Nat) (cur : Array Value) (w : World), w.heap[b]? = some (.cells cur t (0, 0)) → (w.setCells b o vs).heap[b]? = some (.cells (setMany cur o vs) t (0, 0))
  | [], _, _, _, h => h
  | v :: r, o, cur, w, h => blk_setCells r (o + 1) (cur.setIfInBounds o v) (w.setCell ⟨b, o, none⟩ v) (blk_put h o v rfl)
theorem grown_setCells (b : Nat) : ∀ (vs : List Value) (o : Nat) (w : World), w.grownBy (w.setCells b o vs) (some b)
  | [], _, _ => ⟨rfl, rfl, rfl, Nat.le_refl _, fun _ _ _ => rfl⟩
  | v :: r, o, w => (grown_set w b o v).trans (grown_setCells b r (o + 1) _)
theorem run_clear_T (w : World) (ty : TypeId) (b o n c : Nat) (hn : 0 < n) (hc : ∀ j, j < n * 2 → (w.cell? ⟨b, o + j, none⟩).isSome = true) (hf : ∀ j, j < n * 2 → w.frozen? ⟨b, o + j, none⟩ = false) :
    (Builtin.clear_ #[76] ty #[.slice (some ⟨b, o, none⟩) n c]).run Try.prog w = .ok (.tuple #[]) (w.setCells b o (List.replicate (n * 2) (.int .u64 0))) := by
  have hzc : (Builtin.zeroCells #[.int .u64 0, .int .u64 0] n).toList = List.replicate (n * 2) (.int .u64 0) := by
    simp only [Builtin.zeroCells]
    apply List.ext_getElem
    · simp
    · intro i h1 h2
      have h3 : i % 2 = 0 ∨ i % 2 = 1 := by omega
      simp
      rcases h3 with h3 | h3 <;> rw [h3] <;> rfl
  have hst := run_storeCells_cells (P := Try.prog) b o (List.replicate (n * 2) (.int .u64 0)) 0 w (by simpa using hc) (by simpa using hf) (by intro v hv'; rw [List.eq_of_mem_replicate hv']; rfl)
  simp only [Nat.add_zero] at hst
  obtain ⟨m, rfl⟩ : ∃ m, n = m + 1 := ⟨n - 1, by omega⟩
  have hv := Try.zeroValue84
  simp [Builtin.clear_, run_underlying Try.underlying76, hv]
  rw [show (Value.agg #[Value.int IntKind.u64 0, Value.int IntKind.u64 0]).cells = #[.int .u64 0, .int .u64 0] from rfl, hzc, hst]
  rfl
theorem tr_cells {w : World} {base q b n c : Nat} {f : Nat → Nat} {l : List TimT} (h : TR w base f q (.slice (some ⟨b, 0, none⟩) n c) l) (t : Nat) (ht : t < l.length) : w.cell? ⟨b, t * 2, none⟩ = some (.int .u64 (timN l t).1) ∧ w.cell? ⟨b, t * 2 + 1, none⟩ = some (.int .u64 (timN l t).2) := by
  obtain ⟨_, _, _, _, _, cur, hb, _, ha⟩ := tr_open h
  exact ⟨(blk_cell hb _).trans (ha t ht).1, (blk_cell hb _).trans (ha t ht).2⟩
theorem closure50 (ti ta id : Int) (B : Nat) (W : World) (hB : W.cell? ⟨B, 0, none⟩ = some (.int .u64 id)) : Calls Try.prog 50 #[.agg #[.int .u64 ti, .int .u64 ta], .pointer (some ⟨B, 0, none⟩)] W fun e w' => e = .returned (.bool (ti == id)) ∧ Below W.heap.size W w' := by
  have h1 := pw_cell_below (below_alloc (Below.refl W.heap.size W) (.cells #[.int .u64 ti, .int .u64 ta] 84)) hB
  have d0 := (blk_cell (blk_new W (.cells #[.int .u64 ti, .int .u64 ta] 84 (0, 0))) 0).trans rfl
  clear hB
  go_enter Try.func50, Try.ntmps50
  go_wp2_with fail
  go_ret
  exact ⟨rfl, below_alloc (Below.refl _ _) _⟩
set_option maxHeartbeats 2000000 in
set_option maxRecDepth 100000 in
theorem slices_IndexFunc.calls (w : World) (base q b c B N : Nat) (id : Int) (f : Nat → Nat) (l : List TimT) (h : TR w base f q (.slice (some ⟨b, 0, none⟩) N c) l) (hN : N = l.length) (hl : l.length ≤ 1000000) (hB : w.cell? ⟨B, 0, none⟩ = some (.int .u64 id)) :
    Calls Try.prog 58 #[.slice (some ⟨b, 0, none⟩) N c, .func (.func 50) #[] #[.pointer (some ⟨B, 0, none⟩)]] w fun e w' => (∃ k : Int, e = .returned (.int .i64 k) ∧ ((k = -1 ∧ ∀ j, j < l.length → (timN l j).1 ≠ id) ∨ (∃ i : Nat, i < l.length ∧ k = i ∧ (timN l i).1 = id ∧ ∀ j, j < i → (timN l j).1 ≠ id))) ∧ Below w.heap.size w w' := by
  have HR := Aside0.mk h
  have HN := Aside0.mk hN
  have HB := Aside0.mk hB
  have hNB : N ≤ 1000000 := by omega
  clear h hN hB hl
  go_enter Try.func58, Try.ntmps58
  go_wp2_with fail
  have HI0 : Aside0 (Below w.heap.size w w ∧ ∀ j, j < 0 → (timN l j).1 ≠ id) := ⟨Below.refl _ _, fun j hj => absurd hj (Nat.not_lt_zero _)⟩
  go_loopw [8] (fun v8 wr => ∃ i : Nat, i ≤ N ∧ v8 = .int .i64 i ∧ Aside0 (Below w.heap.size w wr ∧ ∀ j, j < i → (timN l j).1 ≠ id)) (fun v8 _ => N - (intOf v8).toNat)
  case atStart => exact ⟨0, Nat.zero_le _, rfl, HI0⟩
  case round =>
    clear HI0
    obtain ⟨i, hi, rfl, HI⟩ := hrel
    by_cases hlt : i < N
    · obtain ⟨h0, h1⟩ := tr_cells (Kd.R_below HR.out HI.out.1) i (by have := HN.out; omega)
      obtain ⟨⟨ti, ta⟩, htm⟩ : ∃ t, t = timN l i := ⟨_, rfl⟩
      rw [← htm] at h0 h1
      simp only at h0 h1
      have HTM := Aside0.mk htm
      have hBr := pw_cell_below HI.out.1 HB.out
      clear htm
      go_wp2_with fail
      refine (closure50 ti ta id B wr hBr).mono ?_
      rintro e w2 ⟨rfl, hb⟩
      have HB2 := Aside0.mk (below_step HI.out.1 hb)
      clear hb hBr h0 h1
      by_cases he : ti = id
      · have b1 : (ti == id) = true := beq_iff_eq.mpr he
        rw [b1]
        have HE : Aside0 ((timN l i).1 = id) := ⟨by rw [← HTM.out]; exact he⟩
        clear he b1
        go_wp2_with fail
        go_ret
        exact ⟨⟨_, rfl, .inr ⟨i, by have := HN.out; omega, rfl, HE.out, HI.out.2⟩⟩, HB2.out⟩
      · have b1 : (ti == id) = false := beq_eq_false_iff_ne.mpr he
        rw [b1]
        have HI2 : Aside0 (Below w.heap.size w w2 ∧ ∀ j, j < i + 1 → (timN l j).1 ≠ id) := ⟨HB2.out, fun j hj => by
          by_cases hji : j < i
          · exact HI.out.2 j hji
          · obtain rfl : j = i := by omega
            rw [← HTM.out]; exact he⟩
        clear he b1 HI HB2
        go_wp2_with fail
        go_roundw
        case rel => exact ⟨i + 1, by omega, by go_num, HI2⟩
        case measure => simp [intOf]; omega
    · obtain rfl : i = N := by omega
      go_wp2_with fail
      go_ret
      exact ⟨⟨_, rfl, .inl ⟨rfl, fun j hj => HI.out.2 j (by have := HN.out; omega)⟩⟩, HI.out.1⟩
theorem without_take {l : List TimT} {id : Int} {j : Nat} (h : j < l.length) : without (l.take (j + 1)) id = without (l.take j) id ++ (if (timN l j).1 = id then [] else [timN l j]) := by
  unfold without
  rw [take_succ' l j h, List.filter_append]
  congr 1
  by_cases e : (timN l j).1 = id
  · rw [if_pos e, List.filter_cons_of_neg (by simpa using e)]; rfl
  · rw [if_neg e, List.filter_cons_of_pos (by simpa using e)]; rfl
theorem without_none {l : List TimT} {id : Int} (h : ∀ j, j < l.length → (timN l j).1 ≠ id) : without l id = l := by
  unfold without
  rw [List.filter_eq_self]
  intro t ht
  obtain ⟨j, hj, e⟩ := List.getElem_of_mem ht
  have h2 := h j hj
  unfold timN at h2
  rw [List.getD_eq_getElem?_getD, List.getElem?_eq_getElem hj] at h2
  simpa [e] using h2
theorem timN_snoc {K : List TimT} {x : TimT} {t : Nat} (h : t < K.length) : timN (K ++ [x]) t = timN K t := by
  unfold timN
  rw [List.getD_eq_getElem?_getD, List.getD_eq_getElem?_getD, List.getElem?_append_left h]
theorem timN_last (K : List TimT) (x : TimT) : timN (K ++ [x]) K.length = x := by
  unfold timN
  rw [List.getD_eq_getElem?_getD, List.getElem?_append_right (Nat.le_refl _)]
  simp
theorem timN_take {l : List TimT} {i t : Nat} (h : t < i) (hi : i ≤ l.length) : timN (l.take i) t = timN l t := by
  unfold timN
  rw [List.getD_eq_getElem?_getD, List.getD_eq_getElem?_getD, List.getElem?_take_of_lt h]
/-- What the row's block holds while it is gone through: K kept, the timers from j on as they were. -/
structure Del (w wr : World) (b : Nat) (l : List TimT) (sz : Nat) (K : List TimT) (j : Nat) : Prop where
  blk : ∃ cur, wr.heap[b]? = some (.cells cur 84 (0, 0)) ∧ cur.size = sz ∧ (∀ t, t < K.length → At2 cur t (timN K t)) ∧ (∀ t, j ≤ t → t < l.length → At2 cur t (timN l t))
  grown : w.grownBy wr (some b)
theorem Del.keep {w wr : World} {b : Nat} {l : List TimT} {sz : Nat} {K : List TimT} {j : Nat} (h : Del w wr b l sz K j) (hj : j < l.length) (hK : K.length ≤ j) (hs : l.length * 2 ≤ sz) {wr' : World}
    (e : wr' = (wr.setCell ⟨b, K.length * 2, none⟩ (.int .u64 (timN l j).1)).setCell ⟨b, K.length * 2 + 1, none⟩ (.int .u64 (timN l j).2)) : Del w wr' b l sz (K ++ [timN l j]) (j + 1) := by
  obtain ⟨⟨cur, hb, hsz, h1, h2⟩, hg⟩ := h
  subst e
  refine ⟨⟨_, blk_put (blk_put hb (K.length * 2) _ rfl) (K.length * 2 + 1) _ rfl, by simpa using hsz, fun t ht => ?_, fun t ht ht2 => ?_⟩, (hg.trans (grown_set _ _ _ _)).trans (grown_set _ _ _ _)⟩
  · rw [List.length_append, List.length_singleton] at ht
    by_cases e : t = K.length
    · subst e
      rw [timN_last]
      exact At2.here (by omega) _
    · rw [timN_snoc (by omega)]
      exact (h1 t (by omega)).set (by omega) _ _
  · exact (h2 t (by omega) ht2).set (by omega) _ _
theorem Del.skip {w wr : World} {b : Nat} {l : List TimT} {sz : Nat} {K : List TimT} {j : Nat} (h : Del w wr b l sz K j) : Del w wr b l sz K (j + 1) := by
  obtain ⟨⟨cur, hb, hsz, h1, h2⟩, hg⟩ := h
  exact ⟨⟨cur, hb, hsz, h1, fun t ht ht2 => h2 t (by omega) ht2⟩, hg⟩
theorem Del.below {w wr wr' : World} {b : Nat} {l : List TimT} {sz : Nat} {K : List TimT} {j : Nat} (h : Del w wr b l sz K j) (hb : Below wr.heap.size wr wr') : Del w wr' b l sz K j := by
  obtain ⟨⟨cur, hb2, hsz, h1, h2⟩, hg⟩ := h
  exact ⟨⟨cur, (hb.block b (Array.getElem?_eq_some_iff.1 hb2).1).trans hb2, hsz, h1, h2⟩, hg.trans ⟨hb.os, hb.tape, hb.output, hb.size, fun k hk _ => hb.block k hk⟩⟩
theorem Del.cellK {w wr : World} {b : Nat} {l : List TimT} {sz : Nat} {K : List TimT} {j : Nat} (h : Del w wr b l sz K j) (t : Nat) (ht : t < sz) : (∃ v, wr.cell? ⟨b, t, none⟩ = some v) ∧ wr.frozen? ⟨b, t, none⟩ = false := by
  obtain ⟨⟨cur, hb, hsz, h1, h2⟩, hg⟩ := h
  refine ⟨⟨cur[t], ?_⟩, blk_frozen hb t⟩
  rw [blk_cell hb t, Array.getElem?_eq_getElem (by omega)]
theorem Del.cellL {w wr : World} {b : Nat} {l : List TimT} {sz : Nat} {K : List TimT} {j : Nat} (h : Del w wr b l sz K j) (hj : j < l.length) : wr.cell? ⟨b, j * 2, none⟩ = some (.int .u64 (timN l j).1) ∧ wr.cell? ⟨b, j * 2 + 1, none⟩ = some (.int .u64 (timN l j).2) := by
  obtain ⟨⟨cur, hb, hsz, h1, h2⟩, hg⟩ := h
  obtain ⟨a0, a1⟩ := h2 j (Nat.le_refl _) hj
  exact ⟨(blk_cell hb _).trans a0, (blk_cell hb _).trans a1⟩
theorem Del.done {w wr wr' : World} {b base q c : Nat} {f : Nat → Nat} {l : List TimT} {K : List TimT} {j n : Nat} (h : Del w wr b l (c * 2) K j) (hK : K.length ≤ c) (hc : c ≤ maxLen) (hbase : base ≤ b) (hf : f b = q) (e : wr' = wr.setCells b (K.length * 2) (List.replicate n (.int .u64 0))) (hn : K.length * 2 + n ≤ c * 2) : TR wr' base f q (.slice (some ⟨b, 0, none⟩) K.length c) K ∧ w.grownBy wr' (some b) := by
  obtain ⟨⟨cur, hb, hsz, h1, h2⟩, hg⟩ := h
  subst e
  refine ⟨tr_mk (blk_setCells _ _ _ _ hb) hK hc hbase hf (by simpa using hsz) (fun t ht => ?_), hg.trans (grown_setCells _ _ _ _)⟩
  obtain ⟨a0, a1⟩ := h1 t ht
  have key : ∀ p, p < K.length * 2 → (setMany cur (K.length * 2) (List.replicate n (.int .u64 0)))[p]? = cur[p]? := fun p hp => by
    have h3 := get_setMany (List.replicate n (Value.int .u64 0)) (K.length * 2) cur p (by omega)
    rw [if_neg (by omega)] at h3
    rw [getElem!_pos _ p (by rw [size_setMany]; omega), getElem!_pos _ p (by omega)] at h3
    rw [Array.getElem?_eq_getElem (by rw [size_setMany]; omega), Array.getElem?_eq_getElem (by omega), h3]
  exact ⟨(key _ (by omega)).trans a0, (key _ (by omega)).trans a1⟩
set_option maxHeartbeats 4000000 in
set_option maxRecDepth 100000 in
theorem slices_DeleteFunc.calls (w : World) (base q b c B N : Nat) (id : Int) (f : Nat → Nat) (l : List TimT) (h : TR w base f q (.slice (some ⟨b, 0, none⟩) N c) l) (hl : l.length ≤ 1000000) (hB : w.cell? ⟨B, 0, none⟩ = some (.int .u64 id)) (hne : B ≠ b) :
    Calls Try.prog 49 #[.slice (some ⟨b, 0, none⟩) N c, .func (.func 50) #[] #[.pointer (some ⟨B, 0, none⟩)]] w fun e w' => e = .returned (.slice (some ⟨b, 0, none⟩) (without l id).length c) ∧ TR w' base f q (.slice (some ⟨b, 0, none⟩) (without l id).length c) (without l id) ∧ w.grownBy w' (some b) := by
  obtain ⟨hN, hlc, hcm, hbase, hfb, cur, hb, hsz, hat⟩ := tr_open h
  have hIF := slices_IndexFunc.calls w base q b c B N id f l h hN hl hB
  have HR := Aside0.mk h
  have HD : Aside0 (Del w w b l (c * 2) [] 0) := ⟨⟨cur, hb, hsz, fun t ht => absurd ht (Nat.not_lt_zero _), fun t _ ht => hat t ht⟩, ⟨rfl, rfl, rfl, Nat.le_refl _, fun _ _ _ => rfl⟩⟩
  have HB := Aside0.mk hB
  have HC := Aside0.mk (show c ≤ maxLen ∧ base ≤ b ∧ f b = q from ⟨hcm, hbase, hfb⟩)
  have hNB : N ≤ 1000000 := by omega
  have hcB : c ≤ 9223372036854775807 := hcm
  have HN := Aside0.mk hN
  have hNc : N ≤ c := by omega
  clear h hb hat hB hcm hbase hfb hsz hN hlc hl
  go_enter Try.func49, Try.ntmps49
  go_wp2_with fail
  refine hIF.mono ?_
  clear hIF
  rintro e w1 ⟨⟨k, rfl, hk⟩, hb1⟩
  rcases hk with ⟨rfl, hall⟩ | ⟨i0, hi0, rfl, hat0, hpre⟩
  · have hw := Aside0.mk (without_none hall)
    have HR1 := Aside0.mk (Kd.R_below HR.out hb1)
    have HG1 : Aside0 (w.grownBy w1 (some b)) := ⟨⟨hb1.os, hb1.tape, hb1.output, hb1.size, fun k hk _ => hb1.block k hk⟩⟩
    clear hall hb1
    go_wp2_with fail
    go_ret
    refine ⟨?_, ?_, HG1.out⟩
    · rw [hw.out, ← HN.out]; rfl
    · rw [hw.out, ← HN.out]; exact HR1.out
  · have hne1 : ((i0 : Int) == -1) = false := beq_eq_false_iff_ne.2 (by omega)
    have HS : Aside0 (Del w w1 b l (c * 2) (without (l.take (i0 + 1)) id) (i0 + 1) ∧ (without (l.take (i0 + 1)) id).length = i0 ∧ w1.cell? ⟨B, 0, none⟩ = some (.int .u64 id)) := ⟨by
      have e1 : without (l.take i0) id = l.take i0 := without_none (fun j hj => by
        rw [List.length_take] at hj
        rw [timN_take (by omega) (by omega)]
        exact hpre j (by omega))
      have e2 : without (l.take (i0 + 1)) id = l.take i0 := by rw [without_take hi0, if_pos hat0, List.append_nil, e1]
      rw [e2]
      refine ⟨?_, by rw [List.length_take]; omega, pw_cell_below hb1 HB.out⟩
      obtain ⟨⟨cur, hb, hsz, h1, h2⟩, hg⟩ := HD.out.below hb1
      refine ⟨⟨cur, hb, hsz, fun t ht => ?_, fun t _ ht => h2 t (Nat.zero_le _) ht⟩, hg⟩
      rw [List.length_take] at ht
      rw [timN_take (by omega) (by omega)]
      exact h2 t (Nat.zero_le _) (by omega)⟩
    have hiN : i0 < N := by have := HN.out; omega
    clear hat0 hpre hb1 hi0
    go_wp2_with fail
    go_loopw [5, 6, 7] (fun v5 v6 _ wr => ∃ i j : Nat, i < j ∧ j ≤ N ∧ v5 = .int .i64 i ∧ v6 = .int .i64 j ∧ Aside0 (Del w wr b l (c * 2) (without (l.take j) id) j ∧ (without (l.take j) id).length = i ∧ wr.cell? ⟨B, 0, none⟩ = some (.int .u64 id))) (fun _ v6 _ _ => N - (intOf v6).toNat)
    case atStart => exact ⟨i0, i0 + 1, by omega, by omega, rfl, by go_num, HS⟩
    case round =>
      clear HS
      obtain ⟨i, j, hij, hj, rfl, rfl, HI⟩ := hrel
      by_cases hlt : j < N
      · obtain ⟨h0, h1⟩ := HI.out.1.cellL (by have := HN.out; omega)
        obtain ⟨⟨ti, ta⟩, htm⟩ : ∃ t, t = timN l j := ⟨_, rfl⟩
        rw [← htm] at h0 h1
        simp only at h0 h1
        have HTM := Aside0.mk htm
        have b3 := blk_new wr (.cells #[.int .u64 ti, .int .u64 ta] 84 (0, 0))
        have d0 := (blk_cell b3 0).trans rfl
        have d1 := (blk_cell b3 1).trans rfl
        have hBr := pw_cell_below (below_alloc (Below.refl wr.heap.size wr) (.cells #[.int .u64 ti, .int .u64 ta] 84)) HI.out.2.2
        have hb3 := below_alloc (Below.refl wr.heap.size wr) (.cells #[.int .u64 ti, .int .u64 ta] 84)
        clear htm
        go_wp2_with fail
        refine (closure50 ti ta id B _ hBr).mono ?_
        rintro e w2 ⟨rfl, hb⟩
        replace d0 := pw_cell_below hb d0
        replace d1 := pw_cell_below hb d1
        have hB2 := Aside0.mk (pw_cell_below hb hBr)
        have HD2 := Aside0.mk ((HI.out.1.below hb3).below hb)
        have HL2 := Aside0.mk HI.out.2.1
        clear hb hBr h0 h1 b3 hb3 HI
        by_cases he : ti = id
        · have b1 : (ti == id) = true := beq_iff_eq.mpr he
          rw [b1]
          have HI2 : Aside0 (Del w w2 b l (c * 2) (without (l.take (j + 1)) id) (j + 1) ∧ (without (l.take (j + 1)) id).length = i ∧ w2.cell? ⟨B, 0, none⟩ = some (.int .u64 id)) := ⟨by
            have e1 : without (l.take (j + 1)) id = without (l.take j) id := by rw [without_take (by have := HN.out; omega), ← HTM.out, if_pos he, List.append_nil]
            rw [e1]
            exact ⟨HD2.out.skip, HL2.out, hB2.out⟩⟩
          clear he b1 HD2 HL2 hB2 d0 d1
          go_wp2_with fail
          go_roundw
          case rel => exact ⟨i, j + 1, by omega, by omega, rfl, by go_num, HI2⟩
          case measure => simp [intOf]; omega
        · have b1 : (ti == id) = false := beq_eq_false_iff_ne.mpr he
          rw [b1]
          obtain ⟨⟨z0, k0⟩, f0⟩ := HD2.out.cellK (i * 2) (by omega)
          obtain ⟨⟨z1, k1⟩, f1⟩ := HD2.out.cellK (i * 2 + 1) (by omega)
          have HI2 : Aside0 (Del w ((w2.setCell ⟨b, i * 2, none⟩ (.int .u64 ti)).setCell ⟨b, i * 2 + 1, none⟩ (.int .u64 ta)) b l (c * 2) (without (l.take (j + 1)) id) (j + 1) ∧ (without (l.take (j + 1)) id).length = i + 1 ∧ ((w2.setCell ⟨b, i * 2, none⟩ (.int .u64 ti)).setCell ⟨b, i * 2 + 1, none⟩ (.int .u64 ta)).cell? ⟨B, 0, none⟩ = some (.int .u64 id)) := ⟨by
            have e1 : without (l.take (j + 1)) id = without (l.take j) id ++ [timN l j] := by rw [without_take (by have := HN.out; omega), ← HTM.out, if_neg he]
            rw [e1, List.length_append, HL2.out]
            have hN2 := HN.out
            refine ⟨HD2.out.keep (by omega) (by rw [HL2.out]; omega) (by omega) (by rw [HL2.out, ← HTM.out]), rfl, ?_⟩
            rw [World.cell?_of_block (Below.heap_setCell _ ⟨b, i * 2 + 1, none⟩ _ B hne), World.cell?_of_block (Below.heap_setCell _ ⟨b, i * 2, none⟩ _ B hne)]
            exact hB2.out⟩
          clear he b1 HD2 HL2 hB2
          go_wp2_with fail
          go_roundw
          case rel => exact ⟨i + 1, j + 1, by omega, by omega, by go_num, by go_num, HI2⟩
          case measure => simp [intOf]; omega
      · obtain rfl : j = N := by omega
        have hf : l.take j = l := by rw [HN.out, List.take_length]
        have hI := HI.out
        rw [hf] at hI
        have hcl : ∀ ty, (Builtin.clear_ #[76] ty #[.slice (some ⟨b, i * 2, none⟩) (j - i) (c - i)]).run Try.prog wr = .ok (.tuple #[]) (wr.setCells b (i * 2) (List.replicate ((j - i) * 2) (.int .u64 0))) := fun ty =>
          run_clear_T wr ty b (i * 2) (j - i) (c - i) (by omega) (fun t ht => by obtain ⟨⟨v, h⟩, _⟩ := hI.1.cellK (i * 2 + t) (by omega); rw [h]; rfl) (fun t ht => (hI.1.cellK (i * 2 + t) (by omega)).2)
        have HF := Aside0.mk (hI.1.done (n := (j - i) * 2) (by rw [hI.2.1]; omega) HC.out.1 HC.out.2.1 HC.out.2.2 rfl (by rw [hI.2.1]; omega))
        have HL := Aside0.mk hI.2.1
        clear HI hI hf
        go_wp2_with fail
        go_ret
        have hF := HF.out
        rw [show (without l id).length * 2 = i * 2 by rw [HL.out]] at hF
        exact ⟨by rw [HL.out]; rfl, hF.1, hF.2⟩
end Go.Proofs.Ytkgdlmgodpgcoaa.Hand
