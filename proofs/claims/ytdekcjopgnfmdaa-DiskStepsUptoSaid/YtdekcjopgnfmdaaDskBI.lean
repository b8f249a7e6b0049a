/- spoil: rows that are written over, and grown: what stands. Plain. -/
import Derived.Test.YtdekcjopgnfmdaaDskBA
import Derived.ArgAppend
import Derived.Maps.AppendAt
namespace Go.Proofs.Ytdekcjopgnfmdaa.Hand
open Go.RowKit Go.Maps Go.Proofs.YtdekcjopgnfmdaaW.PrintWords Go.Proofs.YtdekcjopgnfmdaaW.PrintLast Go.Proofs.YtdekcjopgnfmdaaW.PrintMore Go.Proofs.Ytdekcjopgnfmdaa.Q
set_option linter.unusedVariables false
set_option linter.unusedSimpArgs false
/-- Only bytes of byte rows have turned. -/
structure BT (w w' : World) : Prop where
  byte : ∀ (k : Nat) (cells : Array Value), w.heap[k]? = some (.cells cells 5 (0, 0)) → ∃ cells' : Array Value, w'.heap[k]? = some (.cells cells' 5 (0, 0)) ∧ cells'.size = cells.size ∧ ∀ (j : Nat) (x : Int), cells[j]? = some (.int .u8 x) → ∃ y : Int, cells'[j]? = some (.int .u8 y)
  other : ∀ (k : Nat) (o : Obj), w.heap[k]? = some o → (∀ cells : Array Value, o ≠ .cells cells 5 (0, 0)) → w'.heap[k]? = some o
theorem BT.trans {a b c : World} (h : BT a b) (k : BT b c) : BT a c := ⟨fun g cells hg => by
  obtain ⟨c1, h1, h2, h3⟩ := h.byte g cells hg; obtain ⟨c2, k1, k2, k3⟩ := k.byte g c1 h1; exact ⟨c2, k1, k2.trans h2, fun j x hx => by obtain ⟨y, hy⟩ := h3 j x hx; exact k3 j y hy⟩, fun g o hg ho => k.other g o (h.other g o hg ho) ho⟩
theorem BT.below {w w' : World} (h : Below w.heap.size w w') : BT w w' := by
  have hlt : ∀ k o, w.heap[k]? = some o → w'.heap[k]? = some o := fun k o hk => by
    have hl : k < w.heap.size := by
      rcases Nat.lt_or_ge k w.heap.size with h1 | h1
      · exact h1
      · rw [Array.getElem?_eq_none h1] at hk; cases hk
    rw [h.block k hl]; exact hk
  exact ⟨fun k c hk => ⟨c, hlt k _ hk, rfl, fun _ x h => ⟨x, h⟩⟩, fun k o hk _ => hlt k o hk⟩
theorem BT.put {w : World} {g : Nat} {cells : Array Value} (h : w.heap[g]? = some (.cells cells 5 (0, 0))) (j : Nat) (y : Int) : BT w (w.setCell ⟨g, j, none⟩ (.int .u8 y)) := by
  have hn : (w.setCell ⟨g, j, none⟩ (.int .u8 y)).heap[g]? = some (.cells (cells.setIfInBounds j (.int .u8 y)) 5 (0, 0)) := blk_put h j _ rfl; have hf : ∀ k, k ≠ g → (w.setCell ⟨g, j, none⟩ (.int .u8 y)).heap[k]? = w.heap[k]? := fun k hk => Below.heap_setCell w ⟨g, j, none⟩ (.int .u8 y) k hk; refine ⟨fun k c hk => ?_, fun k o hk ho => ?_⟩
  · by_cases e : k = g
    · subst e; rw [h] at hk; injection hk with hk; injection hk with hk _ _; subst hk; refine ⟨_, hn, Array.size_setIfInBounds, fun q x hx => ?_⟩; rw [Array.getElem?_setIfInBounds]
      split
      · rename_i e2; subst e2
        have hl : j < cells.size := by
          rcases Nat.lt_or_ge j cells.size with h1 | h1
          · exact h1
          · rw [Array.getElem?_eq_none h1] at hx; cases hx
        rw [if_pos hl]; exact ⟨y, rfl⟩
      · exact ⟨x, hx⟩
    · exact ⟨c, (hf k e).trans hk, rfl, fun _ x h => ⟨x, h⟩⟩
  · by_cases e : k = g
    · subst e; rw [h] at hk; injection hk with hk; exact absurd hk.symm (ho cells)
    · exact (hf k e).trans hk
theorem bytes_turn {w w' : World} {base : Nat} {ok : Nat → Prop} {v : Value} {bs : List Int} (h : Kd.R kB 5 w base ok v bs) (t : BT w w') : ∃ bs', bs'.length = bs.length ∧ Kd.R kB 5 w' base ok v bs' := by
  have h0 := h.1; have ho : w.ownsRow base 5 1 v bs.length (encs (Value.int .u8) bs) := Kd.own_of_R h; rcases ho.2 with ⟨rfl, hn⟩ | ⟨g, cap, cur, rfl, hb, hg, hnc, hcm, hcs, ht⟩
  · have : bs = [] := List.eq_nil_of_length_eq_zero hn; subst this; exact ⟨[], rfl, Kd.R_nil _ _ _ _ _⟩
  · obtain ⟨cur', k1, k2, k3⟩ := t.byte g cur hg
    have hel : ∀ j, j < bs.length → ∃ y, cur'[j]? = some (.int .u8 y) := fun j hj => by
      refine k3 j bs[j] ?_; have e1 : (encs (Value.int .u8) bs)[j]? = some (.int .u8 bs[j]) := by unfold encs; rw [List.getElem?_map, List.getElem?_eq_getElem hj]; rfl
      rw [← ht, List.getElem?_take, if_pos (by omega), Array.getElem?_toList] at e1; exact e1
    have hlen : bs.length ≤ cur'.toList.length := by have e : cur'.toList.length = cur'.size := Array.length_toList; omega
    have hl : ((cur'.toList.take bs.length).map intOf).length = bs.length := by rw [List.length_map, List.length_take]; omega
    have henc : encs (Value.int .u8) ((cur'.toList.take bs.length).map intOf) = cur'.toList.take bs.length := by
      unfold encs; rw [List.map_map]
      apply List.ext_getElem?
      intro j; rw [List.getElem?_map, List.getElem?_take]
      split
      · rename_i hj; obtain ⟨y, hy⟩ := hel j hj; rw [Array.getElem?_toList, hy]; rfl
      · rfl
    refine ⟨(cur'.toList.take bs.length).map intOf, hl, Kd.R_of_own (enc := Value.int .u8) ?_ h0⟩; rw [hl, henc]; exact ⟨by rw [List.length_take]; omega, .inr ⟨g, cap, cur', rfl, hb, k1, hnc, hcm, by rw [k2, hcs], by rw [Nat.mul_one]⟩⟩
theorem list_turn {α β : Type} : ∀ (xs : List α) (P : Nat → α → β → Prop), (∀ j x, xs[j]? = some x → ∃ y, P j x y) → ∃ ys : List β, ys.length = xs.length ∧ ∀ j y, ys[j]? = some y → ∃ x, xs[j]? = some x ∧ P j x y
  | [], P, _ => ⟨[], rfl, fun j y h => by simp at h⟩
  | x :: xs, P, h => by
    obtain ⟨y, hy⟩ := h 0 x rfl; obtain ⟨ys, h1, h2⟩ := list_turn xs (fun j => P (j + 1)) (fun j x hj => h (j + 1) x hj); refine ⟨y :: ys, by rw [List.length_cons, List.length_cons, h1], fun j z hz => ?_⟩
    cases j with
    | zero => injection hz with hz; subst hz; exact ⟨x, rfl, hy⟩
    | succ j => exact h2 j z hz
theorem file_turn {w w' : World} {base : Nat} {ok : Nat → Prop} {v : Value} {xs : List FilD} (h : Kd.R kF 65 w base ok v xs) (t : BT w w') (m : Nat) (hm : ∀ f, f ∈ xs → f.f1.length ≤ m) : ∃ xs' : List FilD, xs'.length = xs.length ∧ (∀ f, f ∈ xs' → f.f1.length ≤ m) ∧ Kd.R kF 65 w' base ok v xs' := by
  obtain ⟨h0, inner, ho, hr⟩ := h
  have hstep : ∀ ok1 x cs, Kd.M kF w base ok1 x cs → ∃ x' : FilD, x'.f1.length = x.f1.length ∧ Kd.M kF w' base ok1 x' cs := by
    rintro ok1 x cs ⟨c1, c2, rfl, e1, v1, rfl, hv⟩; obtain ⟨bs', hl, hb⟩ := bytes_turn hv t; exact ⟨⟨x.f0, bs'⟩, hl, c1, _, rfl, e1, v1, rfl, hb⟩
  obtain ⟨ys, h1, h2⟩ := list_turn xs (fun j (x : FilD) (y : FilD) => y.f1.length = x.f1.length ∧ Kd.M kF w' base (fun k => ok k ∧ some k ≠ v.ownBlock) y ((inner.drop (j * Kd.sz kF)).take (Kd.sz kF))) (fun j x hj => hstep _ x _ (hr.2 j x hj)); refine ⟨ys, h1, fun f hf => ?_, h0, inner, ?_, ?_, fun j y hj => ?_⟩
  · obtain ⟨j, hj⟩ := List.mem_iff_getElem?.1 hf; obtain ⟨x, hx, hl, _⟩ := h2 j f hj; rw [hl]; exact hm x (List.mem_iff_getElem?.2 ⟨j, hx⟩)
  · rw [h1]; refine own_move ho (fun k hk => ?_); obtain ⟨cells, hc⟩ := own_typed ho k hk; rw [hc]; exact t.other k _ hc (fun c e => by injection e with _ e _; exact absurd e (by decide))
  · rw [h1]; exact hr.1
  · obtain ⟨x, _, _, hM⟩ := h2 j y hj; exact hM
section
variable {P : Program} {ops : Array Oper} {rest : List Oper} {o : Oper} {a : Act} {Q : Exit → Act → World → Prop}
theorem append_byte {W : World} (ok : Nat → Prop) (hgd : o.guard = none) (s x : Operand) (t : TypeId)
    (ho : o.op = .call { callee := .builtin .append, args := #[s, x], argTypes := #[t, t] })
    (ht : P.underlying t = some (.slice 5)) (i0 : TypeInfo) (hi : P.info? 5 = some i0) (hz0 : i0.zero = some (.int .u8 0)) (hz1 : i0.size = 1) (hz2 : i0.bytes = 1)
    (v : Value) (bs : List Int) (y : Int) (hs : a.eval s = v) (hx : a.eval x = .slice (some ⟨W.heap.size, 0, none⟩) 1 1)
    (HO : Kd.R kB 5 W 0 ok v bs) (hfresh : ∀ k, W.heap.size ≤ k → ok k) (hl : bs.length + 1 ≤ 140737488355328)
    (h : ∀ v1 w1, Kd.R kB 5 w1 0 ok v1 (bs ++ [y]) → KeptL ok W w1 → BT W w1 → wpList P ops Q rest (a.put o.dst v1) w1) :
    wpList P ops Q (o :: rest) a (W.alloc (.cells #[.int .u8 y] 5)) := by
  refine wpList_plain hgd fun K hK => ?_; have hown0 : W.ownsRow 0 5 1 v bs.length (encs (Value.int .u8) bs) := Kd.own_of_R HO; have hown := hown0.alloc (.cells #[.int .u8 y] 5); have hnews : ∀ j u, [Value.int .u8 y][j]? = some u → (W.alloc (.cells #[.int .u8 y] 5)).cell? ((⟨W.heap.size, 0, none⟩ : Addr).add j) = some u := cell_one_new W (.int .u8 y) 5; obtain ⟨v', w', hr, h2, h3, h4, h5⟩ := run_append_own_at (P := P) (W.alloc (.cells #[.int .u8 y] 5)) 0 t o.type 5 i0 (.int .u8 0) 1 1 ht hi hz0 hz1 hz2 rfl (by decide) v bs.length (encs (Value.int .u8) bs) hown ⟨W.heap.size, 0, none⟩ 1 1 [.int .u8 y] rfl hnews (by simp [Value.oneCell']) (by simp only [maxLen]; omega) (by omega) (Nat.zero_le _); have hBW := below_alloc (Below.refl W.heap.size W) (.cells #[.int .u8 y] 5); have hKp : KeptL ok W w' := ⟨h3.os.trans hBW.os, h3.tape.trans hBW.tape, h3.output.trans hBW.output, Nat.le_trans hBW.size h3.size, fun k hk hn => (h3.block k (Nat.lt_of_lt_of_le hk hBW.size) (fun e => hn (HO.1 k e.symm))).trans (hBW.block k hk)⟩
  have hR : Kd.R kB 5 w' 0 ok v' (bs ++ [y]) := Kd.R_of_own (enc := Value.int .u8) (by simpa [encs] using h2) (fun k hk => by
    rcases h5 with h5 | h5
    · exact HO.1 k (by rw [← h5]; exact hk)
    · rw [hk] at h5; injection h5 with h5; exact hfresh k (by rw [h5]; simp))
  have hBT : BT W w' := by
    rcases hown0.2 with ⟨rfl, hn⟩ | ⟨g, cap, cur, rfl, hbg, hg, hnc, hcm, hcs, htake⟩
    · exact (BT.below hBW).trans (BT.below ⟨h3.os, h3.tape, h3.output, h3.size, fun k hk => h3.block k hk (by simp [Value.ownBlock])⟩)
    · by_cases hroom : bs.length + 1 ≤ cap
      · have hg1 : (W.alloc (.cells #[.int .u8 y] 5)).heap[g]? = some (.cells cur 5 (0, 0)) := by rw [hBW.block g (blk_lt hg)]; exact hg
        have hr2 := run_append_room_cells (P := P) (W.alloc (.cells #[.int .u8 y] 5)) t o.type 5 i0 ht hi g 0 bs.length cap ⟨W.heap.size, 0, none⟩ 1 1 [.int .u8 y] (by rw [hz1]; rfl) hnews (by simp [Value.oneCell']) hroom
          (fun j hj => by
            have hj0 : j = 0 := by simpa using hj
            subst hj0; rw [cell_of_row _ g _ cur 5 (0, 0) hg1, Array.getElem?_eq_getElem (by rw [hcs, hz1]; omega)]; rfl) (fun j hj => blk_frozen hg1 _)
        rw [hr] at hr2; injection hr2 with _ hw; rw [hw]; refine (BT.below hBW).trans ?_; exact BT.put hg1 (0 + bs.length * i0.size) y
      · have hr2 := run_append_grow (P := P) (W.alloc (.cells #[.int .u8 y] 5)) t o.type 5 i0 (.int .u8 0) ht hi hz0 ⟨g, 0, none⟩ bs.length cap (encs (Value.int .u8) bs) (by rw [hz1]; exact hown.1) (hown.cells (g := g) rfl) ⟨W.heap.size, 0, none⟩ 1 1 [.int .u8 y] (by rw [hz1]; rfl) hnews (by omega) (by omega) (growslice_fits (by omega) (by rw [hz2]; omega)); rw [hr] at hr2; injection hr2 with _ hw; rw [hw]; refine (BT.below hBW).trans (BT.below ?_); exact below_alloc (below_drew1 (Below.refl _ _)) _
  unfold Oper.wp execOp; simp only [ho, resolve, invoke, builtin, Sem.run_bind, Sem.run_pure, Result.andThen_ok, List.map_toArray, List.map_cons, List.map_nil, hs, hx, hr]; exact hK _ _ (h v' w' hR hKp hBT)
end
end Go.Proofs.Ytdekcjopgnfmdaa.Hand
