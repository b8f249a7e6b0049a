/- Wheel: its whole state; Add, where it goes well. -/
import Derived.Test.YtkgdlmgodpgcoaaWhlB
namespace Go.Proofs.Ytkgdlmgodpgcoaa.Hand
open Go.RowKit Go.Maps Go.Proofs.YtkgdlmgodpgcoaaW.PrintWords Go.Proofs.YtkgdlmgodpgcoaaW.PrintLast Go.Proofs.YtkgdlmgodpgcoaaW.PrintMore
set_option linter.unusedVariables false
set_option linter.unusedSimpArgs false

abbrev TimT := Int × Int
abbrev kT : Kd TimT := Kd.iso (Kd.pair (Kd.int .u64) (Kd.int .u64)) (fun x => x)
theorem kT_M (w : World) (base : Nat) (ok : Nat → Prop) (x : TimT) : kT.M w base ok x [.int .u64 x.1, .int .u64 x.2] := ⟨[.int .u64 x.1], [.int .u64 x.2], rfl, rfl, rfl⟩
theorem kT_open {w : World} {x : TimT} {cs : List Value} (h : kT.K w x cs) : cs = [.int .u64 x.1, .int .u64 x.2] := by
  obtain ⟨_, _, rfl, rfl, rfl⟩ := h
  rfl
theorem info84 : (Try.prog.info? 84).map (fun i => (i.zero, i.size, i.bytes)) = some (some (.agg #[.int .u64 0, .int .u64 0]), 2, 16) := by kernel_rfl
/-- A row of timers on blocks of its own. -/
abbrev TR (w : World) (base : Nat) (f : Nat → Nat) (i : Nat) (v : Value) (l : List TimT) : Prop := Kd.R kT 84 w base (fun k => f k = i) v l
structure WhlSt (w0 w : World) (base : Nat) (P : Nat → Prop) (g m n : Nat) (now : Int) (D : DT) (R : Nat → Value) (f : Nat → Nat) (L : Nat → List TimT) : Prop where
  whl : WhlAt w g m now R
  due : Due w m n D
  row : ∀ i, i < 257 → TR w base f i (R i) (L i)
  bel : Below base w0 w
  hg : base ≤ g
  hm : base ≤ m
  keep : ∀ k, P k → w.heap[k]? = w0.heap[k]?
  prot : ∀ k, P k → k < w0.heap.size ∧ f k = 1000 ∧ k ≠ g ∧ k ≠ m
theorem Due.same {w w' : World} {m n : Nat} {D : DT} (h : Due w m n D) (e : w'.heap[m]? = w.heap[m]?) : Due w' m n D := by
  obtain ⟨es, clock, h1, h2⟩ := h
  exact ⟨es, clock, e.trans h1, h2⟩
theorem WhlSt.gm {w0 w : World} {base : Nat} {P : Nat → Prop} {g m n : Nat} {now : Int} {D : DT} {R : Nat → Value} {f : Nat → Nat} {L : Nat → List TimT} (h : WhlSt w0 w base P g m n now D R f L) : g ≠ m := by
  obtain ⟨cs, h1, _⟩ := h.whl
  obtain ⟨es, clock, h2, _⟩ := h.due
  intro e
  rw [e, h2] at h1
  cases h1
theorem WhlSt.lt {w0 w : World} {base : Nat} {P : Nat → Prop} {g m n : Nat} {now : Int} {D : DT} {R : Nat → Value} {f : Nat → Nat} {L : Nat → List TimT} (h : WhlSt w0 w base P g m n now D R f L) {k : Nat} (hk : P k) : k < w.heap.size := Nat.lt_of_lt_of_le (h.prot k hk).1 h.bel.size
theorem WhlSt.keepG {w0 w w' : World} {base : Nat} {P : Nat → Prop} {g m n : Nat} {now : Int} {D : DT} {R : Nat → Value} {f : Nat → Nat} {L : Nat → List TimT} (h : WhlSt w0 w base P g m n now D R f L) {row : Option Nat} (hg : w.grownBy w' row) (hr : ∀ k, P k → some k ≠ row) : ∀ k, P k → w'.heap[k]? = w0.heap[k]? :=
  fun k hk => (hg.block k (h.lt hk) (hr k hk)).trans (h.keep k hk)
theorem WhlSt.keepS {w0 w : World} {base : Nat} {P : Nat → Prop} {g m n : Nat} {now : Int} {D : DT} {R : Nat → Value} {f : Nat → Nat} {L : Nat → List TimT} (h : WhlSt w0 w base P g m n now D R f L) (j : Nat) (v : Value) : ∀ k, P k → (w.setCell ⟨g, j, none⟩ v).heap[k]? = w0.heap[k]? :=
  fun k hk => (Below.heap_setCell w ⟨g, j, none⟩ v k (h.prot k hk).2.2.1).trans (h.keep k hk)
theorem WhlSt.protG {w0 w : World} {base : Nat} {P : Nat → Prop} {g m n : Nat} {now : Int} {D : DT} {R : Nat → Value} {f : Nat → Nat} {L : Nat → List TimT} (h : WhlSt w0 w base P g m n now D R f L) (q : Nat) : ∀ k, P k → k < w0.heap.size ∧ (fun k => if k < w.heap.size then f k else q) k = 1000 ∧ k ≠ g ∧ k ≠ m :=
  fun k hk => ⟨(h.prot k hk).1, by show (if k < w.heap.size then f k else q) = 1000; rw [if_pos (h.lt hk)]; exact (h.prot k hk).2.1, (h.prot k hk).2.2⟩
theorem WhlSt.notRow {w0 w : World} {base : Nat} {P : Nat → Prop} {g m n : Nat} {now : Int} {D : DT} {R : Nat → Value} {f : Nat → Nat} {L : Nat → List TimT} (h : WhlSt w0 w base P g m n now D R f L) {q : Nat} (hq : q < 1000) {v : Value} (hv : ∀ k, v.ownBlock = some k → f k = q) : ∀ k, P k → some k ≠ v.ownBlock :=
  fun k hk e => by have h1 := hv k e.symm; have h2 := (h.prot k hk).2.1; omega
theorem WhlSt.below {w0 w w' : World} {base : Nat} {P : Nat → Prop} {g m n : Nat} {now : Int} {D : DT} {R : Nat → Value} {f : Nat → Nat} {L : Nat → List TimT} (h : WhlSt w0 w base P g m n now D R f L) (hb : Below w.heap.size w w') (hs : base ≤ w.heap.size) : WhlSt w0 w' base P g m n now D R f L :=
  ⟨h.whl.below hb, Due.same h.due (hb.block m (World.ownsMap.lt h.due)), fun i hi => Kd.R_below (h.row i hi) hb, h.bel.trans (hb.mono hs), h.hg, h.hm, fun k hk => (hb.block k (h.lt hk)).trans (h.keep k hk), h.prot⟩
theorem WhlSt.size {w0 w : World} {base : Nat} {P : Nat → Prop} {g m n : Nat} {now : Int} {D : DT} {R : Nat → Value} {f : Nat → Nat} {L : Nat → List TimT} (h : WhlSt w0 w base P g m n now D R f L) : base ≤ w.heap.size := Nat.le_of_lt (Nat.lt_of_le_of_lt h.hg h.whl.lt)

theorem TR.not_wheel {w : World} {base i g m : Nat} {f : Nat → Nat} {v : Value} {l : List TimT} {now : Int} {R : Nat → Value} (h : TR w base f i v l) (hW : WhlAt w g m now R) : some g ≠ v.ownBlock := fun e => by
  obtain ⟨_, _, _, q, hq, cells, hc⟩ := (Kd.R_bound h).1 g e.symm
  obtain ⟨cs, h1, _⟩ := hW
  rw [h1] at hc
  injection hc with hc
  injection hc with _ ht _
  rw [← ht] at hq
  revert hq
  decide
theorem TR.not_map {w : World} {base i m n : Nat} {f : Nat → Nat} {v : Value} {l : List TimT} {D : DT} (h : TR w base f i v l) (hD : Due w m n D) : some m ≠ v.ownBlock := fun e => by
  obtain ⟨_, _, _, q, hq, cells, hc⟩ := (Kd.R_bound h).1 m e.symm
  obtain ⟨es, clock, h1, _⟩ := hD
  rw [h1] at hc
  cases hc
theorem TR.store {w : World} {base i g m : Nat} {f : Nat → Nat} {v : Value} {l : List TimT} {now : Int} {R : Nat → Value} (h : TR w base f i v l) (hW : WhlAt w g m now R) (j : Nat) (u : Value) : TR (w.setCell ⟨g, j, none⟩ u) base f i v l := by
  obtain ⟨cs, h1, _⟩ := hW
  exact Kd.R_set h h1 (by decide) j u
theorem TR.other {w w' : World} {base i j : Nat} {f : Nat → Nat} {v u : Value} {l : List TimT} (h : TR w base f i v l) (hij : i ≠ j) (hu : ∀ k, u.ownBlock = some k → f k = j) (hg : w.grownBy w' u.ownBlock) : TR w' base (fun k => if k < w.heap.size then f k else j) i v l :=
  Kd.R_mono (Kd.R_grown (Kd.R_bound h) hg (fun k hk e => hij (hk.1.symm.trans (hu k e.symm)))) (fun k hk => by show (if k < w.heap.size then f k else j) = i; rw [if_pos hk.2.2.1]; exact hk.1)
set_option maxHeartbeats 2000000 in
set_option maxRecDepth 100000 in
theorem wheel_Add.good (w0 : World) (base : Nat) (P : Nat → Prop) (g m n : Nat) (now id at_ x : Int) (D : DT) (R : Nat → Value) (f : Nat → Nat) (L : Nat → List TimT) (w : World) (hS : WhlSt w0 w base P g m n now D R f L) (hx : Go.bits .xor .u64 at_ now = x) (h0 : 0 ≤ x) (ha : 0 ≤ at_ ∧ at_ ≤ 18446744073709551615) (hid : (Lit.int .u64 id).wf = true)
    (hat : (Lit.int .u64 at_).wf = true) (hnew : Maps.has D (.int .u64 id) = false) (hlate : now < at_) (hroom : Maps.size D < 8192) (hn : n ≤ 1000000) (hL : ∀ i, (L i).length ≤ 1000000) :
    Calls Try.prog 18 #[.pointer (some ⟨g, 0, none⟩), .int .u64 id, .int .u64 at_] w fun e w' => e = .returned (.int .i64 0) ∧ ∃ R' f', WhlSt w0 w' base P g m (n + 1) now (D.put (.int .u64 id) (.lit (.int .u64 at_))) R' f' (fun i => if i = slotOf at_ x then L i ++ [(id, at_)] else L i) := by
  have HS := Aside0.mk hS
  have HL := Aside0.mk hL
  have c0 := hS.whl.now_
  have cm := hS.whl.map_
  have hkey := Maps.keyOf_int_mk (P := Try.prog) Try.underlying22 hid
  obtain ⟨v, ps, hlook, hv⟩ := hS.due.look_ok law22 Try.underlying75 (zero22 _) (plainElem_int Try.underlying22 (a := 0) (by decide)) hkey
  obtain ⟨u, rfl, _, _⟩ := plainElem_int_inv Try.underlying22 hv
  rw [hnew] at hlook
  have hlen := hS.due.len Try.underlying75
  obtain ⟨w1, hst, hD1, htu⟩ := World.ownsMap.store hS.due law22 Try.underlying75 (by unfold maxLen; omega) hkey (plainElem_int Try.underlying22 hat)
  have hgm := hS.gm
  have hW1 : WhlAt w1 g m now R := hS.whl.grown htu.grown (fun e => hgm (Option.some.inj e))
  have hne : ∀ k, (∃ q, q ∈ 84 :: kT.E ∧ ∃ cells, w.heap[k]? = some (.cells cells q (0, 0))) → k ≠ m := fun k hk e => by
    obtain ⟨q, _, cells, hc⟩ := hk
    obtain ⟨es, clock, h2, _⟩ := hS.due
    rw [e, h2] at hc
    cases hc
  have hS1 : WhlSt w0 w1 base P g m (n + 1) now (D.put (.int .u64 id) (.lit (.int .u64 at_))) R f L :=
    ⟨hW1, hD1, fun i hi => Kd.R_mono (Kd.R_grown (Kd.R_bound (hS.row i hi)) htu.grown (fun k hk e => hne k hk.2.2.2 (Option.some.inj e))) (fun k hk => hk.1), hS.bel.grown htu.grown hS.size (fun k e => by cases e; exact hS.hm), hS.hg, hS.hm, hS.keepG htu.grown (fun k hk e => (hS.prot k hk).2.2.2 (Option.some.inj e)), hS.prot⟩
  have HS1 := Aside0.mk hS1
  clear hS hL hv hD1 htu hW1 hne hS1 hkey
  have b1 : decide (at_ ≤ now) = false := decide_eq_false (by omega)
  have b2 : decide ((Maps.size D : Int) ≥ 8192) = false := decide_eq_false (by omega)
  go_enter Try.func18, Try.ntmps18
  go_wp2_with fail
  refine (wheel_slot.calls g m now at_ x R w1 HS1.out.whl hx h0 ha.1).mono ?_
  rintro e w2 ⟨rfl, hb⟩
  have HS2 := Aside0.mk (HS1.out.below hb HS1.out.size)
  obtain ⟨j, hj⟩ : ∃ j, j = slotOf at_ x := ⟨_, rfl⟩
  have hj2 : j < 257 := by rw [hj]; exact slotOf_lt at_ x
  rw [← hj]
  have HJ := Aside0.mk hj
  clear hj hb hlook hlen hst c0 cm HS1 hx
  have cr := HS2.out.whl.ring_ j hj2
  have fr := HS2.out.whl.frozen (1 + j)
  have HRj := Aside0.mk (HS2.out.row j hj2)
  have hsz := HS2.out.size
  have hgw := HS2.out.whl.lt
  go_wp2_with ((with_reducible refine gate_builtin (b := .append) (xs := #[.tmp 49, .tmp 53]) rfl ?_); at_builtin; refine Kd.R_append kT (w0 := w0) base rfl (.tmp 49) (.tmp 53) 76 84 (.agg #[.int .u64 0, .int .u64 0]) 16 rfl Try.underlying76 info84 rfl (by decide) (by decide) (R j) (L j) (id, at_) [.int .u64 id, .int .u64 at_] (fun k => (if k < w2.heap.size then f k else j) = j) (fun _ => False) rfl rfl (kT_M _ _ _ _) (fun _ h => h.elim) ?aF ?aO HS2.out.bel hsz ?aL ?_; (case aF => exact (fun k hk => by rw [if_neg (by omega)])); (case aO => exact (Kd.R_mono HRj.out (fun k hk => by split; exact hk; rfl))); (case aL => have := HL.out j; omega); intro v3 w3 ho hb hg hat; obtain ⟨A3, q3, hv3⟩ := Kd.R_slice ho; subst hv3; have HR3 := Aside0.mk ho; have HB3 := Aside0.mk hb; have HG3 := Aside0.mk hg; have HW3 := Aside0.mk (HS2.out.whl.grown hg (TR.not_wheel HRj.out HS2.out.whl)); have f3 := HW3.out.frozen (1 + j); have c3 := HW3.out.ring_ j hj2; clear ho hb hg hat)
  go_ret
  have e3 : (L j ++ [(id, at_)]).length = (L j).length + 1 := by simp
  rw [e3] at HR3
  refine ⟨rfl, upd R j (.slice A3 ((L j).length + 1) q3), fun k => if k < w2.heap.size then f k else j, HW3.out.put j hj2 _, ?_, fun i hi => ?_, HB3.out.setCell (p := ⟨g, 1 + j, none⟩) HS2.out.hg _, HS2.out.hg, HS2.out.hm, fun k hk => (Below.heap_setCell w3 ⟨g, 1 + j, none⟩ _ k (HS2.out.prot k hk).2.2.1).trans (HS2.out.keepG HG3.out (HS2.out.notRow (by omega) HRj.out.1) k hk), HS2.out.protG j⟩
  · refine Due.same HS2.out.due ((Below.heap_setCell w3 ⟨g, 1 + j, none⟩ _ m (fun e => HS2.out.gm e.symm)).trans (HG3.out.block m (World.ownsMap.lt HS2.out.due) (TR.not_map HRj.out HS2.out.due)))
  · show TR _ base (fun k => if k < w2.heap.size then f k else j) i (upd R j _ i) (if i = slotOf at_ x then L i ++ [(id, at_)] else L i)
    rw [← HJ.out]
    unfold upd
    by_cases e : i = j
    · subst e
      rw [if_pos rfl, if_pos rfl]
      exact TR.store HR3.out HW3.out _ _
    · rw [if_neg e, if_neg e]
      exact TR.store (TR.other (HS2.out.row i hi) e HRj.out.1 HG3.out) HW3.out _ _
end Go.Proofs.Ytkgdlmgodpgcoaa.Hand
