/- A range over a function that hands over memory of its own making: the contract of such a function tells each round what it has made (Y); the statement 'for x := range f', outermost and within a round. -/
import Derived.RangeFuncNested
import Derived.RangeFuncBound
import Derived.RangeFuncCalls
namespace Go.Proofs.YtdlfhpkkkhfhdaaDoor.Hand
open Go.RowKit
set_option linter.unusedVariables false

variable {α : Type} {F : Fence} {P : Program}
/-- What a function that is ranged over promises: it calls yield in turn on values x of which Y tells (behind the rounds pre) what they are and where they lie; Kp is what a round must keep. -/
def SeqY (F : Fence) (n : Nat) (P : Program) (g : Nat) (lb : Array Value) (encs : α → Array Value) (Y : List α → α → World → Prop) (Kp : World → World → Prop) (S Sp : List α → Prop) (w : World) : Prop :=
  ∀ (l : Nat) (J Jx : List α → World → Prop) (W : World), Below w.heap.size w W → AbidesFrom W.heap.size J → AbidesFrom W.heap.size Jx →
    (∀ pre x W1, J pre W1 → Y pre x W1 → YieldAt F (n - 1) P l (encs x) W1 fun e W' =>
      (e = .returned (.bool true) ∧ J (pre ++ [x]) W' ∧ Kp W1 W') ∨ (e = .returned (.bool false) ∧ Jx (pre ++ [x]) W')) →
    J [] W → CallsIn F n P g (#[.func (.yield l) #[] #[]] ++ lb) W fun e W' => (∃ v, e = .returned v) ∧ ((∃ xs, S xs ∧ J xs W') ∨ (∃ pre, Sp pre ∧ Jx pre W'))
/-- It abides a turn of the loop's own record. -/
def Stands (L : Nat) (I : World → Prop) : Prop := ∀ W o, I W → (∃ r, W.heap[L]? = some (.loop r)) → I (W.putObj L o)
theorem stands_of {β : Type} {B L : Nat} {I : β → World → Prop} (h : OwnFrom B I) (hB : B ≤ L) (s : β) : Stands L (I s) := fun W o hi ⟨r, hr⟩ => h.putObj o hi hB hr rfl
/-- One round: what the loop's record bears is walked; the record is ready again, or bears the jump. -/
theorem yieldAt_round {m L B : Nat} {R0 : Loop} (hBL : B ≤ L) (hfn : F.fn R0.fn) (hst : R0.state = .ready) (hpe : R0.pending = none) {args : Array Value} (hps : args.size = R0.params.size)
    {Kp : World → World → Prop} (hKt : ∀ {A B C : World}, Kp A B → Kp B C → Kp A C) (hKb : ∀ (W : World) (r : Loop) (o : Obj), W.heap[L]? = some (.loop r) → Kp W (W.putObj L o))
    {I0 I1 : World → Prop} {Ix : Code → World → Prop} {Ax : Act → World → Prop} (h0 : Stands L I0) (h1 : Stands L I1) (hx : ∀ c, Stands L (Ix c)) (hA : ∀ a, Stands L (Ax a)) {W : World}
    (hassign : R0.assign.wpIn (F.inRound L) m P (Exit.then (fun a' W' => KeepsFrom B W W' ∧ Kp W W' ∧ I0 W' ∧ Ax a' W') (fun _ _ _ => False)) { tmps := (R0.params.zip args).foldl (fun t (p, v) => t.setIfInBounds p v) R0.tmps, defers := [] } W)
    (hbody : ∀ a' W', W.heap.size ≤ W'.heap.size → I0 W' → Ax a' W' → (∃ r, W'.heap[L]? = some (.loop r)) → R0.body.wpIn (F.inRound L) m P (ownPostG B Kp (fun _ : List Unit => I1) (fun c _ => Ix c) [] W') a' W')
    (hl : W.heap[L]? = some (.loop R0)) :
    YieldAt F m P L args W fun e W' => (e = .returned (.bool true) ∧ (I1 W' ∧ W'.heap[L]? = some (.loop R0)) ∧ Kp W W') ∨ (e = .returned (.bool false) ∧ ∃ c, Ix c W' ∧ W'.heap[L]? = some (.loop { R0 with state := .done, pending := some c })) := by
  refine ⟨R0.fn, _, R0.assign, R0.body, run_yield hl hps, roundIn_of_wpIn hfn (wpIn_mono hassign ?_)⟩
  intro e a1 W1 h
  cases e with
  | normal =>
    obtain ⟨hkf, hkp, hi, hax⟩ := h
    have hl1 := hkf.same L _ hBL hl rfl
    have hlt : L < W1.heap.size := (Array.getElem?_eq_some_iff.1 hl1).1
    refine ⟨_, run_beginRound hl1 hst, ?_⟩
    obtain ⟨W2, hW2⟩ : ∃ W2, W2 = W1.putObj L (.loop { R0 with state := .busy }) := ⟨_, rfl⟩
    have hl2 : W2.heap[L]? = some (.loop { R0 with state := .busy }) := by rw [hW2]; exact World.putObj_heap_same hlt
    have hk2 : Kp W1 W2 := by rw [hW2]; exact hKb _ _ _ hl1
    have hi2 : I0 W2 := by rw [hW2]; exact h0 _ _ hi ⟨_, hl1⟩
    have hax2 : Ax a1 W2 := by rw [hW2]; exact hA a1 _ _ hax ⟨_, hl1⟩
    have hs2 : W.heap.size ≤ W2.heap.size := by rw [hW2]; exact Nat.le_trans hkf.size (grownBy_putObj' W1 L _).size
    rw [← hW2]
    refine wpIn_mono (hbody a1 W2 hs2 hi2 hax2 ⟨_, hl2⟩) ?_
    have fin : ∀ (jump : Option Code) (W3 : World), KeepsFrom B W2 W3 → ∃ W4, (Instr.endRound L jump).run P W3 = .ok (.bool jump.isNone) W4 ∧ W4 = W3.putObj L (.loop { R0 with state := if jump.isNone then .ready else .done, pending := jump }) ∧ W3.heap[L]? = some (.loop { R0 with state := .busy }) ∧ W4.heap[L]? = some (.loop { R0 with state := if jump.isNone then .ready else .done, pending := jump }) := fun jump W3 hk3 => by
      have hl3 := hk3.same L _ hBL hl2 rfl
      exact ⟨_, run_endRound (P := P) jump hl3, rfl, hl3, World.putObj_heap_same (Array.getElem?_eq_some_iff.1 hl3).1⟩
    have out : ∀ (c : Code) (W3 : World), KeepsFrom B W2 W3 ∧ Ix c W3 → ∃ v w', (Instr.endRound L (some c)).run P W3 = .ok v w' ∧ ((Ending.returned v = .returned (.bool true) ∧ (I1 w' ∧ w'.heap[L]? = some (.loop R0)) ∧ Kp W w') ∨ (Ending.returned v = .returned (.bool false) ∧ ∃ c, Ix c w' ∧ w'.heap[L]? = some (.loop { R0 with state := .done, pending := some c }))) := fun c W3 hp => by
      obtain ⟨W4, hr, rfl, hl3, hl4⟩ := fin (some c) W3 hp.1
      exact ⟨_, _, hr, .inr ⟨rfl, c, hx c _ _ hp.2 ⟨_, hl3⟩, hl4⟩⟩
    intro e a3 W3 hp
    cases e with
    | normal =>
      obtain ⟨hk3, hkp3, hi3⟩ := hp
      obtain ⟨W4, hr, rfl, hl3, hl4⟩ := fin none W3 hk3
      have hR : ({ R0 with state := if (none : Option Code).isNone then .ready else .done, pending := none } : Loop) = R0 := by cases R0; simp_all
      exact ⟨_, _, hr, .inl ⟨rfl, ⟨h1 _ _ hi3 ⟨_, hl3⟩, hl4.trans (by rw [hR])⟩, hKt hkp (hKt hk2 (hKt hkp3 (hKb _ _ _ hl3)))⟩⟩
    | ret => exact out .ret W3 hp
    | exit id => exact out (.exit id) W3 hp
    | goto t => exact out (.goto t) W3 hp
    | panic ch => exact hp.elim
    | outgrown => exact hp.elim
  | ret => exact h.elim
  | exit id => exact h.elim
  | goto t => exact h.elim
  | panic ch => exact h.elim
  | outgrown => exact h.elim
/-- What is asked of the two codes of a round. -/
structure RoundY (F : Fence) (m : Nat) (P : Program) (B : Nat) (ps : Array Tmp) (assign body : Code) (tm : Array Value) (encs : α → Array Value) (Y : List α → α → World → Prop) (Kp : World → World → Prop) (I : List α → World → Prop) (Ix : Code → List α → World → Prop) (Ax : List α → α → Act → World → Prop) : Prop where
  assign : ∀ (l : Nat) (pre : List α) (x : α) (W : World), B ≤ l → I pre W → Y pre x W → assign.wpIn (F.inRound l) m P (Exit.then (fun a' W' => KeepsFrom B W W' ∧ Kp W W' ∧ I pre W' ∧ Ax pre x a' W') (fun _ _ _ => False)) { tmps := (ps.zip (encs x)).foldl (fun t (p, v) => t.setIfInBounds p v) tm, defers := [] } W
  body : ∀ (l : Nat) (pre : List α) (x : α) (a' : Act) (W : World), B ≤ l → (∃ r, W.heap[l]? = some (.loop r)) → I pre W → Ax pre x a' W → body.wpIn (F.inRound l) m P (ownPostG B Kp I Ix (pre ++ [x]) W) a' W
theorem ownPostG_here {B : Nat} {Kp : World → World → Prop} {I : List α → World → Prop} {Ix : Code → List α → World → Prop} {xs : List α} {W : World} {I' : List Unit → World → Prop} {Ix' : Code → List Unit → World → Prop}
    (hI : ∀ W', KeepsFrom B W W' → I xs W' → I' [] W') (hx : ∀ c W', KeepsFrom B W W' → Ix c xs W' → Ix' c [] W') : ∀ e a W', ownPostG B Kp I Ix xs W e a W' → ownPostG B Kp I' Ix' [] W e a W'
  | .normal, _, _, h => ⟨h.1, h.2.1, hI _ h.1 h.2.2⟩
  | .ret, _, _, h => ⟨h.1, hx _ _ h.1 h.2⟩
  | .exit _, _, _, h => ⟨h.1, hx _ _ h.1 h.2⟩
  | .goto _, _, _, h => ⟨h.1, hx _ _ h.1 h.2⟩
  | .panic _, _, _, h => h
  | .outgrown, _, _, h => h
/-- 'for x := range f', outermost. -/
theorem wpIn_rangeY {n : Nat} {g : Operand} {ps : Array Tmp} {assign body : Code} {Q : Exit → Act → World → Prop} {a : Act} {w : World}
    (hro : F.round = none) (hn : 1 ≤ n) {gf : Nat} {lb : Array Value} (hg : a.eval g = .func (.func gf) #[] lb) (hFg : F.fn gf) (eg : ∀ args w, (callFunc gf args).run P w = .ok (.enter gf args) w)
    {encs : α → Array Value} {Y : List α → α → World → Prop} {Kp : World → World → Prop} {S Sp : List α → Prop} {w0 : World} (hseq : SeqY F (n - 1) P gf lb encs Y Kp S Sp w0)
    (hKt : ∀ {A B C : World}, Kp A B → Kp B C → Kp A C) (hKb : ∀ (W : World) (l : Nat) (r : Loop) (o : Obj), w.heap.size ≤ l → W.heap[l]? = some (.loop r) → Kp W (W.putObj l o)) (hb0 : Below w0.heap.size w0 w) (hps : ∀ x, (encs x).size = ps.size)
    (I : List α → World → Prop) (Ix : Code → List α → World → Prop) (Ax : List α → α → Act → World → Prop) (hI : OwnFrom w.heap.size I) (hIx : ∀ c, OwnFrom w.heap.size (Ix c)) (hAx : ∀ pre x a', OwnFrom w.heap.size (fun (_ : Unit) W => Ax pre x a' W))
    (h0 : I [] w) (hR : RoundY F (n - 1 - 1) P w.heap.size ps assign body a.tmps encs Y Kp I Ix Ax)
    (hdone : ∀ (D : Nat) (xs : List α) (W : World), w.heap.size ≤ D → S xs → I xs W → W.heap[D]? = some (.deferred (some [])) → Q .normal { a with defers := { target := .collected D, args := #[] } :: a.defers } W)
    (hstop : ∀ (D : Nat) (c : Code) (pre : List α) (W : World), w.heap.size ≤ D → Sp pre → Ix c pre W → W.heap[D]? = some (.deferred (some [])) → c.wpIn F n P Q { a with defers := { target := .collected D, args := #[] } :: a.defers } W) :
    (Code.rangeFunc g ps assign body).wpIn F n P Q a w := by
  refine wpIn_rangeFunc fun fn hfn => ?_
  rw [hro]
  obtain ⟨R0, hR0⟩ : ∃ R0 : Loop, R0 = { state := .ready, pending := none, fn, tmps := a.tmps, params := ps, assign, body, defers := w.heap.size } := ⟨_, rfl⟩
  obtain ⟨W1, hW1⟩ : ∃ W1, W1 = (w.alloc (.deferred (some []))).alloc (.loop R0) := ⟨_, rfl⟩
  have hs1 : W1.heap.size = w.heap.size + 2 := by rw [hW1]; simp
  have hL1 : W1.heap[w.heap.size + 1]? = some (.loop R0) := by
    have h := World.alloc_heap_new (w.alloc (.deferred (some []))) (.loop R0)
    rw [World.size_alloc] at h
    rw [hW1]; exact h
  have hD1 : W1.heap[w.heap.size]? = some (.deferred (some [])) := by
    rw [hW1]; exact (Below.heap_alloc _ _ _ (by simp)).trans (World.alloc_heap_new w _)
  have hb1 : Below w0.heap.size w0 W1 := by
    rw [hW1]; exact hb0.trans ((((Below.refl _ w).alloc (Nat.le_refl _) _).alloc (by simp) _).mono hb0.size)
  have hi1 : I [] W1 := by rw [hW1]; exact hI.alloc _ (hI.alloc _ h0)
  have hnw : ∀ {A : World} {row : Option Nat}, (∀ r, row = some r → W1.heap.size ≤ r ∧ ∃ o : Obj, A.heap[r]? = some o ∧ o.isWalk = true) → ∀ r, row = some r → w.heap.size ≤ r ∧ ∃ o : Obj, A.heap[r]? = some o ∧ o.isCells = false := fun hr r e => by
    obtain ⟨hB, o, ho, hw⟩ := hr r e
    exact ⟨by omega, o, ho, Obj.not_cells_of_walk hw⟩
  have hkeep : ∀ {A A' : World} {row : Option Nat} {k : Nat} {o : Obj}, k < W1.heap.size → A.grownBy A' row → (∀ r, row = some r → W1.heap.size ≤ r ∧ ∃ o : Obj, A.heap[r]? = some o ∧ o.isWalk = true) → A.heap[k]? = some o → A'.heap[k]? = some o := fun hk hg hr ho =>
    (hg.block _ (Array.getElem?_eq_some_iff.1 ho).1 (fun e => by have := (hr _ e.symm).1; omega)).trans ho
  refine ⟨w.heap.size + 1, [{ target := .collected w.heap.size, args := #[] }], W1, { target := .fn (.func gf) lb, args := #[.func (.yield (w.heap.size + 1)) #[] #[]] }, W1, gf, #[.func (.yield (w.heap.size + 1)) #[] #[]] ++ lb, W1, ?_, ?_, ?_, ?_, fun _ => hn, ?_⟩
  · rw [hW1, hR0]; exact run_enterLoop_outer _ _ _ _ _
  · simp only [resolve, hg]
    simp [go_sem]
  · intro f' hf'
    simp [Target.leads] at hf'
    subst hf'
    exact hFg
  · simp [invoke, go_sem, eg]
  have hst : R0.state = .ready := by rw [hR0]
  have hpe : R0.pending = none := by rw [hR0]
  refine (hseq (w.heap.size + 1)
    (fun pre W => (I pre W ∧ W.heap[w.heap.size]? = some (.deferred (some []))) ∧ W.heap[w.heap.size + 1]? = some (.loop R0))
    (fun pre W => ∃ c, (Ix c pre W ∧ W.heap[w.heap.size]? = some (.deferred (some []))) ∧ W.heap[w.heap.size + 1]? = some (.loop { R0 with state := .done, pending := some c }))
    W1 hb1
    (fun s A A' row hs hg hr => ⟨⟨hI s A A' row hs.1.1 hg (hnw hr), hkeep (by omega) hg hr hs.1.2⟩, hkeep (by omega) hg hr hs.2⟩)
    (fun s A A' row hs hg hr => by
      obtain ⟨c, hc, hl⟩ := hs
      exact ⟨c, ⟨hIx c s A A' row hc.1 hg (hnw hr), hkeep (by omega) hg hr hc.2⟩, hkeep (by omega) hg hr hl⟩)
    ?_ ⟨⟨hi1, hD1⟩, hL1⟩).mono ?_
  · rintro pre x W ⟨⟨hi, hd⟩, hl⟩ hy
    have hD : Stands (w.heap.size + 1) (fun W => W.heap[w.heap.size]? = some (.deferred (some []))) := fun W o h _ => (World.putObj_heap_other (by omega)).trans h
    have hand : ∀ {I : World → Prop}, Stands (w.heap.size + 1) I → Stands (w.heap.size + 1) (fun W => I W ∧ W.heap[w.heap.size]? = some (.deferred (some []))) := fun h W o hh hr => ⟨h W o hh.1 hr, hD W o hh.2 hr⟩
    refine yieldAt_round (L := w.heap.size + 1) (Kp := Kp) (B := w.heap.size) (R0 := R0) (I0 := fun W => I pre W ∧ W.heap[w.heap.size]? = some (.deferred (some []))) (I1 := fun W => I (pre ++ [x]) W ∧ W.heap[w.heap.size]? = some (.deferred (some []))) (Ix := fun c W => Ix c (pre ++ [x]) W ∧ W.heap[w.heap.size]? = some (.deferred (some []))) (Ax := Ax pre x) (by omega) (by rw [hR0]; exact hfn) hst hpe (by rw [hR0]; exact hps x) hKt (fun W r o => hKb W _ r o (by omega)) (hand (stands_of hI (by omega) _)) (hand (stands_of hI (by omega) _)) (fun c => hand (stands_of (hIx c) (by omega) _)) (fun a' => stands_of (hAx pre x a') (by omega) ()) ?_ ?_ hl
    · rw [hR0]
      refine wpIn_mono (hR.assign _ pre x W (by omega) hi hy) ?_
      intro e a' W' h
      cases e with
      | normal => exact ⟨h.1, h.2.1, ⟨h.2.2.1, h.1.same _ _ (Nat.le_refl _) hd rfl⟩, h.2.2.2⟩
      | _ => exact h
    · intro a' W' _ hi' hax hr
      rw [hR0]
      refine wpIn_mono (hR.body _ pre x a' W' (by omega) hr hi'.1 hax) (ownPostG_here ?_ ?_)
      · exact fun W3 hk h => ⟨h, hk.same _ _ (Nat.le_refl _) hi'.2 rfl⟩
      · exact fun c W3 hk h => ⟨h, hk.same _ _ (Nat.le_refl _) hi'.2 rfl⟩
  · rintro e W2 ⟨⟨v, rfl⟩, ⟨xs, hS, ⟨hi, hd⟩, hl⟩ | ⟨pre, hSp, c, ⟨hi, hd⟩, hl⟩⟩
    · refine ⟨R0.pending, _, run_endLoop hl (by rw [hst]; simp), ?_⟩
      rw [hpe]
      exact hdone _ xs _ (Nat.le_refl _) hS (hI.putObj _ hi (by omega) hl rfl) ((World.putObj_heap_other (by omega)).trans hd)
    · exact ⟨some c, _, run_endLoop hl (by simp), hstop _ c pre _ (Nat.le_refl _) hSp ((hIx c).putObj _ hi (by omega) hl rfl) ((World.putObj_heap_other (by omega)).trans hd)⟩
/-- 'for x := range f', within a round of loop l₀. -/
theorem wpIn_rangeY_inner {n : Nat} {g : Operand} {ps : Array Tmp} {assign body : Code} {Q : Exit → Act → World → Prop} {a : Act} {w : World} {l₀ : Nat} {r₀ : Loop}
    (hro : F.round = some l₀) (hl₀ : w.heap[l₀]? = some (.loop r₀)) (hn : 1 ≤ n) {gf : Nat} {lb : Array Value} (hg : a.eval g = .func (.func gf) #[] lb) (hFg : F.fn gf) (eg : ∀ args w, (callFunc gf args).run P w = .ok (.enter gf args) w)
    {encs : α → Array Value} {Y : List α → α → World → Prop} {Kp : World → World → Prop} {S Sp : List α → Prop} {w0 : World} (hseq : SeqY F (n - 1) P gf lb encs Y Kp S Sp w0)
    (hKt : ∀ {A B C : World}, Kp A B → Kp B C → Kp A C) (hKb : ∀ (W : World) (l : Nat) (r : Loop) (o : Obj), w.heap.size ≤ l → W.heap[l]? = some (.loop r) → Kp W (W.putObj l o)) (hb0 : Below w0.heap.size w0 w) (hps : ∀ x, (encs x).size = ps.size)
    (I : List α → World → Prop) (Ix : Code → List α → World → Prop) (Ax : List α → α → Act → World → Prop) (hI : OwnFrom w.heap.size I) (hIx : ∀ c, OwnFrom w.heap.size (Ix c)) (hAx : ∀ pre x a', OwnFrom w.heap.size (fun (_ : Unit) W => Ax pre x a' W))
    (h0 : I [] w) (hR : RoundY F (n - 1 - 1) P w.heap.size ps assign body a.tmps encs Y Kp I Ix Ax)
    (hdone : ∀ (xs : List α) (W : World), S xs → I xs W → Q .normal a W)
    (hstop : ∀ (c : Code) (pre : List α) (W : World), Sp pre → Ix c pre W → c.wpIn F n P Q a W) :
    (Code.rangeFunc g ps assign body).wpIn F n P Q a w := by
  refine wpIn_rangeFunc fun fn hfn => ?_
  rw [hro]
  obtain ⟨R0, hR0⟩ : ∃ R0 : Loop, R0 = { state := .ready, pending := none, fn, tmps := a.tmps, params := ps, assign, body, defers := r₀.defers } := ⟨_, rfl⟩
  obtain ⟨W1, hW1⟩ : ∃ W1, W1 = w.alloc (.loop R0) := ⟨_, rfl⟩
  have hs1 : W1.heap.size = w.heap.size + 1 := by rw [hW1]; simp
  have hL1 : W1.heap[w.heap.size]? = some (.loop R0) := by rw [hW1]; exact World.alloc_heap_new w _
  have hb1 : Below w0.heap.size w0 W1 := by
    rw [hW1]; exact hb0.trans (((Below.refl _ w).alloc (Nat.le_refl _) _).mono hb0.size)
  have hi1 : I [] W1 := by rw [hW1]; exact hI.alloc _ h0
  have hnw : ∀ {A : World} {row : Option Nat}, (∀ r, row = some r → W1.heap.size ≤ r ∧ ∃ o : Obj, A.heap[r]? = some o ∧ o.isWalk = true) → ∀ r, row = some r → w.heap.size ≤ r ∧ ∃ o : Obj, A.heap[r]? = some o ∧ o.isCells = false := fun hr r e => by
    obtain ⟨hB, o, ho, hw⟩ := hr r e
    exact ⟨by omega, o, ho, Obj.not_cells_of_walk hw⟩
  have hkeep : ∀ {A A' : World} {row : Option Nat} {k : Nat} {o : Obj}, k < W1.heap.size → A.grownBy A' row → (∀ r, row = some r → W1.heap.size ≤ r ∧ ∃ o : Obj, A.heap[r]? = some o ∧ o.isWalk = true) → A.heap[k]? = some o → A'.heap[k]? = some o := fun hk hg hr ho =>
    (hg.block _ (Array.getElem?_eq_some_iff.1 ho).1 (fun e => by have := (hr _ e.symm).1; omega)).trans ho
  refine ⟨w.heap.size, [], W1, { target := .fn (.func gf) lb, args := #[.func (.yield w.heap.size) #[] #[]] }, W1, gf, #[.func (.yield w.heap.size) #[] #[]] ++ lb, W1, ?_, ?_, ?_, ?_, fun _ => hn, ?_⟩
  · rw [hW1, hR0]; exact run_enterLoop_inner hl₀ _ _ _ _ _
  · simp only [resolve, hg]
    simp [go_sem]
  · intro f' hf'
    simp [Target.leads] at hf'
    subst hf'
    exact hFg
  · simp [invoke, go_sem, eg]
  have hst : R0.state = .ready := by rw [hR0]
  have hpe : R0.pending = none := by rw [hR0]
  refine (hseq w.heap.size (fun pre W => I pre W ∧ W.heap[w.heap.size]? = some (.loop R0)) (fun pre W => ∃ c, Ix c pre W ∧ W.heap[w.heap.size]? = some (.loop { R0 with state := .done, pending := some c })) W1 hb1
    (fun s A A' row hs hg hr => ⟨hI s A A' row hs.1 hg (hnw hr), hkeep (by omega) hg hr hs.2⟩)
    (fun s A A' row hs hg hr => by
      obtain ⟨c, hc, hl⟩ := hs
      exact ⟨c, hIx c s A A' row hc hg (hnw hr), hkeep (by omega) hg hr hl⟩)
    ?_ ⟨hi1, hL1⟩).mono ?_
  · rintro pre x W ⟨hi, hl⟩ hy
    refine yieldAt_round (L := w.heap.size) (Kp := Kp) (B := w.heap.size) (R0 := R0) (I0 := I pre) (I1 := I (pre ++ [x])) (Ix := fun c => Ix c (pre ++ [x])) (Ax := Ax pre x) (Nat.le_refl _) (by rw [hR0]; exact hfn) hst hpe (by rw [hR0]; exact hps x) hKt (fun W r o => hKb W _ r o (Nat.le_refl _)) (stands_of hI (Nat.le_refl _) _) (stands_of hI (Nat.le_refl _) _) (fun c => stands_of (hIx c) (Nat.le_refl _) _) (fun a' => stands_of (hAx pre x a') (Nat.le_refl _) ()) ?_ ?_ hl
    · rw [hR0]
      exact hR.assign _ pre x W (Nat.le_refl _) hi hy
    · intro a' W' _ hi' hax hr
      rw [hR0]
      exact wpIn_mono (hR.body _ pre x a' W' (Nat.le_refl _) hr hi' hax) (ownPostG_here (fun _ _ h => h) (fun _ _ _ h => h))
  · rintro e W2 ⟨⟨v, rfl⟩, ⟨xs, hS, hi, hl⟩ | ⟨pre, hSp, c, hi, hl⟩⟩
    · refine ⟨R0.pending, _, run_endLoop hl (by rw [hst]; simp), ?_⟩
      rw [hpe]
      exact hdone xs _ hS (hI.putObj _ hi (Nat.le_refl _) hl rfl)
    · exact ⟨some c, _, run_endLoop hl (by simp), hstop c pre _ hSp ((hIx c).putObj _ hi (Nat.le_refl _) hl rfl)⟩
/-- The two codes of a round, where the assignments lay one box: a₁ is what the round's places hold then. -/
theorem roundY_box {m B : Nat} {ps : Array Tmp} {assign body : Code} {tm : Array Value} {encs : α → Array Value} {Y : List α → α → World → Prop} {Kp : World → World → Prop} {I : List α → World → Prop} {Ix : Code → List α → World → Prop} (a₁ : α → Nat → Act) (Bx : List α → α → Nat → World → Prop)
    (hassign : ∀ (l : Nat) (pre : List α) (x : α) (W : World), B ≤ l → I pre W → Y pre x W → assign.wpIn (F.inRound l) m P (Exit.then (fun a' W' => ∃ b, a' = a₁ x b ∧ KeepsFrom B W W' ∧ Kp W W' ∧ I pre W' ∧ Bx pre x b W') (fun _ _ _ => False)) { tmps := (ps.zip (encs x)).foldl (fun t (p, v) => t.setIfInBounds p v) tm, defers := [] } W)
    (hbody : ∀ (l : Nat) (pre : List α) (x : α) (b : Nat) (W : World), B ≤ l → (∃ r, W.heap[l]? = some (.loop r)) → I pre W → Bx pre x b W → body.wpIn (F.inRound l) m P (ownPostG B Kp I Ix (pre ++ [x]) W) (a₁ x b) W) :
    RoundY F m P B ps assign body tm encs Y Kp I Ix (fun pre x a' W => ∃ b, a' = a₁ x b ∧ Bx pre x b W) where
  assign := fun l pre x W hl hi hy => wpIn_mono (hassign l pre x W hl hi hy) (fun e a' W' h => by
    cases e with
    | normal =>
      obtain ⟨b, h1, h2, h3, h4, h5⟩ := h
      exact ⟨h2, h3, h4, b, h1, h5⟩
    | _ => exact h)
  body := fun l pre x a' W hl hr hi ⟨b, hb, hx⟩ => by
    subst hb
    exact hbody l pre x b W hl hr hi hx
theorem ownFrom_box {B : Nat} {a₁ : α → Nat → Act} {Bx : List α → α → Nat → World → Prop} (h : ∀ pre x b, OwnFrom B (fun (_ : Unit) W => Bx pre x b W)) (pre : List α) (x : α) (a' : Act) : OwnFrom B (fun (_ : Unit) W => ∃ b, a' = a₁ x b ∧ Bx pre x b W) := fun s W W' row ⟨b, h1, h2⟩ hg hr =>
  ⟨b, h1, h pre x b s W W' row h2 hg hr⟩
/-- 'for x := range f', outermost, where the assignments lay one box. -/
theorem wpIn_rangeB {n : Nat} {g : Operand} {ps : Array Tmp} {assign body : Code} {Q : Exit → Act → World → Prop} {a : Act} {w : World}
    (hro : F.round = none) (hn : 1 ≤ n) {gf : Nat} {lb : Array Value} (hg : a.eval g = .func (.func gf) #[] lb) (hFg : F.fn gf) (eg : ∀ args w, (callFunc gf args).run P w = .ok (.enter gf args) w)
    {encs : α → Array Value} {Y : List α → α → World → Prop} {Kp : World → World → Prop} {S Sp : List α → Prop} {w0 : World} (hseq : SeqY F (n - 1) P gf lb encs Y Kp S Sp w0)
    (hKt : ∀ {A B C : World}, Kp A B → Kp B C → Kp A C) (hKb : ∀ (W : World) (l : Nat) (r : Loop) (o : Obj), w.heap.size ≤ l → W.heap[l]? = some (.loop r) → Kp W (W.putObj l o)) (hb0 : Below w0.heap.size w0 w) (hps : ∀ x, (encs x).size = ps.size)
    (I : List α → World → Prop) (Ix : Code → List α → World → Prop) (Bx : List α → α → Nat → World → Prop) (hI : OwnFrom w.heap.size I) (hIx : ∀ c, OwnFrom w.heap.size (Ix c)) (hBx : ∀ pre x b, OwnFrom w.heap.size (fun (_ : Unit) W => Bx pre x b W))
    (h0 : I [] w) (a₁ : α → Nat → Act)
    (hassign : ∀ (l : Nat) (pre : List α) (x : α) (W : World), w.heap.size ≤ l → I pre W → Y pre x W → assign.wpIn (F.inRound l) (n - 1 - 1) P (Exit.then (fun a' W' => ∃ b, a' = a₁ x b ∧ KeepsFrom w.heap.size W W' ∧ Kp W W' ∧ I pre W' ∧ Bx pre x b W') (fun _ _ _ => False)) { tmps := (ps.zip (encs x)).foldl (fun t (p, v) => t.setIfInBounds p v) a.tmps, defers := [] } W)
    (hbody : ∀ (l : Nat) (pre : List α) (x : α) (b : Nat) (W : World), w.heap.size ≤ l → (∃ r, W.heap[l]? = some (.loop r)) → I pre W → Bx pre x b W → body.wpIn (F.inRound l) (n - 1 - 1) P (ownPostG w.heap.size Kp I Ix (pre ++ [x]) W) (a₁ x b) W)
    (hdone : ∀ (D : Nat) (xs : List α) (W : World), w.heap.size ≤ D → S xs → I xs W → W.heap[D]? = some (.deferred (some [])) → Q .normal { a with defers := { target := .collected D, args := #[] } :: a.defers } W)
    (hstop : ∀ (D : Nat) (c : Code) (pre : List α) (W : World), w.heap.size ≤ D → Sp pre → Ix c pre W → W.heap[D]? = some (.deferred (some [])) → c.wpIn F n P Q { a with defers := { target := .collected D, args := #[] } :: a.defers } W) :
    (Code.rangeFunc g ps assign body).wpIn F n P Q a w :=
  wpIn_rangeY hro hn hg hFg eg hseq hKt hKb hb0 hps I Ix _ hI hIx (ownFrom_box hBx) h0 (roundY_box a₁ Bx hassign hbody) hdone hstop
/-- The same within a round. -/
theorem wpIn_rangeB_inner {n : Nat} {g : Operand} {ps : Array Tmp} {assign body : Code} {Q : Exit → Act → World → Prop} {a : Act} {w : World} {l₀ : Nat} {r₀ : Loop}
    (hro : F.round = some l₀) (hl₀ : w.heap[l₀]? = some (.loop r₀)) (hn : 1 ≤ n) {gf : Nat} {lb : Array Value} (hg : a.eval g = .func (.func gf) #[] lb) (hFg : F.fn gf) (eg : ∀ args w, (callFunc gf args).run P w = .ok (.enter gf args) w)
    {encs : α → Array Value} {Y : List α → α → World → Prop} {Kp : World → World → Prop} {S Sp : List α → Prop} {w0 : World} (hseq : SeqY F (n - 1) P gf lb encs Y Kp S Sp w0)
    (hKt : ∀ {A B C : World}, Kp A B → Kp B C → Kp A C) (hKb : ∀ (W : World) (l : Nat) (r : Loop) (o : Obj), w.heap.size ≤ l → W.heap[l]? = some (.loop r) → Kp W (W.putObj l o)) (hb0 : Below w0.heap.size w0 w) (hps : ∀ x, (encs x).size = ps.size)
    (I : List α → World → Prop) (Ix : Code → List α → World → Prop) (Bx : List α → α → Nat → World → Prop) (hI : OwnFrom w.heap.size I) (hIx : ∀ c, OwnFrom w.heap.size (Ix c)) (hBx : ∀ pre x b, OwnFrom w.heap.size (fun (_ : Unit) W => Bx pre x b W))
    (h0 : I [] w) (a₁ : α → Nat → Act)
    (hassign : ∀ (l : Nat) (pre : List α) (x : α) (W : World), w.heap.size ≤ l → I pre W → Y pre x W → assign.wpIn (F.inRound l) (n - 1 - 1) P (Exit.then (fun a' W' => ∃ b, a' = a₁ x b ∧ KeepsFrom w.heap.size W W' ∧ Kp W W' ∧ I pre W' ∧ Bx pre x b W') (fun _ _ _ => False)) { tmps := (ps.zip (encs x)).foldl (fun t (p, v) => t.setIfInBounds p v) a.tmps, defers := [] } W)
    (hbody : ∀ (l : Nat) (pre : List α) (x : α) (b : Nat) (W : World), w.heap.size ≤ l → (∃ r, W.heap[l]? = some (.loop r)) → I pre W → Bx pre x b W → body.wpIn (F.inRound l) (n - 1 - 1) P (ownPostG w.heap.size Kp I Ix (pre ++ [x]) W) (a₁ x b) W)
    (hdone : ∀ (xs : List α) (W : World), S xs → I xs W → Q .normal a W)
    (hstop : ∀ (c : Code) (pre : List α) (W : World), Sp pre → Ix c pre W → c.wpIn F n P Q a W) :
    (Code.rangeFunc g ps assign body).wpIn F n P Q a w :=
  wpIn_rangeY_inner hro hl₀ hn hg hFg eg hseq hKt hKb hb0 hps I Ix _ hI hIx (ownFrom_box hBx) h0 (roundY_box a₁ Bx hassign hbody) hdone hstop
/-- 'for x := range f', outermost, where a break leads to the same place. -/
theorem wpIn_rangeB_tail {id n : Nat} {g : Operand} {ps : Array Tmp} {assign body : Code} {Q : Exit → Act → World → Prop} {a : Act} {w : World}
    (hro : F.round = none) (hn : 1 ≤ n) {gf : Nat} {lb : Array Value} (hg : a.eval g = .func (.func gf) #[] lb) (hFg : F.fn gf) (eg : ∀ args w, (callFunc gf args).run P w = .ok (.enter gf args) w)
    {encs : α → Array Value} {Y : List α → α → World → Prop} {Kp : World → World → Prop} {S Sp : List α → Prop} {w0 : World} (hseq : SeqY F (n - 1) P gf lb encs Y Kp S Sp w0)
    (hKt : ∀ {A B C : World}, Kp A B → Kp B C → Kp A C) (hKb : ∀ (W : World) (l : Nat) (r : Loop) (o : Obj), w.heap.size ≤ l → W.heap[l]? = some (.loop r) → Kp W (W.putObj l o)) (hb0 : Below w0.heap.size w0 w) (hps : ∀ x, (encs x).size = ps.size)
    (I : List α → World → Prop) (Ix : Code → List α → World → Prop) (Bx : List α → α → Nat → World → Prop) (hI : OwnFrom w.heap.size I) (hIx : ∀ c, OwnFrom w.heap.size (Ix c)) (hBx : ∀ pre x b, OwnFrom w.heap.size (fun (_ : Unit) W => Bx pre x b W))
    (h0 : I [] w) (a₁ : α → Nat → Act)
    (hassign : ∀ (l : Nat) (pre : List α) (x : α) (W : World), w.heap.size ≤ l → I pre W → Y pre x W → assign.wpIn (F.inRound l) (n - 1 - 1) P (Exit.then (fun a' W' => ∃ b, a' = a₁ x b ∧ KeepsFrom w.heap.size W W' ∧ Kp W W' ∧ I pre W' ∧ Bx pre x b W') (fun _ _ _ => False)) { tmps := (ps.zip (encs x)).foldl (fun t (p, v) => t.setIfInBounds p v) a.tmps, defers := [] } W)
    (hbody : ∀ (l : Nat) (pre : List α) (x : α) (b : Nat) (W : World), w.heap.size ≤ l → (∃ r, W.heap[l]? = some (.loop r)) → I pre W → Bx pre x b W → body.wpIn (F.inRound l) (n - 1 - 1) P (ownPostG w.heap.size Kp I Ix (pre ++ [x]) W) (a₁ x b) W)
    (T : Nat → World → Prop) (hT1 : ∀ (D : Nat) (xs : List α) (W : World), w.heap.size ≤ D → S xs → I xs W → W.heap[D]? = some (.deferred (some [])) → T D W)
    (hT2 : ∀ (D : Nat) (c : Code) (pre : List α) (W : World), w.heap.size ≤ D → Sp pre → Ix c pre W → W.heap[D]? = some (.deferred (some [])) → c = .exit id ∧ T D W)
    (hrest : ∀ (D : Nat) (W : World), w.heap.size ≤ D → T D W → W.heap[D]? = some (.deferred (some [])) → Q .normal { a with defers := { target := .collected D, args := #[] } :: a.defers } W) :
    (Code.rangeFunc g ps assign body).wpIn F n P (Exit.inBlock id Q) a w :=
  wpIn_rangeB hro hn hg hFg eg hseq hKt hKb hb0 hps I Ix Bx hI hIx hBx h0 a₁ hassign hbody (fun D xs W hD hS hi hd => hrest D W hD (hT1 D xs W hD hS hi hd) hd) (fun D c pre W hD hS hi hd => by
    obtain ⟨rfl, hT⟩ := hT2 D c pre W hD hS hi hd
    refine wpIn_exit ?_
    show (if id = id then Q .normal _ W else _)
    rw [if_pos rfl]
    exact hrest D W hD hT hd)
end Go.Proofs.YtdlfhpkkkhfhdaaDoor.Hand
