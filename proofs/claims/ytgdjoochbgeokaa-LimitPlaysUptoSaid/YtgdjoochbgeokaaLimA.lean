/- Limit: what lies in memory, what a map tells, and the small functions at, is, forward. -/
import Derived.Test.YtgdjoochbgeokaaProg
import Derived.Test.YtgdjoochbgeokaaWMore
import Derived.Below
import Derived.WalkKit
import Derived.Outline
import Derived.StringKeys
import Derived.Maps.RangeWalk
import Derived.Maps.OwnSet
import Derived.Maps.OwnOps
import Derived.Maps.Views
namespace Go.Proofs.Ytgdjoochbgeokaa.Hand
open Go.RowKit Go.Maps Go.Proofs.YtgdjoochbgeokaaW.PrintWords Go.Proofs.YtgdjoochbgeokaaW.PrintLast Go.Proofs.YtgdjoochbgeokaaW.PrintMore
set_option linter.unusedVariables false
set_option linter.unusedSimpArgs false

theorem grownBy_setCellL (w : World) (p : Addr) (v : Value) : w.grownBy (w.setCell p v) (some p.block) := ⟨rfl, rfl, rfl, by simp [World.setCell], fun k _ hk => Below.heap_setCell w p v k (fun e => hk (by rw [e]))⟩
/-- Blocks of S may turn, new ones may come. -/
structure KeptL (S : Nat → Prop) (w w' : World) : Prop where
  os : w'.os = w.os
  tape : w'.tape = w.tape
  output : w'.output = w.output
  size : w.heap.size ≤ w'.heap.size
  block : ∀ b, b < w.heap.size → ¬ S b → w'.heap[b]? = w.heap[b]?
theorem KeptL.refl (S : Nat → Prop) (w : World) : KeptL S w w := ⟨rfl, rfl, rfl, Nat.le_refl _, fun _ _ _ => rfl⟩
theorem KeptL.trans {S : Nat → Prop} {a b c : World} (h : KeptL S a b) (k : KeptL S b c) : KeptL S a c :=
  ⟨k.os.trans h.os, k.tape.trans h.tape, k.output.trans h.output, Nat.le_trans h.size k.size, fun i hi hS => (k.block i (Nat.lt_of_lt_of_le hi h.size) hS).trans (h.block i hi hS)⟩
theorem KeptL.grown {S : Nat → Prop} {a w w' : World} {row : Option Nat} (h : KeptL S a w) (hg : w.grownBy w' row) (hr : ∀ k, row = some k → S k ∨ a.heap.size ≤ k) : KeptL S a w' :=
  ⟨hg.os.trans h.os, hg.tape.trans h.tape, hg.output.trans h.output, Nat.le_trans h.size hg.size, fun b hb hS => (hg.block b (Nat.lt_of_lt_of_le hb h.size) (fun e => by
    rcases hr b e.symm with h1 | h1
    · exact hS h1
    · omega)).trans (h.block b hb hS)⟩
theorem KeptL.of_below {S : Nat → Prop} {w w' : World} (h : Below w.heap.size w w') : KeptL S w w' := ⟨h.os, h.tape, h.output, h.size, fun b hb _ => h.block b hb⟩
theorem KeptL.step {S : Nat → Prop} {a w w' : World} (h : KeptL S a w) (k : Below w.heap.size w w') : KeptL S a w' := h.trans (KeptL.of_below k)
theorem KeptL.drew {S : Nat → Prop} {a w : World} (h : KeptL S a w) : KeptL S a w.drew := ⟨h.os, h.tape, h.output, h.size, h.block⟩
theorem KeptL.setCell {S : Nat → Prop} {a w : World} (h : KeptL S a w) (p : Addr) (v : Value) (hp : S p.block ∨ a.heap.size ≤ p.block) : KeptL S a (w.setCell p v) :=
  h.grown (row := some p.block) (grownBy_setCellL w p v) (fun k e => by cases e; exact hp)
theorem KeptL.alloc {S : Nat → Prop} {a w : World} (h : KeptL S a w) (o : Obj) : KeptL S a (w.alloc o) := h.grown (World.grownBy_alloc w o none) (fun k e => by cases e)
theorem KeptL.below {S : Nat → Prop} {w w' : World} {B : Nat} (h : KeptL S w w') (hB : B ≤ w.heap.size) (hS : ∀ b, S b → B ≤ b) : Below B w w' :=
  ⟨h.os, h.tape, h.output, h.size, fun k hk => h.block k (by omega) (fun hs => by have := hS k hs; omega)⟩

/-- A limit's cells; its map is block m. -/
def LimAt (w : World) (g m : Nat) (tr mo sp ck : Int) : Prop := w.heap[g]? = some (.cells #[.int .i64 tr, .int .i64 mo, .int .u64 sp, .int .u64 ck, .map (some m)] 58 (0, 0))

abbrev DW := DataW Unit
def wv (b u : Int) : DW := .agg [.lit (.int .u64 b), .lit (.int .i64 u)]
/-- How a window reads. -/
def IsWin (v : Value) (p : Int × Int) : Prop := v = .agg #[.int .u64 p.1, .int .i64 p.2] ∧ (Lit.int .u64 p.1).wf = true ∧ (Lit.int .i64 p.2).wf = true
open Classical in
noncomputable def winElem (v : Value) : Option (DW × List MemPlace) := if h : ∃ p, IsWin v p then some (wv (Classical.choose h).1 (Classical.choose h).2, []) else none
theorem winElem_inv {v : Value} {z : DW × List MemPlace} (h : winElem v = some z) : ∃ p : Int × Int, v = .agg #[.int .u64 p.1, .int .i64 p.2] ∧ z = (wv p.1 p.2, []) ∧ (Lit.int .u64 p.1).wf = true ∧ (Lit.int .i64 p.2).wf = true := by
  unfold winElem at h
  split at h
  · rename_i hx
    cases h
    exact ⟨_, (Classical.choose_spec hx).1, rfl, (Classical.choose_spec hx).2.1, (Classical.choose_spec hx).2.2⟩
  · cases h
theorem winElem_mk {b u : Int} (hb : (Lit.int .u64 b).wf = true) (hu : (Lit.int .i64 u).wf = true) : winElem (.agg #[.int .u64 b, .int .i64 u]) = some (wv b u, []) := by
  have hx : ∃ p, IsWin (.agg #[.int .u64 b, .int .i64 u]) p := ⟨(b, u), rfl, hb, hu⟩
  unfold winElem
  rw [dif_pos hx]
  have h := (Classical.choose_spec hx).1
  simp only [Value.agg.injEq, Array.mk.injEq, List.cons.injEq, Value.int.injEq, true_and, and_true] at h
  rw [← h.1, ← h.2]
def ks (s : ByteArray) : Lit := .string s.data.toList
theorem ks_key (s : ByteArray) : WideAt.IsKeyLit (ks s) := trivial
theorem ks_inj {s t : ByteArray} (h : ks s = ks t) : s = t := by
  unfold ks at h
  injection h with h
  cases s; cases t
  simp only at h
  congr 1
  exact Array.ext' h

/-- What a map tells of a key. -/
def view (D : DW) (k : Lit) : Option DW := if Maps.has D k then some (D.atKey k (wv 0 0)) else none
theorem view_put_same {D : DW} (hD : IsMap D) {k : Lit} (hk : WideAt.IsKeyLit k) (d : DW) : view (D.put k d) k = some d := by unfold view; rw [has_put_same hD hk, atKey_put_same hD hk]; rfl
theorem view_put_other {D : DW} {k k' : Lit} (hne : k' ≠ k) (d : DW) : view (D.put k d) k' = view D k' := by unfold view; rw [has_put_other hne, atKey_put_other hne]
theorem view_del_same {D : DW} {k : Lit} : view (D.del k) k = none := by unfold view; rw [has_del_same]; rfl
theorem view_del_other {D : DW} {k k' : Lit} (hne : k' ≠ k) : view (D.del k) k' = view D k' := by unfold view; rw [has_del_other hne, atKey_del_other hne]
theorem view_none {D : DW} {k : Lit} (h : Maps.has D k = false) : view D k = none := by unfold view; rw [h]; rfl
theorem view_some {D : DW} {k : Lit} {y : DW} (h : ∀ z, D.atKey k z = y) : view D k = some y := by unfold view; rw [has_true_of_atKey h, h]; rfl
theorem has_view {D : DW} {k : Lit} : Maps.has D k = (view D k).isSome := by unfold view; cases Maps.has D k <;> rfl

abbrev Owns (w : World) (m n : Nat) (D : DW) : Prop := w.ownsMap Try.prog 9 winElem m n D
theorem Owns.tight {w : World} {m n : Nat} {D : DW} (h : Owns w m n D) : Owns w m (Maps.size D) D := by
  obtain ⟨es, clock, h1, h2, h3, h4⟩ := h
  refine ⟨es, clock, h1, h2, ?_, h4⟩
  rw [h4]
  show es.size ≤ List.length _
  rw [length_read]
  exact Nat.le_refl _
theorem lawS : Keyed Try.prog 9 := string_keyed Try.underlying9
theorem Owns.below {w w' : World} {m n : Nat} {D : DW} (h : Owns w m n D) (hb : Below w.heap.size w w') : Owns w' m n D := by
  obtain ⟨es, clock, h1, h2, h3, h4⟩ := h
  exact ⟨es, clock, blk_below h1 hb, h2, h3, h4⟩
theorem Owns.not_lim {w : World} {g m n : Nat} {tr mo sp ck : Int} {D : DW} (h : Owns w m n D) (hL : LimAt w g m tr mo sp ck) : m ≠ g := by
  obtain ⟨es, clock, h1, _⟩ := h
  intro e
  rw [e] at h1
  rw [LimAt, h1] at hL
  cases hL
theorem LimAt.below {w w' : World} {g m : Nat} {tr mo sp ck : Int} (h : LimAt w g m tr mo sp ck) (hb : Below w.heap.size w w') : LimAt w' g m tr mo sp ck := blk_below h hb
theorem LimAt.grown {w w' : World} {g m : Nat} {tr mo sp ck : Int} {row : Option Nat} (h : LimAt w g m tr mo sp ck) (hg : w.grownBy w' row) (hne : some g ≠ row) : LimAt w' g m tr mo sp ck := blk_grown h hg hne
theorem LimAt.clock {w : World} {g m : Nat} {tr mo sp ck : Int} (h : LimAt w g m tr mo sp ck) (c : Int) : LimAt (w.setCell ⟨g, 3, none⟩ (.int .u64 c)) g m tr mo sp c := blk_put h 3 _ rfl

/-- max, as the program has it. -/
theorem limit_at.calls (g m : Nat) (tr mo sp ck now : Int) (w : World) (hL : LimAt w g m tr mo sp ck) :
    Calls Try.prog 29 #[.pointer (some ⟨g, 0, none⟩), .int .u64 now] w fun e w' => e = .returned (.int .u64 (max now ck)) ∧ w' = w := by
  have c3 := (blk_cell hL 3).trans rfl
  go_enter Try.func29, Try.ntmps29
  go_wp2_with fail
  all_goals
    go_ret
    exact ⟨by first | exact congrArg (fun z => Ending.returned (Value.int .u64 z)) (show ck = max now ck by omega) | exact congrArg (fun z => Ending.returned (Value.int .u64 z)) (show now = max now ck by omega), rfl⟩
def aliveB (t b sp : Int) : Bool := decide (IntKind.u64.wrap (t - b) < sp)
theorem limit_is.calls (g m : Nat) (tr mo sp ck b u t : Int) (w : World) (hL : LimAt w g m tr mo sp ck) :
    Calls Try.prog 30 #[.pointer (some ⟨g, 0, none⟩), .agg #[.int .u64 b, .int .i64 u], .int .u64 t] w fun e w' => e = .returned (.bool (aliveB t b sp)) ∧ Below w.heap.size w w' := by
  have hL2 : LimAt (w.alloc (.cells #[.int .u64 b, .int .i64 u] 54 (0, 0))) g m tr mo sp ck := blk_alloc hL _
  have c2 := (blk_cell hL2 2).trans rfl
  have d0 := (blk_cell (blk_new w (.cells #[.int .u64 b, .int .i64 u] 54 (0, 0))) 0).trans rfl
  go_enter Try.func30, Try.ntmps30
  go_wp2_with fail
  refine start_ (n := 10) (S := fun w' => w'.cell? ⟨w.heap.size, 0, none⟩ = some (.int .u64 b) ∧ w'.cell? ⟨g, 2, none⟩ = some (.int .u64 sp)) (ds := []) #[false, false, false, false, false, false, false, false, false, false] (by kernel_rfl) rfl rfl ⟨d0, c2⟩ (fun hHeld => ?_)
  refine pure_ (i := 0) (N := some 7) (v := ?_) (a' := ?_) #[true, false, false, false, false, false, false, false, false, false] rfl rfl (by kernel_rfl) (fun _ _ _ h => h) (Or.inl ⟨by rfl, ?_⟩) ?_ ?_
  rotate_left
  · intro w'
    go_simp
    with_reducible rfl
  rotate_left
  · simp only [Act.put, List.setIfInBounds_toArray, List.set_cons_zero, List.set_cons_succ, i64_w, i32_w]
    rfl
  refine pure_ (i := 1) (N := some 8) (v := ?_) (a' := ?_) #[true, true, false, false, false, false, false, false, false, false] rfl rfl (by kernel_rfl) (fun _ _ _ h => h) (Or.inl ⟨by rfl, ?_⟩) ?_ ?_
  rotate_left
  · intro w'
    go_simp
    with_reducible rfl
  rotate_left
  · simp only [Act.put, List.setIfInBounds_toArray, List.set_cons_zero, List.set_cons_succ, i64_w, i32_w]
    rfl
  refine pure_ (i := 4) (N := some 11) (v := ?_) (a' := ?_) #[true, true, false, false, true, false, false, false, false, false] rfl rfl (by kernel_rfl) (fun _ _ _ h => h) (Or.inl ⟨by rfl, ?_⟩) ?_ ?_
  rotate_left
  · intro w'
    go_simp
    with_reducible rfl
  rotate_left
  · simp only [Act.put, List.setIfInBounds_toArray, List.set_cons_zero, List.set_cons_succ, i64_w, i32_w]
    rfl
  refine pure_ (i := 5) (N := some 12) (v := ?_) (a' := ?_) #[true, true, false, false, true, true, false, false, false, false] rfl rfl (by kernel_rfl) (fun _ _ _ h => h) (Or.inl ⟨by rfl, ?_⟩) ?_ ?_
  rotate_left
  · intro w'
    go_simp
    with_reducible rfl
  rotate_left
  · simp only [Act.put, List.setIfInBounds_toArray, List.set_cons_zero, List.set_cons_succ, i64_w, i32_w]
    rfl
  refine pure_ (i := 6) (N := some 13) (v := ?_) (a' := ?_) #[true, true, false, false, true, true, true, false, false, false] rfl rfl (by kernel_rfl) (fun _ _ _ h => h) (Or.inl ⟨by rfl, ?_⟩) ?_ ?_
  rotate_left
  · intro w'
    go_simp
    with_reducible rfl
  rotate_left
  · simp only [Act.put, List.setIfInBounds_toArray, List.set_cons_zero, List.set_cons_succ, i64_w, i32_w]
    rfl
  refine take_ (i := 2) (N := some 9) (v := ?_) (a' := ?_) #[true, true, true, false, true, true, true, false, false, false] rfl rfl (by kernel_rfl) (fun _ _ _ h => h) (Or.inl ⟨by rfl, ?_⟩) hHeld ?_ ?_
  rotate_left
  · rintro w' ⟨s0, s1⟩
    go_simp
    with_reducible rfl
  rotate_left
  · simp only [Act.put, List.setIfInBounds_toArray, List.set_cons_zero, List.set_cons_succ, i64_w, i32_w]
    rfl
  refine pure_ (i := 3) (N := some 10) (v := ?_) (a' := ?_) #[true, true, true, true, true, true, true, false, false, false] rfl rfl (by kernel_rfl) (fun _ _ _ h => h) (Or.inl ⟨by rfl, ?_⟩) ?_ ?_
  rotate_left
  · intro w'
    go_simp
    with_reducible rfl
  rotate_left
  · simp only [Act.put, List.setIfInBounds_toArray, List.set_cons_zero, List.set_cons_succ, i64_w, i32_w]
    rfl
  refine take_ (i := 7) (N := some 14) (v := ?_) (a' := ?_) #[true, true, true, true, true, true, true, true, false, false] rfl rfl (by kernel_rfl) (fun _ _ _ h => h) (Or.inl ⟨by rfl, ?_⟩) hHeld ?_ ?_
  rotate_left
  · rintro w' ⟨s0, s1⟩
    go_simp
    with_reducible rfl
  rotate_left
  · simp only [Act.put, List.setIfInBounds_toArray, List.set_cons_zero, List.set_cons_succ, i64_w, i32_w]
    rfl
  refine pure_ (i := 8) (N := some 15) (v := ?_) (a' := ?_) #[true, true, true, true, true, true, true, true, true, false] rfl rfl (by kernel_rfl) (fun _ _ _ h => h) (Or.inl ⟨by rfl, ?_⟩) ?_ ?_
  rotate_left
  · intro w'
    go_simp
    with_reducible rfl
  rotate_left
  · simp only [Act.put, List.setIfInBounds_toArray, List.set_cons_zero, List.set_cons_succ, i64_w, i32_w]
    rfl
  refine pure_ (i := 9) (N := some 6) (v := ?_) (a' := ?_) #[true, true, true, true, true, true, true, true, true, true] rfl rfl (by kernel_rfl) (fun _ _ _ h => h) (Or.inl ⟨by rfl, ?_⟩) ?_ ?_
  rotate_left
  · intro w'
    go_simp
    with_reducible rfl
  rotate_left
  · simp only [Act.put, List.setIfInBounds_toArray, List.set_cons_zero, List.set_cons_succ, i64_w, i32_w]
    rfl
  refine done_ (by kernel_rfl) ?_
  go_wp2_with fail
  go_ret
  exact ⟨rfl, below_drew1 (below_alloc (Below.refl _ _) _)⟩
end Go.Proofs.Ytgdjoochbgeokaa.Hand
