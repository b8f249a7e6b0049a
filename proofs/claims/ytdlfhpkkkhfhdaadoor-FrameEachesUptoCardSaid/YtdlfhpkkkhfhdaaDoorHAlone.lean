/- law01's alone(): lists of bytes, each on a block of its own, written full and grown: the walk. -/
import Derived.Test.YtdlfhpkkkhfhdaaDoorProg
import Derived.Test.YtdlfhpkkkhfhdaaDoorWMore
import Derived.Below
import Derived.WalkKit
import Derived.Outline
namespace Go.Proofs.YtdlfhpkkkhfhdaaDoor.Hand
open Go.RowKit Go.Proofs.YtdlfhpkkkhfhdaaDoorW.PrintWords Go.Proofs.YtdlfhpkkkhfhdaaDoorW.PrintLast Go.Proofs.YtdlfhpkkkhfhdaaDoorW.PrintMore
set_option linter.unusedVariables false

theorem al_info8 : (Tryd.prog.info? 5).map (fun i => (i.zero, i.size, i.bytes)) = some (some (.int .u8 0), 1, 1) := by kernel_rfl
theorem al_info22 : (Tryd.prog.info? 22).map (fun i => (i.zero, i.size, i.bytes)) = some (some (.slice none 0 0), 1, 24) := by kernel_rfl

/-- A list of bytes as a value: where, how long, what room. -/
abbrev Sl := Option Addr × Nat × Nat
abbrev Sl0 : Sl := (none, 0, 0)
def Sl.v (r : Sl) : Value := .slice r.1 r.2.1 r.2.2

/-- All but the blocks of S is as it was. -/
structure Kept (S : Nat → Prop) (w w' : World) : Prop where
  os : w'.os = w.os
  tape : w'.tape = w.tape
  output : w'.output = w.output
  size : w.heap.size ≤ w'.heap.size
  block : ∀ b, b < w.heap.size → ¬ S b → w'.heap[b]? = w.heap[b]?
theorem Kept.refl (S : Nat → Prop) (w : World) : Kept S w w := ⟨rfl, rfl, rfl, Nat.le_refl _, fun _ _ _ => rfl⟩
theorem Kept.grown {S : Nat → Prop} {a w w' : World} {row : Option Nat} (h : Kept S a w) (hg : w.grownBy w' row) (hr : ∀ k, row = some k → S k ∨ a.heap.size ≤ k) : Kept S a w' :=
  ⟨hg.os.trans h.os, hg.tape.trans h.tape, hg.output.trans h.output, Nat.le_trans h.size hg.size, fun b hb hS => (hg.block b (Nat.lt_of_lt_of_le hb h.size) (fun e => by
    rcases hr b e.symm with h1 | h1
    · exact hS h1
    · omega)).trans (h.block b hb hS)⟩
theorem Kept.below {S : Nat → Prop} {w w' : World} {B : Nat} (h : Kept S w w') (hB : B ≤ w.heap.size) (hS : ∀ b, S b → B ≤ b) : Below B w w' :=
  ⟨h.os, h.tape, h.output, h.size, fun k hk => h.block k (by omega) (fun hs => by have := hS k hs; omega)⟩

def Blk (rows : List Sl) (b : Nat) : Prop := ∃ k, k < rows.length ∧ (Sl.v (rows.getD k Sl0)).ownBlock = some b
abbrev RB (w : World) (B : Nat) (v : Value) (xs : List Int) : Prop := Kd.R (Kd.int .u8) 5 w B (fun _ => True) v xs
def markOf (k : Nat) : Int := ((k : Int) + 1) % 256
def nk (rows : List Sl) (k : Nat) : Nat := (rows.getD k Sl0).2.1

theorem outer_kept {w w' : World} {LA : Option Addr} {rows : List Sl} (h : ReadsOf Sl.v Sl0 w LA rows.length rows) (hsep : ∀ ad, LA = some ad → ¬ Blk rows ad.block) (hk : Kept (Blk rows) w w') : ReadsOf Sl.v Sl0 w' LA rows.length rows :=
  ⟨h.1, h.2.1, fun hn => by
    obtain ⟨ad, e, hc⟩ := h.2.2 hn
    refine ⟨ad, e, fun j hj => ?_⟩
    have h1 := hc j hj
    have hb : (ad.add j).block = ad.block := by unfold Addr.add; split <;> rfl
    have h2 := World.block_lt_of_cell? w _ h1
    rw [hb] at h2
    rw [← h1]
    exact World.cell?_of_block (by rw [hb]; exact hk.block _ h2 (hsep ad e))⟩

theorem RB_len {w : World} {B : Nat} {r : Sl} {xs : List Int} (h : RB w B r.v xs) : xs.length = r.2.1 := by
  obtain ⟨A, c, he⟩ := Kd.R_slice h
  injection he with _ h2 _
  exact h2.symm
theorem RB_move {w w' : World} {B : Nat} {v : Value} {xs : List Int} {row : Option Nat} (h : RB w B v xs) (hg : w.grownBy w' row) (hne : ∀ k, v.ownBlock = some k → row ≠ some k) : RB w' B v xs := by
  have h1 : Kd.R (Kd.int .u8) 5 w B (fun k => v.ownBlock = some k) v xs := ⟨fun k hk => hk, (show OwnRow _ _ _ _ _ _ _ from by
    obtain ⟨_, inner, ho, hr⟩ := h
    exact ⟨inner, ho, hr⟩)⟩
  exact Kd.R_mono (Kd.R_grown h1 hg (fun k hk e => hne k hk e.symm)) (fun _ _ => trivial)

/-- The first loop: the lists ahead of i are full of their marks. -/
structure A1 (w0 : World) (B : Nat) (rows : List Sl) (i : Nat) (w : World) : Prop where
  kept : Kept (Blk rows) w0 w
  row : ∀ k, k < rows.length → ∃ X, RB w B (Sl.v (rows.getD k Sl0)) X ∧ (k < i → X = List.replicate (nk rows k) (markOf k))
/-- ... and the i-th one up to j. -/
structure I1 (W1 : World) (B : Nat) (r : Sl) (i j : Nat) (w : World) : Prop where
  row : ∃ Y, RB w B r.v Y ∧ ∀ m, m < j → Y[m]? = some (markOf i)
  grown : W1.grownBy w r.v.ownBlock

def Pair (rows : List Sl) : Prop := ∀ i j, i < rows.length → j < rows.length → i ≠ j → ∀ b, (Sl.v (rows.getD i Sl0)).ownBlock = some b → (Sl.v (rows.getD j Sl0)).ownBlock ≠ some b

theorem A1.done {w0 W1 w : World} {B : Nat} {rows : List Sl} {i : Nat} (hP : Pair rows) (hi : i < rows.length) (h : A1 w0 B rows i W1) (h1 : I1 W1 B (rows.getD i Sl0) i (nk rows i) w) : A1 w0 B rows (i + 1) w := by
  obtain ⟨⟨Y, hY, hm⟩, hg⟩ := h1
  refine ⟨h.kept.grown hg (fun k hk => .inl ⟨i, hi, hk⟩), fun k hk => ?_⟩
  by_cases e : k = i
  · subst e
    refine ⟨Y, hY, fun _ => ?_⟩
    have hl := RB_len hY
    apply List.ext_getElem?
    intro m
    rw [List.getElem?_replicate]
    split
    · exact hm m ‹_›
    · rw [List.getElem?_eq_none]
      have : ¬ m < nk rows k := ‹_›
      unfold nk at this
      omega
  · obtain ⟨X, hX, hx⟩ := h.row k hk
    exact ⟨X, RB_move hX hg (fun b hb => hP k i hk hi e b hb), fun hlt => hx (by omega)⟩

/-- The second loop. -/
def okA (LA : Option Addr) (rows : List Sl) (i : Nat) (b : Nat) : Prop := (∀ ad, LA = some ad → b ≠ ad.block) ∧ ∀ k, i ≤ k → k < rows.length → (Sl.v (rows.getD k Sl0)).ownBlock ≠ some b
def big (rows : List Sl) (k : Nat) : List Int := List.replicate (nk rows k + 64) (markOf k)
structure A2 (w0 : World) (B : Nat) (LA : Option Addr) (rows : List Sl) (i : Nat) (v : Value) (w : World) : Prop where
  kept : Kept (Blk rows) w0 w
  cells : ∀ k, k < rows.length → Kd.C (Kd.int .u8) w (rows.getD k Sl0).1 (nk rows k) (List.replicate (nk rows k) (markOf k))
  row : ∀ k, i ≤ k → k < rows.length → RB w B (Sl.v (rows.getD k Sl0)) (List.replicate (nk rows k) (markOf k))
  more : Kd.R (Kd.slice 5 (Kd.int .u8)) 22 w B (okA LA rows i) v ((List.range i).map (big rows))
  new : ∀ b, v.ownBlock = some b → w0.heap.size ≤ b
structure I2 (W1 : World) (B : Nat) (r : Sl) (i j : Nat) (v : Value) (w : World) : Prop where
  grown : W1.grownBy w r.v.ownBlock
  row : RB w B v (List.replicate (r.2.1 + j) (markOf i))
  cells : Kd.C (Kd.int .u8) w r.1 r.2.1 (List.replicate r.2.1 (markOf i))
  at_ : v.ownBlock = r.v.ownBlock ∨ ∃ b, v.ownBlock = some b ∧ W1.heap.size ≤ b

theorem C_move {w w' : World} {A : Option Addr} {n : Nat} {xs : List Int} (h : Kd.C (Kd.int .u8) w A n xs) (hm : ∀ ad, A = some ad → ad.block < w.heap.size → w'.heap[ad.block]? = w.heap[ad.block]?) : Kd.C (Kd.int .u8) w' A n xs := by
  have h0 := Kd.reads_of_C (enc := Value.int .u8) (h1 := fun _ => rfl) (d := (0 : Int)) h
  refine Kd.C_of_reads (enc := Value.int .u8) (h1 := fun _ => rfl) (d := (0 : Int)) ⟨h0.1, h0.2.1, fun hn => ?_⟩
  obtain ⟨ad, e, hc⟩ := h0.2.2 hn
  refine ⟨ad, e, fun j hj => ?_⟩
  have h1 := hc j hj
  have hb : (ad.add j).block = ad.block := by unfold Addr.add; split <;> rfl
  have h2 := World.block_lt_of_cell? w _ h1
  rw [hb] at h2
  rw [← h1]
  exact World.cell?_of_block (by rw [hb]; exact hm ad e h2)

/-- Where a list lies that has something. -/
def Form (rows : List Sl) (s : Nat) : Prop := ∀ k, k < rows.length → 0 < nk rows k → ∃ g, (rows.getD k Sl0).1 = some ⟨g, 0, none⟩ ∧ g < s ∧ (Sl.v (rows.getD k Sl0)).ownBlock = some g
theorem C_zero (w : World) (A : Option Addr) : Kd.C (Kd.int .u8) w A 0 [] := ⟨rfl, by decide, fun h => absurd h (Nat.lt_irrefl _)⟩
theorem C_form {w w' : World} {rows : List Sl} {s k : Nat} {xs : List Int} (hF : Form rows s) (hk : k < rows.length) (h : Kd.C (Kd.int .u8) w (rows.getD k Sl0).1 (nk rows k) xs)
    (hm : ∀ g, (Sl.v (rows.getD k Sl0)).ownBlock = some g → g < s → w'.heap[g]? = w.heap[g]?) : Kd.C (Kd.int .u8) w' (rows.getD k Sl0).1 (nk rows k) xs := by
  by_cases h0 : 0 < nk rows k
  · obtain ⟨g, hg, hlt, ho⟩ := hF k hk h0
    refine C_move h (fun ad e _ => ?_)
    rw [hg] at e
    obtain rfl := Option.some.inj e
    exact hm g ho hlt
  · have : xs = [] := List.eq_nil_of_length_eq_zero (by have := h.1; omega)
    subst this
    have e : nk rows k = 0 := by omega
    rw [e]
    exact C_zero _ _
theorem Form.of {w : World} {B : Nat} {rows : List Sl} (hR : ∀ k, k < rows.length → ∃ X, RB w B (Sl.v (rows.getD k Sl0)) X) : Form rows w.heap.size := by
  intro k hk h0
  obtain ⟨X, hX⟩ := hR k hk
  have hl := RB_len hX
  obtain ⟨g, cap, he, hb, hlt, _⟩ := Kd.R_form hX (by unfold nk at h0; omega)
  refine ⟨g, ?_, hlt, by rw [he]; rfl⟩
  unfold Sl.v at he
  injection he
theorem Blk.of {w : World} {B : Nat} {rows : List Sl} (hR : ∀ k, k < rows.length → ∃ X, RB w B (Sl.v (rows.getD k Sl0)) X) : ∀ b, Blk rows b → B ≤ b ∧ b < w.heap.size := by
  rintro b ⟨k, hk, hb⟩
  obtain ⟨X, hX⟩ := hR k hk
  obtain ⟨inner, ho⟩ := Kd.R_own hX
  exact ⟨own_base ho b hb, own_lt ho b hb⟩

theorem A1.next {w0 w : World} {B : Nat} {LA : Option Addr} {rows : List Sl} (h : A1 w0 B rows rows.length w) : A2 w0 B LA rows 0 (.slice none 0 0) w := by
  refine ⟨h.kept, fun k hk => ?_, fun k _ hk => ?_, Kd.R_nil _ _ _ _ _, fun b hb => by simp [Value.ownBlock] at hb⟩
  · obtain ⟨X, hX, hx⟩ := h.row k hk
    obtain rfl := hx hk
    have h1 := (Kd.R_reads' (A := (rows.getD k Sl0).1) (n := nk rows k) (c := (rows.getD k Sl0).2.2) hX).2.2
    rwa [List.length_replicate] at h1
  · obtain ⟨X, hX, hx⟩ := h.row k hk
    obtain rfl := hx hk
    exact hX

theorem I2.step {W1 w w1 : World} {B : Nat} {r : Sl} {i j : Nat} {v v1 : Value} (hf : 0 < r.2.1 → ∃ g, r.1 = some ⟨g, 0, none⟩ ∧ g < W1.heap.size ∧ r.v.ownBlock = some g) (h : I2 W1 B r i j v w)
    (ho : RB w1 B v1 (List.replicate (r.2.1 + j) (markOf i) ++ [markOf i])) (hg : w.grownBy w1 v.ownBlock) (hat : v1.ownBlock = v.ownBlock ∨ ((∃ b, v1.ownBlock = some b ∧ w.heap.size ≤ b) ∧ w.grownBy w1 none)) : I2 W1 B r i (j + 1) v1 w1 := by
  have hr : List.replicate (r.2.1 + j) (markOf i) ++ [markOf i] = List.replicate (r.2.1 + (j + 1)) (markOf i) := by rw [← Nat.add_assoc, List.replicate_succ']
  rw [hr] at ho
  have hgo := h.grown
  refine ⟨⟨hg.os.trans hgo.os, hg.tape.trans hgo.tape, hg.output.trans hgo.output, Nat.le_trans hgo.size hg.size, fun k hk hne => ?_⟩, ho, ?_, ?_⟩
  · refine (hg.block k (Nat.lt_of_lt_of_le hk hgo.size) (fun e => ?_)).trans (hgo.block k hk hne)
    rcases h.at_ with h1 | ⟨b, h1, h2⟩
    · exact hne (e.trans h1)
    · rw [h1] at e; injection e with e; omega
  · by_cases h0 : 0 < r.2.1
    · obtain ⟨g, hA, hlt, hrg⟩ := hf h0
      have move : w1.heap[g]? = w.heap[g]? → Kd.C (Kd.int .u8) w1 r.1 r.2.1 (List.replicate r.2.1 (markOf i)) := fun e => C_move h.cells (fun ad ea _ => by
        rw [hA] at ea
        obtain rfl := Option.some.inj ea
        exact e)
      rcases hat with h1 | ⟨_, h2⟩
      · rcases h.at_ with h3 | ⟨b, h3, h4⟩
        · obtain ⟨g1, cap, he, _, _, _⟩ := Kd.R_form ho (by rw [List.length_replicate]; omega)
          have e1 : g1 = g := by
            have : v1.ownBlock = some g := by rw [h1, h3, hrg]
            rw [he] at this
            exact Option.some.inj this
          subst e1
          rw [he, List.length_replicate] at ho
          have hc := Kd.C_take (m := r.2.1) ((Kd.R_reads' ho).2.2) (by rw [List.length_replicate]; omega)
          rw [List.take_replicate, Nat.min_eq_left (by omega), List.length_replicate] at hc
          rw [hA]
          exact hc
        · exact move (hg.block g (by have := hgo.size; omega) (fun e => by rw [h3] at e; injection e with e; omega))
      · exact move (h2.block g (by have := hgo.size; omega) (by simp))
    · have e : r.2.1 = 0 := by omega
      rw [e]
      exact C_zero _ _
  · rcases hat with h1 | ⟨⟨b, h1, h2⟩, _⟩
    · rw [h1]; exact h.at_
    · exact .inr ⟨b, h1, Nat.le_trans hgo.size h2⟩

/-- Ahead of 'more = append(more, m)'. -/
structure A2m (w0 : World) (B : Nat) (LA : Option Addr) (rows : List Sl) (i : Nat) (v m : Value) (w : World) : Prop where
  kept : Kept (Blk rows) w0 w
  cells : ∀ k, k < rows.length → Kd.C (Kd.int .u8) w (rows.getD k Sl0).1 (nk rows k) (List.replicate (nk rows k) (markOf k))
  row : ∀ k, i + 1 ≤ k → k < rows.length → RB w B (Sl.v (rows.getD k Sl0)) (List.replicate (nk rows k) (markOf k))
  more : Kd.R (Kd.slice 5 (Kd.int .u8)) 22 w B (okA LA rows (i + 1)) v ((List.range i).map (big rows))
  new : ∀ b, v.ownBlock = some b → w0.heap.size ≤ b
  mrow : Kd.R (Kd.int .u8) 5 w B (fun b => okA LA rows (i + 1) b ∧ some b ≠ v.ownBlock) m (big rows i)

theorem A2.mid {w0 W1 w : World} {B : Nat} {LA : Option Addr} {rows : List Sl} {i : Nat} {v m : Value} (hP : Pair rows) (hF : Form rows w0.heap.size) (hBlk : ∀ b, Blk rows b → B ≤ b ∧ b < w0.heap.size)
    (hsep : ∀ ad, LA = some ad → ¬ Blk rows ad.block) (hL : ∀ ad, LA = some ad → ad.block < w0.heap.size) (hi : i < rows.length) (h : A2 w0 B LA rows i v W1) (h1 : I2 W1 B (rows.getD i Sl0) i 64 m w) : A2m w0 B LA rows i v m w := by
  have hne : ∀ k, k < rows.length → k ≠ i → ∀ b, (Sl.v (rows.getD k Sl0)).ownBlock = some b → (Sl.v (rows.getD i Sl0)).ownBlock ≠ some b := fun k hk e b hb => hP k i hk hi e b hb
  refine ⟨h.kept.grown h1.grown (fun k hk => .inl ⟨i, hi, hk⟩), fun k hk => ?_, fun k hk hlt => RB_move (h.row k (by omega) hlt) h1.grown (fun b hb => hne k hlt (by omega) b hb), ?_, h.new, ?_⟩
  · by_cases e : k = i
    · subst e
      exact h1.cells
    · exact C_form hF hk (h.cells k hk) (fun g hg hlt => h1.grown.block g (Nat.lt_of_lt_of_le hlt h.kept.size) (fun e2 => hne k hk e g hg e2.symm))
  · exact Kd.R_mono (Kd.R_step h.more (fun k hk hlt => h1.grown.block k hlt (fun e => hk.2 i (Nat.le_refl _) hi e.symm))) (fun b hb => ⟨hb.1, fun k hk hlt => hb.2 k (by omega) hlt⟩)
  · refine ⟨fun b hb => ⟨⟨fun ad hA e => ?_, fun k hk hlt e => ?_⟩, fun e => ?_⟩, ?_⟩
    · rcases h1.at_ with h2 | ⟨b1, h2, h3⟩
      · exact hsep ad hA ⟨i, hi, by rw [← h2, hb, e]⟩
      · rw [hb] at h2
        obtain rfl := Option.some.inj h2
        have := hL ad hA
        have := h.kept.size
        omega
    · rcases h1.at_ with h2 | ⟨b1, h2, h3⟩
      · exact hne k hlt (by omega) b e (by rw [← h2, hb])
      · rw [hb] at h2
        obtain rfl := Option.some.inj h2
        have := (hBlk b ⟨k, hlt, e⟩).2
        have := h.kept.size
        omega
    · obtain ⟨inner, ho⟩ := Kd.R_own h1.row
      obtain ⟨cells, hc⟩ := own_typed ho b hb
      have hmore := Kd.R_step h.more (fun k hk hlt => h1.grown.block k hlt (fun e => hk.2 i (Nat.le_refl _) hi e.symm))
      exact Kd.R_ne hmore hc (by decide) e
    · have h2 := h1.row.2
      have h3 : Kd.R (Kd.int .u8) 5 w B (fun b => okA LA rows (i + 1) b ∧ True) m (big rows i) → OwnRow ((Kd.int .u8).M w B (fun k => True ∧ some k ≠ m.ownBlock)) 5 1 w B m (big rows i) := fun h => h.2
      exact h2

theorem A2m.done {w0 w w1 : World} {B : Nat} {LA : Option Addr} {rows : List Sl} {i : Nat} {v m v1 : Value} (hF : Form rows w0.heap.size) (hBlk : ∀ b, Blk rows b → B ≤ b ∧ b < w0.heap.size) (h : A2m w0 B LA rows i v m w)
    (ho : Kd.R (Kd.slice 5 (Kd.int .u8)) 22 w1 B (okA LA rows (i + 1)) v1 ((List.range i).map (big rows) ++ [big rows i])) (hg : w.grownBy w1 v.ownBlock) (hat : v1.ownBlock = v.ownBlock ∨ ∃ b, v1.ownBlock = some b ∧ w.heap.size ≤ b) : A2 w0 B LA rows (i + 1) v1 w1 := by
  refine ⟨h.kept.grown hg (fun k hk => .inr (h.new k hk)), fun k hk => C_form hF hk (h.cells k hk) (fun g _ hlt => hg.block g (Nat.lt_of_lt_of_le hlt h.kept.size) (fun e => by have := h.new g e.symm; omega)),
    fun k hk hlt => RB_move (h.row k hk hlt) hg (fun b hb e => by have h2 := h.new b e; have := (hBlk b ⟨k, hlt, hb⟩).2; omega), by rw [List.range_succ, List.map_append]; exact ho, fun b hb => ?_⟩
  rcases hat with h1 | ⟨b1, h1, h2⟩
  · exact h.new b (by rw [← h1]; exact hb)
  · rw [hb] at h1
    obtain rfl := Option.some.inj h1
    exact Nat.le_trans h.kept.size h2

section
variable {P : Program}
theorem run_append_apart (w : World) (base : Nat) (t ty e : TypeId) (i : TypeInfo) (z : Value) (size bytes : Nat) (ht : P.underlying t = some (.slice e)) (hi : P.info? e = some i) (hz : i.zero = some z)
    (hsize : i.size = size) (hby : i.bytes = bytes) (hzs : z.cells.size = size) (hsz : 0 < size)
    (v : Value) (n : Nat) (xs : List Value) (hown : w.ownsRow base e size v n xs)
    (a : Addr) (m c : Nat) (news : List Value) (hl : news.length = m * size) (hnews : ∀ j u, news[j]? = some u → w.cell? (a.add j) = some u) (h1 : ∀ u ∈ news, u.oneCell' = true)
    (h63 : n + m ≤ maxLen) (hbytes : (n + m) * bytes ≤ 140737488355328) (hbase : base ≤ w.heap.size) :
    ∃ v' w', (Builtin.append_ #[t, t] ty #[v, .slice (some a) m c]).run P w = .ok v' w' ∧ w'.ownsRow base e size v' (n + m) (xs ++ news) ∧ w.grownBy w' v.ownBlock ∧
      (v'.ownBlock = v.ownBlock ∨ (v'.ownBlock = some w.heap.size ∧ w.grownBy w' none)) := by
  obtain ⟨v', w', hr, h2, h3, _, h5⟩ := run_append_own_at (P := P) w base t ty e i z size bytes ht hi hz hsize hby hzs hsz v n xs hown a m c news hl hnews h1 h63 hbytes hbase
  refine ⟨v', w', hr, h2, h3, ?_⟩
  rcases h5 with h5 | h5
  · exact .inl h5
  · subst hsize
    subst hby
    rcases hown.2 with ⟨rfl, _⟩ | ⟨g, cap, cur, rfl, hbg, hg, hnc, hcm, hcs, htake⟩
    · exact .inr ⟨h5, h3⟩
    · by_cases hroom : n + m ≤ cap
      · have hfit : n * i.size + news.length ≤ cur.size := by rw [hl, hcs, ← Nat.add_mul]; exact Nat.mul_le_mul_right _ hroom
        have hr2 := run_append_room (P := P) w t ty e i ht hi g n cap cur hg a m c news hl hnews h1 hroom hfit
        rw [hr] at hr2
        injection hr2 with e1 _
        left
        rw [e1]
        rfl
      · have holds : ∀ j u, xs[j]? = some u → w.cell? ((⟨g, 0, none⟩ : Addr).add j) = some u := hown.cells (g := g) rfl
        have hr2 := run_append_grow (P := P) w t ty e i z ht hi hz ⟨g, 0, none⟩ n cap xs hown.1 holds a m c news hl hnews (by omega) (by simp only [maxLen] at h63; omega) (growslice_fits (by omega) hbytes)
        rw [hr] at hr2
        injection hr2 with _ e2
        refine .inr ⟨h5, ?_⟩
        rw [e2]
        exact ⟨rfl, rfl, rfl, by simp, fun k hk _ => heap_alloc_old w.drew _ hk⟩
variable {ops : Array Oper} {rest : List Oper} {o : Oper} {a : Act} {Q : Exit → Act → World → Prop}
theorem print_append_apart {W : World} (base : Nat) (hgd : o.guard = none) (s x : Operand) (t : TypeId)
    (ho : o.op = .call { callee := .builtin .append, args := #[s, x], argTypes := #[t, t] })
    (ht : P.underlying t = some (.slice 5)) (hinfo : (P.info? 5).map (fun i => (i.zero, i.size, i.bytes)) = some (some (.int .u8 0), 1, 1))
    (v : Value) (xs : List Int) (y : Int) (hs : a.eval s = v) (hx : a.eval x = .slice (some ⟨W.heap.size, 0, none⟩) 1 1)
    (HO : RB W base v xs) (hbase : base ≤ W.heap.size) (hl : xs.length + 1 ≤ 140737488355328)
    (h : ∀ v1 w1, RB w1 base v1 (xs ++ [y]) → W.grownBy w1 v.ownBlock → (v1.ownBlock = v.ownBlock ∨ ((∃ b, v1.ownBlock = some b ∧ W.heap.size ≤ b) ∧ W.grownBy w1 none)) → wpList P ops Q rest (a.put o.dst v1) w1) :
    wpList P ops Q (o :: rest) a (W.alloc (.cells #[.int .u8 y] 5)) := by
  obtain ⟨i0, hi, hzz⟩ := Option.map_eq_some_iff.1 hinfo
  simp only [Prod.mk.injEq] at hzz
  obtain ⟨hz0, hz1, hz2⟩ := hzz
  have hown := Kd.own_of_R HO
  refine wpList_plain hgd fun K hK => ?_
  obtain ⟨v1, w1, hr, h2, h3, h5⟩ := run_append_apart (P := P) (W.alloc (.cells #[.int .u8 y] 5)) base t o.type 5 i0 (.int .u8 0) 1 1 ht hi hz0 hz1 hz2 rfl (by omega) v xs.length _ (hown.alloc _) ⟨W.heap.size, 0, none⟩ 1 1 [.int .u8 y] rfl
    (World.news_of_block (cs := #[.int .u8 y]) (t := 5) (fr := (0, 0)) (heap_alloc_new W _)) (by simp [Value.oneCell']) (by simp only [maxLen]; omega) (by omega) (by simp; omega)
  unfold Oper.wp execOp
  simp only [ho, resolve, invoke, builtin, Sem.run_bind, Sem.run_pure, Result.andThen_ok, List.map_toArray, List.map_cons, List.map_nil, hs, hx, hr]
  refine hK _ _ (h v1 w1 (Kd.R_of_own (by simpa [encs] using h2) (fun _ _ => trivial)) (World.grownBy.trans (World.grownBy_alloc W _ _) h3) ?_)
  rcases h5 with h5 | ⟨h5, h6⟩
  · exact .inl h5
  · exact .inr ⟨⟨_, h5, by simp⟩, World.grownBy.trans (World.grownBy_alloc W _ _) h6⟩
end
theorem I1.step {W1 w : World} {B : Nat} {g n c : Nat} {i j : Nat} (hj : j < n) (h : I1 W1 B (some ⟨g, 0, none⟩, n, c) i j w) : I1 W1 B (some ⟨g, 0, none⟩, n, c) i (j + 1) (w.setCell ⟨g, j, none⟩ (.int .u8 (markOf i))) := by
  obtain ⟨⟨Y, hY, hm⟩, hg⟩ := h
  have hl := RB_len hY
  have hs := Kd.R_putn (enc := Value.int .u8) (h1 := fun _ => rfl) hY (j : Int) (markOf i)
  rw [Int.toNat_natCast] at hs
  refine ⟨⟨_, hs, fun m hlt => ?_⟩, World.grownBy.trans hg ⟨rfl, rfl, rfl, by simp [World.setCell], fun k hk hne => Below.heap_setCell _ _ _ _ (fun e => hne (by rw [e]; rfl))⟩⟩
  rw [List.getElem?_set]
  by_cases e : j = m
  · subst e
    rw [if_pos rfl, if_pos (by rw [hl]; exact hj)]
  · rw [if_neg e]
    exact hm m (by omega)
theorem RB_sl {w : World} {B : Nat} {A : Option Addr} {n c : Nat} {xs : List Int} (h : RB w B (Sl.v (A, n, c)) xs) (h0 : 0 < n) : ∃ g, A = some ⟨g, 0, none⟩ ∧ g < w.heap.size := by
  have hl := RB_len h
  obtain ⟨g, cap, he, _, hlt, _⟩ := Kd.R_form h (by rw [hl]; exact h0)
  unfold Sl.v at he
  injection he with e1 _ _
  exact ⟨g, e1, hlt⟩
theorem at_full {w : World} {A : Option Addr} {n j : Nat} {x : Int} (h : Kd.C (Kd.int .u8) w A n (List.replicate n x)) (hj : j < n) : ∃ ad, A = some ad ∧ w.cell? (ad.add j) = some (.int .u8 x) := by
  obtain ⟨ad, e, hc⟩ := Kd.at_int h (j : Int) (by omega) (by omega)
  refine ⟨ad, e, ?_⟩
  rw [Int.toNat_natCast] at hc
  rw [hc]
  simp [rd, List.getD_eq_getElem?_getD, hj]
theorem at_more {w : World} {A : Option Addr} {N i : Nat} {rows : List Sl} (h : (Kd.slice 5 (Kd.int .u8)).C w A N ((List.range N).map (big rows))) (hi : i < N) :
    ∃ mad A2 c2, A = some mad ∧ w.cell? (mad.add i) = some (.slice A2 (nk rows i + 64) c2) ∧ Kd.C (Kd.int .u8) w A2 (nk rows i + 64) (List.replicate (nk rows i + 64) (markOf i)) := by
  obtain ⟨mad, c, e, hl, ⟨A2, c2, hc2, _, hC⟩, hcell⟩ := ReadsRow.get_ h [] (i : Int) (by omega) (by omega)
  have hx : ((List.range N).map (big rows)).getD (i : Int).toNat [] = List.replicate (nk rows i + 64) (markOf i) := by
    rw [Int.toNat_natCast, List.getD_eq_getElem?_getD, List.getElem?_map, List.getElem?_range hi]
    rfl
  rw [hx, List.length_replicate] at hc2 hC
  refine ⟨mad, A2, c2, e, ?_, hC⟩
  have h1 := hcell 0 (.slice A2 (nk rows i + 64) c2) (by rw [hc2]; rfl)
  rw [Int.toNat_natCast] at h1
  have h2 : i * (Kd.slice 5 (Kd.int .u8)).sz + 0 = i := by show i * 1 + 0 = i; omega
  rwa [h2] at h1
theorem okA_new {w W : World} {B i : Nat} {ad : Addr} {rows : List Sl} (hBlk : ∀ b, Blk rows b → B ≤ b ∧ b < w.heap.size) (had : ad.block < w.heap.size) (hs : w.heap.size ≤ W.heap.size) (k : Nat) (hk : W.heap.size ≤ k) : okA (some ad) rows i k :=
  ⟨fun a e => by obtain rfl := Option.some.inj e; omega, fun m _ hm e => by have := (hBlk k ⟨m, hm, e⟩).2; omega⟩
theorem at_rows {w : World} {LA : Option Addr} {rows : List Sl} (h : ReadsOf Sl.v Sl0 w LA rows.length rows) {i : Nat} (hi : i < rows.length) {A : Option Addr} {n c : Nat} (hr : rows.getD i Sl0 = (A, n, c)) : ∃ ad, LA = some ad ∧ w.cell? (ad.add i) = some (.slice A n c) := by
  obtain ⟨ad, e, hc⟩ := h.2.2 (by omega)
  exact ⟨ad, e, by rw [hc i hi, hr]; rfl⟩

def wicketlaw01_alone.f (rows : List (List Int)) : Option Bool := some true
set_option maxHeartbeats 2000000 in
theorem wicketlaw01_alone.calls (LA : Option Addr) (Lc : Nat) (rows : List Sl) (B : Nat) (w : World) (hB : B ≤ w.heap.size)
    (hL : ReadsOf Sl.v Sl0 w LA rows.length rows) (hsep : ∀ ad, LA = some ad → ¬ Blk rows ad.block)
    (hR : ∀ k, k < rows.length → ∃ X, RB w B (Sl.v (rows.getD k Sl0)) X) (hP : Pair rows) (hN : rows.length ≤ 1000000) (hM : ∀ k, k < rows.length → nk rows k ≤ 140737488355000) :
    Calls Tryd.prog 24 #[.slice LA rows.length Lc] w fun e w' => e = .returned (.bool true) ∧ Kept (Blk rows) w w' := by
  have hF := Aside0.mk (Form.of hR)
  have hBlk := Aside0.mk (Blk.of hR)
  have hA0 : Aside0 (A1 w B rows 0 w) := ⟨⟨Kept.refl _ _, fun k hk => by
    obtain ⟨X, hX⟩ := hR k hk
    exact ⟨X, hX, fun h => by omega⟩⟩⟩
  have HR := Aside0.mk hR
  have HL := Aside0.mk hL
  have HM := Aside0.mk hM
  have HP := Aside0.mk hP
  have HS := Aside0.mk hsep
  clear hR hL hM hP hsep
  obtain ⟨N, hNe⟩ : ∃ N, N = rows.length := ⟨_, rfl⟩
  rw [← hNe] at hN ⊢
  have HN := Aside0.mk hNe
  clear hNe
  go_enter Tryd.func24, Tryd.ntmps24
  go_wp2_with fail
  go_loopw [3] (fun v3 w' => ∃ i : Nat, i ≤ N ∧ v3 = .int .i64 i ∧ Aside0 (A1 w B rows i w')) (fun v3 _ => N - (intOf v3).toNat)
  case atStart => exact ⟨0, Nat.zero_le _, rfl, hA0⟩
  case round =>
    clear hA0
    obtain ⟨i, hi, rfl, HA⟩ := hrel
    by_cases hlt : i < N
    · obtain ⟨⟨A, n, c⟩, hrow⟩ : ∃ r : Sl, r = rows.getD i Sl0 := ⟨_, rfl⟩
      have HW := Aside0.mk hrow
      clear hrow
      have hLw : ∀ w', Kept (Blk rows) w w' → ∃ ad, LA = some ad ∧ w'.cell? (ad.add i) = some (.slice A n c) := fun w' hk => at_rows (outer_kept HL.out HS.out hk) (by rw [← HN.out]; exact hlt) HW.out.symm
      have HLW := Aside0.mk hLw
      clear hLw
      have hI0 : Aside0 (I1 _ B (A, n, c) i 0 _) := ⟨⟨by
        obtain ⟨X, hX, _⟩ := HA.out.row i (by rw [← HN.out]; exact hlt)
        rw [← HW.out] at hX
        exact ⟨X, hX, fun m hm => by omega⟩, ⟨rfl, rfl, rfl, Nat.le_refl _, fun _ _ _ => rfl⟩⟩⟩
      go_wp2_with fail
      go_loopw [4] (fun v4 w' => ∃ j : Nat, j ≤ n ∧ v4 = .int .i64 j ∧ Aside0 (I1 wr B (A, n, c) i j w')) (fun v4 _ => n - (intOf v4).toNat)
      case atStart => exact ⟨0, Nat.zero_le _, rfl, hI0⟩
      case round =>
        clear hI0
        obtain ⟨j, hj, rfl, HI⟩ := hrel
        have hnm : n ≤ 140737488355000 := by
          have h := HM.out i (by rw [← HN.out]; exact hlt)
          unfold nk at h
          rw [← HW.out] at h
          exact h
        have HK : Aside0 (Kept (Blk rows) w wr) := ⟨HA.out.kept.grown HI.out.grown (fun k hk => .inl ⟨i, by rw [← HN.out]; exact hlt, by rw [← HW.out]; exact hk⟩)⟩
        by_cases hlt2 : j < n
        · obtain ⟨g, rfl, hgs⟩ : ∃ g, A = some ⟨g, 0, none⟩ ∧ g < wr.heap.size := by
            obtain ⟨Y, hY, _⟩ := HI.out.row
            exact RB_sl hY (by omega)
          obtain ⟨ad, rfl, hc⟩ := HLW.out _ HK.out
          obtain ⟨y, hy⟩ : ∃ y, wr.cell? ⟨g, j, none⟩ = some (.int .u8 y) ∧ wr.frozen? ⟨g, j, none⟩ = false := by
            obtain ⟨Y, hY, _⟩ := HI.out.row
            have h := Kd.R_celln (enc := Value.int .u8) (h1 := fun _ => rfl) (0 : Int) hY (j : Int) (by omega) (show (j : Int) < ((n : Nat) : Int) by omega)
            rw [Int.toNat_natCast] at h
            exact ⟨_, h⟩
          obtain ⟨hy1, hy2⟩ := hy
          have HI2 := Aside0.mk (I1.step hlt2 HI.out)
          unfold markOf at HI2
          go_wp2_with fail
          go_roundw
          case rel => exact ⟨j + 1, by omega, by go_num, HI2⟩
          case measure => simp [intOf]; omega
        · obtain rfl : j = n := by omega
          obtain ⟨ad, rfl, hc⟩ := HLW.out _ HK.out
          have HA2 : Aside0 (A1 w B rows (i + 1) wr) := ⟨A1.done HP.out (by rw [← HN.out]; exact hlt) HA.out (by rw [← HW.out, show nk rows i = j by unfold nk; rw [← HW.out]]; exact HI.out)⟩
          go_wp2_with fail
          go_roundw
          case rel => exact ⟨i + 1, by omega, by go_num, HA2⟩
          case measure => simp [intOf]; omega
    · obtain rfl : N = i := by omega
      have HA2 : Aside0 (A2 w B LA rows 0 (.slice none 0 0) wr) := ⟨A1.next (by rw [← HN.out]; exact HA.out)⟩
      go_wp2_with fail
      clear HA
      go_loopw [5, 6] (fun v5 v6 w' => ∃ i : Nat, i ≤ N ∧ v6 = .int .i64 i ∧ Aside0 (A2 w B LA rows i v5 w')) (fun _ v6 _ => N - (intOf v6).toNat)
      case atStart => exact ⟨0, Nat.zero_le _, rfl, HA2⟩
      case round =>
        clear HA2
        obtain ⟨i, hi, rfl, HA⟩ := hrel
        by_cases hlt : i < N
        · obtain ⟨⟨A, n, c⟩, hrow⟩ : ∃ r : Sl, r = rows.getD i Sl0 := ⟨_, rfl⟩
          have HW := Aside0.mk hrow
          clear hrow
          have hir : i < rows.length := by rw [← HN.out]; exact hlt
          have hnk : nk rows i = n := by unfold nk; rw [← HW.out]
          have HNK := Aside0.mk hnk
          have hnm : n ≤ 140737488355000 := by
            have h := HM.out i hir
            rwa [hnk] at h
          obtain ⟨ad, hLA, hc⟩ := at_rows (outer_kept HL.out HS.out HA.out.kept) hir HW.out.symm
          have hI0 : Aside0 (I2 _ B (A, n, c) i 0 (.slice A n c) _) := ⟨⟨rfl, rfl, rfl, Nat.le_refl _, fun _ _ _ => rfl⟩, (by
              have h := HA.out.row i (Nat.le_refl _) hir
              rw [← HW.out, hnk] at h
              exact h), (by
              have h := HA.out.cells i hir
              rw [← HW.out, hnk] at h
              exact h), .inl rfl⟩
          have hf : Aside0 (0 < n → ∃ g, A = some ⟨g, 0, none⟩ ∧ g < wr.heap.size ∧ (Sl.v (A, n, c)).ownBlock = some g) := ⟨fun h0 => by
            obtain ⟨g, h1, h2, h3⟩ := hF.out i hir (by rw [hnk]; exact h0)
            rw [← HW.out] at h1 h3
            exact ⟨g, h1, Nat.lt_of_lt_of_le h2 HA.out.kept.size, h3⟩⟩
          have HLA := Aside0.mk hLA
          obtain rfl := hLA
          clear hnk
          go_wp2_with fail
          go_loopw [7, 8] (fun v7 v8 w' => ∃ j : Nat, j ≤ 64 ∧ v8 = .int .i64 j ∧ Aside0 (I2 wr B (A, n, c) i j v7 w')) (fun _ v8 _ => 64 - (intOf v8).toNat)
          case atStart => exact ⟨0, Nat.zero_le _, rfl, hI0⟩
          case round =>
            clear hI0
            obtain ⟨j, hj, rfl, HI⟩ := hrel
            by_cases hlt2 : j < 64
            · have hsz : B ≤ wr.heap.size := Nat.le_trans (Nat.le_trans hB HA.out.kept.size) HI.out.grown.size
              go_wp2_with (first | ((with_reducible refine gate_builtin (b := .append) (xs := #[.tmp 49, .tmp 53]) rfl ?_); at_builtin; refine print_append_apart B rfl (.tmp 49) (.tmp 53) 22 rfl Tryd.underlying22 al_info8 _ (List.replicate (n + j) (markOf i)) (((i : Int) + 1) % 256) rfl rfl HI.out.row hsz (by rw [List.length_replicate]; omega) ?_; intro v1 w1 ho hg hat; have HI2 := Aside0.mk (I2.step hf.out HI.out ho hg hat); clear ho hg hat))
              go_roundw
              case rel => exact ⟨j + 1, by omega, by go_num, HI2⟩
              case measure => simp [intOf]; omega
            · obtain rfl : j = 64 := by omega
              have had : ad.block < w.heap.size := by
                obtain ⟨ad2, e, h⟩ := HL.out.2.2 (by omega)
                obtain rfl := Option.some.inj e
                have h1 := World.block_lt_of_cell? w _ (h 0 (by omega))
                rwa [show (ad.add 0).block = ad.block from rfl] at h1
              obtain ⟨A7, c7, hu7⟩ := Kd.R_slice HI.out.row
              rw [List.length_replicate] at hu7
              subst hu7
              have HMid := Aside0.mk (A2.mid (m := .slice A7 (n + 64) c7) HP.out hF.out hBlk.out HS.out (fun a e => by obtain rfl := Option.some.inj e; exact had) hir HA.out (by rw [← HW.out]; exact HI.out))
              have HAD := Aside0.mk had
              clear had
              go_wp2_with (first | ((with_reducible refine gate_builtin (b := .append) (xs := #[.tmp 55, .tmp 57]) rfl ?_); at_builtin; refine Kd.R_append (Kd.slice 5 (Kd.int .u8)) (w0 := wr) B rfl (.tmp 55) (.tmp 57) 37 22 (.slice none 0 0) 24 rfl Tryd.underlying37 al_info22 rfl (by decide) (by omega) _ ((List.range i).map (big rows)) (big rows i) [.slice A7 (n + 64) c7] (okA (some ad) rows (i + 1)) _ rfl rfl ⟨_, rfl, HMid.out.mrow⟩ (fun _ h => h) (okA_new hBlk.out HAD.out HMid.out.kept.size) HMid.out.more (Below.refl _ _) (Nat.le_trans hB HMid.out.kept.size) (by rw [List.length_map, List.length_range]; omega) ?_; intro v1 w1 ho hb hg hat; have HA3 := Aside0.mk (A2m.done hF.out hBlk.out HMid.out ho hg hat); clear ho hb hg hat))
              go_roundw
              case rel => exact ⟨i + 1, by omega, by go_num, HA3⟩
              case measure => simp [intOf]; omega
        · obtain rfl : N = i := by omega
          obtain ⟨MA, mc, hu5, _, hMC⟩ := Kd.R_reads HA.out.more
          rw [List.length_map, List.length_range] at hu5 hMC
          subst hu5
          have HMC := Aside0.mk hMC
          clear hMC
          go_wp2_with fail
          go_loop [9] (fun v9 => ∃ i : Nat, i ≤ N ∧ v9 = .int .i64 i) (fun v9 => N - (intOf v9).toNat)
          case atStart => exact ⟨0, Nat.zero_le _, rfl⟩
          case round =>
            obtain ⟨i, hi, rfl⟩ := hrel
            by_cases hlt : i < N
            · have hir : i < rows.length := by rw [← HN.out]; exact hlt
              obtain ⟨⟨A, n, c⟩, hrow⟩ : ∃ r : Sl, r = rows.getD i Sl0 := ⟨_, rfl⟩
              have hnk : nk rows i = n := by unfold nk; rw [← hrow]
              have hnm : n ≤ 140737488355000 := by
                have h := HM.out i hir
                rwa [hnk] at h
              obtain ⟨ad, hLA, hc⟩ := at_rows (outer_kept HL.out HS.out HA.out.kept) hir hrow.symm
              obtain ⟨mad, A2, c2, hMA, hc2, hC2⟩ := at_more HMC.out hlt
              have hC1 := HA.out.cells i hir
              rw [← hrow, hnk] at hC1
              rw [hnk] at hc2 hC2
              have HC1 := Aside0.mk hC1
              have HC2 := Aside0.mk hC2
              have HROW := Aside0.mk hrow
              clear hC1 hC2 hrow hnk
              subst hLA hMA
              go_wp2_with fail
              go_loop [10] (fun v10 => ∃ j : Nat, j ≤ n + 64 ∧ v10 = .int .i64 j) (fun v10 => n + 64 - (intOf v10).toNat)
              case atStart => exact ⟨0, Nat.zero_le _, rfl⟩
              case round =>
                obtain ⟨j, hj, rfl⟩ := hrel
                by_cases hlt2 : j < n + 64
                · obtain ⟨bad, rfl, hb⟩ := at_full HC2.out hlt2
                  unfold markOf at hb
                  by_cases hlt3 : j < n
                  · obtain ⟨cad, rfl, hd⟩ := at_full HC1.out hlt3
                    unfold markOf at hd
                    go_wp2_with fail
                    go_round
                    case rel => exact ⟨j + 1, by omega, by go_num⟩
                    case measure => simp [intOf]; omega
                  · go_wp2_with fail
                    go_round
                    case rel => exact ⟨j + 1, by omega, by go_num⟩
                    case measure => simp [intOf]; omega
                · obtain rfl : j = n + 64 := by omega
                  go_wp2_with fail
                  go_round
                  case rel => exact ⟨i + 1, by omega, by go_num⟩
                  case measure => simp [intOf]; omega
            · obtain rfl : N = i := by omega
              go_wp2_with fail
              go_ret
              exact ⟨rfl, HA.out.kept⟩
theorem RB_kept {S : Nat → Prop} {w w' : World} {B : Nat} {v : Value} {xs : List Int} (h : RB w B v xs) (hk : Kept S w w') (hne : ∀ k, v.ownBlock = some k → ¬ S k) : RB w' B v xs := by
  have h1 : Kd.R (Kd.int .u8) 5 w B (fun k => v.ownBlock = some k) v xs := ⟨fun k hk => hk, (show OwnRow _ _ _ _ _ _ _ from by
    obtain ⟨_, inner, ho, hr⟩ := h
    exact ⟨inner, ho, hr⟩)⟩
  exact Kd.R_mono (Kd.R_step h1 (fun k ho hlt => hk.block k hlt (hne k ho))) (fun _ _ => trivial)
/-- A literal of lists that lie apart, handed to alone(). -/
theorem alone_lit (rows : List Sl) (B : Nat) (W : World) (hB : B ≤ W.heap.size) (hR : ∀ k, k < rows.length → ∃ X, RB W B (Sl.v (rows.getD k Sl0)) X) (hP : Pair rows) (hN : rows.length ≤ 1000000) (hM : ∀ k, k < rows.length → nk rows k ≤ 140737488355000) :
    Calls Tryd.prog 24 #[.slice (some ⟨W.heap.size, 0, none⟩) rows.length rows.length] (W.alloc (.cells (rows.map Sl.v).toArray 22)) fun e w' => e = .returned (.bool true) ∧ Kept (Blk rows) W w' := by
  refine (wicketlaw01_alone.calls (some ⟨W.heap.size, 0, none⟩) rows.length rows B (W.alloc (.cells (rows.map Sl.v).toArray 22)) (by simp; omega) ?_ ?_ (fun k hk => ?_) hP hN hM).mono ?_
  · refine ⟨rfl, by omega, fun hn => ⟨_, rfl, fun j hj => ?_⟩⟩
    rw [add_plain, World.cell?_alloc_mark]
    simp [List.getElem?_map, List.getElem?_eq_getElem hj, List.getD_eq_getElem?_getD]
  · intro ad e hb
    obtain rfl := Option.some.inj e
    have := (Blk.of hR _ hb).2
    exact Nat.lt_irrefl _ this
  · obtain ⟨X, hX⟩ := hR k hk
    exact ⟨X, Kd.R_alloc hX _⟩
  · rintro e w' ⟨he, hk⟩
    exact ⟨he, ⟨hk.os, hk.tape, hk.output, Nat.le_trans (by simp) hk.size, fun b hb hS => (hk.block b (by simp; omega) hS).trans (Below.heap_alloc _ _ _ hb)⟩⟩
theorem pair_two {r s : Sl} (h : ∀ b, r.v.ownBlock = some b → s.v.ownBlock ≠ some b) : Pair [r, s] := by
  intro i j hi hj hne b hb
  simp only [List.length_cons, List.length_nil] at hi hj
  obtain rfl | rfl : i = 0 ∨ i = 1 := by omega
  · obtain rfl : j = 1 := by omega
    exact h b hb
  · obtain rfl : j = 0 := by omega
    exact fun e => h b e hb
theorem pair_three {r s t : Sl} (h : ∀ b, r.v.ownBlock = some b → s.v.ownBlock ≠ some b) (h2 : ∀ b, r.v.ownBlock = some b → t.v.ownBlock ≠ some b) (h3 : ∀ b, s.v.ownBlock = some b → t.v.ownBlock ≠ some b) : Pair [r, s, t] := by
  intro i j hi hj hne b hb
  simp only [List.length_cons, List.length_nil] at hi hj
  obtain rfl | rfl | rfl : i = 0 ∨ i = 1 ∨ i = 2 := by omega
  · obtain rfl | rfl : j = 1 ∨ j = 2 := by omega
    · exact h b hb
    · exact h2 b hb
  · obtain rfl | rfl : j = 0 ∨ j = 2 := by omega
    · exact fun e => h b e hb
    · exact h3 b hb
  · obtain rfl | rfl : j = 0 ∨ j = 1 := by omega
    · exact fun e => h2 b e hb
    · exact fun e => h3 b e hb
theorem rows_two {W : World} {B : Nat} {r s : Sl} {X Y : List Int} (h : RB W B r.v X) (h2 : RB W B s.v Y) : ∀ k, k < [r, s].length → ∃ X, RB W B (Sl.v ([r, s].getD k Sl0)) X := by
  intro k hk
  simp only [List.length_cons, List.length_nil] at hk
  obtain rfl | rfl : k = 0 ∨ k = 1 := by omega
  · exact ⟨X, h⟩
  · exact ⟨Y, h2⟩
theorem rows_three {W : World} {B : Nat} {r s t : Sl} {X Y Z : List Int} (h : RB W B r.v X) (h2 : RB W B s.v Y) (h3 : RB W B t.v Z) : ∀ k, k < [r, s, t].length → ∃ X, RB W B (Sl.v ([r, s, t].getD k Sl0)) X := by
  intro k hk
  simp only [List.length_cons, List.length_nil] at hk
  obtain rfl | rfl | rfl : k = 0 ∨ k = 1 ∨ k = 2 := by omega
  · exact ⟨X, h⟩
  · exact ⟨Y, h2⟩
  · exact ⟨Z, h3⟩
theorem blk_two {r s : Sl} {b : Nat} (h : Blk [r, s] b) : r.v.ownBlock = some b ∨ s.v.ownBlock = some b := by
  obtain ⟨k, hk, hb⟩ := h
  simp only [List.length_cons, List.length_nil] at hk
  obtain rfl | rfl : k = 0 ∨ k = 1 := by omega
  · exact .inl hb
  · exact .inr hb
theorem blk_three {r s t : Sl} {b : Nat} (h : Blk [r, s, t] b) : r.v.ownBlock = some b ∨ s.v.ownBlock = some b ∨ t.v.ownBlock = some b := by
  obtain ⟨k, hk, hb⟩ := h
  simp only [List.length_cons, List.length_nil] at hk
  obtain rfl | rfl | rfl : k = 0 ∨ k = 1 ∨ k = 2 := by omega
  · exact .inl hb
  · exact .inr (.inl hb)
  · exact .inr (.inr hb)
theorem nk_all {n : Nat} {r : Sl} (rows : List Sl) (h : ∀ r ∈ rows, r.2.1 ≤ n) : ∀ k, k < rows.length → nk rows k ≤ n := by
  intro k hk
  unfold nk
  rw [List.getD_eq_getElem?_getD, List.getElem?_eq_getElem hk]
  exact h _ (List.getElem_mem hk)
theorem drawn_below {w w' : World} (h : Drawn0 w w') : Below w.heap.size w w' := by
  obtain ⟨n, rfl⟩ := h
  exact pw_below_drewN (Below.refl _ _) n
theorem own_lt_R {w : World} {B : Nat} {v : Value} {xs : List Int} (h : RB w B v xs) (b : Nat) (hb : v.ownBlock = some b) : B ≤ b ∧ b < w.heap.size := by
  obtain ⟨inner, ho⟩ := Kd.R_own h
  exact ⟨own_base ho b hb, own_lt ho b hb⟩
theorem al_info5 : ∃ i, Tryd.prog.info? 5 = some i := ⟨_, rfl⟩
/-- x[:m], as the walk asks it. -/
theorem cut_own (A : Option Addr) (n c m : Nat) (h1 : m ≤ n) (h2 : n ≤ c) (W : World) : (Instr.slice 22 (.slice A n c) none (some (.int .i64 (m : Int))) none).run Tryd.prog W = .ok (.slice A m c) W := by
  obtain ⟨i, hi⟩ := al_info5
  have h := cut_to (P := Tryd.prog) 22 5 .i64 Tryd.underlying22 hi A n c (m : Int) (by omega) (by omega) h2 W
  rwa [Int.toNat_natCast] at h
end Go.Proofs.YtdlfhpkkkhfhdaaDoor.Hand
