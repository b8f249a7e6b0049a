/- Disk: what the program's disk is in memory. -/
import Derived.Test.YthmkdmdfahhpmaaDskE
import Derived.Below
import Derived.Outline
import Derived.StringKeys
import Derived.Maps.RangeWalk
import Derived.Maps.OwnSet
import Derived.Maps.OwnOps
import Derived.Maps.Views
import Derived.Maps.Ext
namespace Go.Proofs.Ythmkdmdfahhpmaa.Hand
open Go.RowKit Go.Maps Go.Proofs.YthmkdmdfahhpmaaW.PrintWords Go.Proofs.YthmkdmdfahhpmaaW.PrintLast Go.Proofs.YthmkdmdfahhpmaaW.PrintMore
set_option linter.unusedVariables false
set_option linter.unusedSimpArgs false
theorem grownBy_setCellL (w : World) (p : Addr) (v : Value) : w.grownBy (w.setCell p v) (some p.block) := ⟨rfl, rfl, rfl, by simp [World.setCell], fun k _ hk => Below.heap_setCell w p v k (fun e => hk (by rw [e]))⟩
/-- Blocks of S may turn, new ones may come. -/
structure KeptL (S : Nat → Prop) (w w' : World) : Prop where
  os : w'.os = w.os
  tape : w'.tape = w.tape
  output : w'.output = w.output
  size : w.heap.size ≤ w'.heap.size
  block : ∀ b, b < w.heap.size → ¬ S b → w'.heap[b]? = w.heap[b]?
theorem KeptL.refl (S : Nat → Prop) (w : World) : KeptL S w w := ⟨rfl, rfl, rfl, Nat.le_refl _, fun _ _ _ => rfl⟩
theorem KeptL.trans {S : Nat → Prop} {a b c : World} (h : KeptL S a b) (k : KeptL S b c) : KeptL S a c :=
  ⟨k.os.trans h.os, k.tape.trans h.tape, k.output.trans h.output, Nat.le_trans h.size k.size, fun i hi hS => (k.block i (Nat.lt_of_lt_of_le hi h.size) hS).trans (h.block i hi hS)⟩
theorem KeptL.grown {S : Nat → Prop} {a w w' : World} {row : Option Nat} (h : KeptL S a w) (hg : w.grownBy w' row) (hr : ∀ k, row = some k → S k ∨ a.heap.size ≤ k) : KeptL S a w' :=
  ⟨hg.os.trans h.os, hg.tape.trans h.tape, hg.output.trans h.output, Nat.le_trans h.size hg.size, fun b hb hS => (hg.block b (Nat.lt_of_lt_of_le hb h.size) (fun e => by
    rcases hr b e.symm with h1 | h1
    · exact hS h1
    · omega)).trans (h.block b hb hS)⟩
theorem KeptL.of_below {S : Nat → Prop} {w w' : World} (h : Below w.heap.size w w') : KeptL S w w' := ⟨h.os, h.tape, h.output, h.size, fun b hb _ => h.block b hb⟩
theorem KeptL.step {S : Nat → Prop} {a w w' : World} (h : KeptL S a w) (k : Below w.heap.size w w') : KeptL S a w' := h.trans (KeptL.of_below k)
theorem KeptL.drew {S : Nat → Prop} {a w : World} (h : KeptL S a w) : KeptL S a w.drew := ⟨h.os, h.tape, h.output, h.size, h.block⟩
theorem KeptL.setCell {S : Nat → Prop} {a w : World} (h : KeptL S a w) (p : Addr) (v : Value) (hp : S p.block ∨ a.heap.size ≤ p.block) : KeptL S a (w.setCell p v) :=
  h.grown (row := some p.block) (grownBy_setCellL w p v) (fun k e => by cases e; exact hp)
theorem KeptL.alloc {S : Nat → Prop} {a w : World} (h : KeptL S a w) (o : Obj) : KeptL S a (w.alloc o) := h.grown (World.grownBy_alloc w o none) (fun k e => by cases e)
theorem KeptL.below {S : Nat → Prop} {w w' : World} {B : Nat} (h : KeptL S w w') (hB : B ≤ w.heap.size) (hS : ∀ b, S b → B ≤ b) : Below B w w' :=
  ⟨h.os, h.tape, h.output, h.size, fun k hk => h.block k (by omega) (fun hs => by have := hS k hs; omega)⟩

abbrev DW := DataW Unit
/-- A number that a map holds. -/
def iv (i : Int) : DW := .lit (.int .i64 i)
def ks (s : ByteArray) : Lit := .string s.data.toList
theorem ks_key (s : ByteArray) : WideAt.IsKeyLit (ks s) := trivial
theorem ks_inj {s t : ByteArray} (h : ks s = ks t) : s = t := by
  unfold ks at h
  injection h with h
  cases s; cases t
  simp only at h
  congr 1
  exact Array.ext' h

/-- What a map tells of a key. -/
def view (D : DW) (k : Lit) : Option DW := if Maps.has D k then some (D.atKey k (iv 0)) else none
theorem view_put_same {D : DW} (hD : IsMap D) {k : Lit} (hk : WideAt.IsKeyLit k) (d : DW) : view (D.put k d) k = some d := by unfold view; rw [has_put_same hD hk, atKey_put_same hD hk]; rfl
theorem view_put_other {D : DW} {k k' : Lit} (hne : k' ≠ k) (d : DW) : view (D.put k d) k' = view D k' := by unfold view; rw [has_put_other hne, atKey_put_other hne]
theorem view_del_same {D : DW} {k : Lit} : view (D.del k) k = none := by unfold view; rw [has_del_same]; rfl
theorem view_del_other {D : DW} {k k' : Lit} (hne : k' ≠ k) : view (D.del k) k' = view D k' := by unfold view; rw [has_del_other hne, atKey_del_other hne]
theorem view_none {D : DW} {k : Lit} (h : Maps.has D k = false) : view D k = none := by unfold view; rw [h]; rfl
theorem view_some {D : DW} {k : Lit} {y : DW} (h : ∀ z, D.atKey k z = y) : view D k = some y := by unfold view; rw [has_true_of_atKey h, h]; rfl
theorem has_view {D : DW} {k : Lit} : Maps.has D k = (view D k).isSome := by unfold view; cases Maps.has D k <;> rfl

noncomputable abbrev intElem (v : Value) : Option (DW × List MemPlace) := plainElem Try.prog 3 v
abbrev Owns (w : World) (m n : Nat) (D : DW) : Prop := w.ownsMap Try.prog 9 intElem m n D
theorem lawS : Keyed Try.prog 9 := string_keyed Try.underlying9
theorem intElem_mk {i : Int} (h : (Lit.int .i64 i).wf = true) : intElem (.int .i64 i) = some (iv i, []) := plainElem_int Try.underlying3 h
theorem intElem_inv {v : Value} {z : DW × List MemPlace} (h : intElem v = some z) : ∃ i : Int, v = .int .i64 i ∧ z = (iv i, []) ∧ (Lit.int .i64 i).wf = true := plainElem_int_inv Try.underlying3 h
/-- The map holds the entries. -/
def MapE (D : DW) (l : List Ent) : Prop := ∀ k d, view D k = some d ↔ ∃ x, x ∈ l ∧ k = ks x.1 ∧ d = iv x.2
theorem MapE.empty : MapE (.map []) [] := fun k d => by
  rw [view_none rfl]
  simp
theorem MapE.mem {D : DW} {a b : List Ent} (h : MapE D a) (hm : ∀ e, e ∈ a ↔ e ∈ b) : MapE D b := fun k d => by
  rw [h k d]
  exact ⟨fun ⟨x, hx, e⟩ => ⟨x, (hm x).1 hx, e⟩, fun ⟨x, hx, e⟩ => ⟨x, (hm x).2 hx, e⟩⟩
theorem MapE.del {D : DW} {l : List Ent} {s : ByteArray} (h : MapE D l) : MapE (D.del (ks s)) (without l s) := fun k d => by
  by_cases e : k = ks s
  · subst e
    rw [view_del_same]
    constructor
    · rintro he; cases he
    · rintro ⟨x, hx, hk, rfl⟩
      exact absurd (ks_inj hk).symm (without_mem.1 hx).2
  · rw [view_del_other e, h k d]
    constructor
    · rintro ⟨x, hx, hk, rfl⟩
      exact ⟨x, without_mem.2 ⟨hx, fun h2 => e (by rw [hk, h2])⟩, hk, rfl⟩
    · rintro ⟨x, hx, hk, rfl⟩
      exact ⟨x, (without_mem.1 hx).1, hk, rfl⟩
theorem MapE.put {D : DW} {l : List Ent} {s : ByteArray} (h : MapE D l) (hD : IsMap D) (f : Int) : MapE (D.put (ks s) (iv f)) (with_ l s f) := fun k d => by
  by_cases e : k = ks s
  · subst e
    rw [view_put_same hD (ks_key s)]
    constructor
    · rintro he
      injection he with he
      exact ⟨(s, f), with_mem.2 (.inl rfl), rfl, he.symm⟩
    · rintro ⟨x, hx, hk, rfl⟩
      rcases with_mem.1 hx with rfl | hx
      · rfl
      · exact absurd (ks_inj hk).symm hx.2
  · rw [view_put_other e, h k d]
    constructor
    · rintro ⟨x, hx, hk, rfl⟩
      exact ⟨x, with_mem.2 (.inr ⟨hx, fun h2 => e (by rw [hk, h2])⟩), hk, rfl⟩
    · rintro ⟨x, hx, hk, rfl⟩
      rcases with_mem.1 hx with rfl | hx
      · exact absurd hk e
      · exact ⟨x, hx.1, hk, rfl⟩
theorem MapE.look_ {D : DW} {l : List Ent} (h : MapE D l) (s : ByteArray) : view D (ks s) = (has l s).map fun x => iv x.2 := by
  cases hl : has l s with
  | none =>
    cases hv : view D (ks s) with
    | none => rfl
    | some d =>
      obtain ⟨x, hx, hk, _⟩ := (h _ _).1 hv
      exact absurd (ks_inj hk).symm (has_none.1 hl x hx)
  | some x =>
    obtain ⟨h1, h2⟩ := has_some hl
    exact (h _ _).2 ⟨x, h1, by rw [h2], rfl⟩
theorem MapE.size {D : DW} {Es : List Ent} (h : MapE D Es) (hT0 : Tidy D) (hC : Maps.Canon D) (hN : (Es.map (·.1)).Nodup) : Maps.size D = Es.length := by
  obtain ⟨es, rfl, _, hk⟩ := hC
  obtain ⟨es', e, hs⟩ := hT0
  injection e with e
  subst e
  have hT : (es.map (·.1)).Nodup := by
    unfold List.Nodup
    rw [List.pairwise_map]
    exact hs
  have hE : (Es.map fun x => ks x.1).Nodup := by
    unfold List.Nodup at hN ⊢
    rw [List.pairwise_map] at hN ⊢
    exact hN.imp (fun hpq e => hpq (ks_inj e))
  have hp : (es.map (·.1)).Perm (Es.map fun x => ks x.1) := by
    rw [List.perm_ext_iff_of_nodup hT hE]
    intro k
    constructor
    · intro hm
      obtain ⟨p, hp, rfl⟩ := List.mem_map.1 hm
      have hh : Maps.has (DataW.map es) p.1 = true := by
        rw [Maps.has_eq, List.any_eq_true]
        exact ⟨p, hp, WideAt.sameKey_self (hk p hp)⟩
      rw [has_view, Option.isSome_iff_exists] at hh
      obtain ⟨d, hd⟩ := hh
      obtain ⟨x, hx, hk2, _⟩ := (h _ _).1 hd
      exact List.mem_map.2 ⟨x, hx, hk2.symm⟩
    · intro hm
      obtain ⟨x, hx, rfl⟩ := List.mem_map.1 hm
      have hh : Maps.has (DataW.map es) (ks x.1) = true := by
        rw [has_view, (h _ _).2 ⟨x, hx, rfl, rfl⟩]
        rfl
      rw [Maps.has_eq, List.any_eq_true] at hh
      obtain ⟨p, hp, he⟩ := hh
      exact List.mem_map.2 ⟨p, hp, WideAt.sameKey_eq he⟩
  have hl := hp.length_eq
  rw [List.length_map, List.length_map] at hl
  exact hl
/-- A map block that holds the entries. -/
def OwnE (w : World) (m : Nat) (l : List Ent) : Prop := ∃ n D, Owns w m n D ∧ MapE D l
theorem OwnE.same {w w' : World} {m : Nat} {l : List Ent} (h : OwnE w m l) (e : w'.heap[m]? = w.heap[m]?) : OwnE w' m l := by
  obtain ⟨n, D, ⟨es, clock, h1, h2⟩, h3⟩ := h
  exact ⟨n, D, ⟨es, clock, e.trans h1, h2⟩, h3⟩
theorem OwnE.lt {w : World} {m : Nat} {l : List Ent} (h : OwnE w m l) : m < w.heap.size := by
  obtain ⟨n, D, ⟨es, clock, h1, h2⟩, h3⟩ := h
  exact blk_lt h1
theorem OwnE.ne {w : World} {m g : Nat} {l : List Ent} {cs : Array Value} {t : TypeId} (h : OwnE w m l) (hb : w.heap[g]? = some (.cells cs t (0, 0))) : m ≠ g := by
  obtain ⟨n, D, ⟨es, clock, h1, h2⟩, h3⟩ := h
  intro e
  rw [e, hb] at h1
  cases h1
theorem Owns.tight {w : World} {m n : Nat} {D : DW} (h : Owns w m n D) : Owns w m (Maps.size D) D := by
  obtain ⟨es, clock, h1, h2, h3, h4⟩ := h
  refine ⟨es, clock, h1, h2, ?_, h4⟩
  rw [h4]
  show es.size ≤ List.length _
  rw [length_read]
  exact Nat.le_refl _
theorem OwnE.tight {w : World} {m : Nat} {l : List Ent} (h : OwnE w m l) (hN : Srt l) : ∃ D, Owns w m l.length D ∧ MapE D l ∧ Tidy D ∧ Maps.size D = l.length := by
  obtain ⟨n, D, h1, h2⟩ := h
  have ht := h1.tidy lawS
  have hs := h2.size ht (h1.canon lawS) hN.nodup
  have h3 := h1.tight
  rw [hs] at h3
  exact ⟨D, h3, h2, ht, hs⟩
/-- Own rows of plain elements stand where their block does. -/
theorem R_keepD {α : Type} {d : Kd α} {e : Nat} {w w' : World} {v : Value} {xs : List α} (hE : d.E = []) (h : Kd.R d e w 0 (fun _ => True) v xs) (hm : ∀ k, v.ownBlock = some k → w'.heap[k]? = w.heap[k]?) : Kd.R d e w' 0 (fun _ => True) v xs :=
  Kd.R_mono (Kd.R_step (Kd.R_tight hE h) (fun k ho _ => hm k ho.symm)) (fun _ _ => trivial)
/-- A pointer to a block. -/
abbrev kP : Kd Nat := Kd.scalar (fun b : Nat => Value.pointer (some ⟨b, 0, none⟩)) (fun _ => rfl)
abbrev kB : Kd Int := Kd.int .u8
abbrev kC : Kd Chg := Kd.iso (Kd.pair Kd.string (Kd.pair Kd.string (Kd.int .i64))) (fun x => x)
/-- A file of the program's: its struct's block, its bytes' slice. -/
abbrev FM := Nat × Value
def FileAt (w : World) (a : FM) (f : Fil) : Prop := w.heap[a.1]? = some (.cells #[a.2, .int .i64 f.2] 97 (0, 0)) ∧ Kd.R kB 5 w 0 (fun _ => True) a.2 f.1
def fm0 : FM := (0, .slice none 0 0)
/-- The program's disk. u: what it has counted as used. -/
structure DskM (w : World) (F : Nat → Prop) (d : Nat) (S : DS) (u : Int) (md ms : Nat) (vf vc : Value) (fm : List FM) : Prop where
  blk : w.heap[d]? = some (.cells #[.int .i64 S.room, .int .i64 u, vf, .map (some md), .map (some ms), vc, .int .i64 S.ops, .int .i64 S.armed, .bool S.dead] 87 (0, 0))
  own : Kd.R kP 95 w 0 (fun _ => True) vf (fm.map (·.1))
  len : fm.length = S.files.length
  at_ : ∀ i, i < S.files.length → FileAt w (fm.getD i fm0) (S.files.getD i ([], 0))
  sep : ∀ i j, i < fm.length → j < fm.length → i ≠ j → (fm.getD i fm0).1 ≠ (fm.getD j fm0).1 ∧ ∀ k, (fm.getD i fm0).2.ownBlock = some k → (fm.getD j fm0).2.ownBlock ≠ some k
  dir : OwnE w md S.dir
  safe : OwnE w ms S.safe
  apart : md ≠ ms
  chg : Kd.R kC 89 w 0 (fun _ => True) vc S.chg
  foot : F d ∧ F md ∧ F ms ∧ (∀ k, vf.ownBlock = some k → F k) ∧ (∀ k, vc.ownBlock = some k → F k) ∧ ∀ a, a ∈ fm → F a.1 ∧ ∀ k, a.2.ownBlock = some k → F k
  lt : ∀ k, F k → k < w.heap.size
theorem getD_mem {α : Type} {l : List α} {i : Nat} {z : α} (h : i < l.length) : l.getD i z ∈ l := by
  rw [List.getD_eq_getElem?_getD, List.getElem?_eq_getElem h]
  exact List.getElem_mem h
theorem FileAt.same {w w' : World} {a : FM} {f : Fil} (h : FileAt w a f) (h1 : w'.heap[a.1]? = w.heap[a.1]?) (h2 : ∀ k, a.2.ownBlock = some k → w'.heap[k]? = w.heap[k]?) : FileAt w' a f :=
  ⟨h1.trans h.1, R_keepD rfl h.2 h2⟩
/-- What others have turned. -/
theorem DskM.kept {w w' : World} {F G : Nat → Prop} {d : Nat} {S : DS} {u : Int} {md ms : Nat} {vf vc : Value} {fm : List FM} (h : DskM w F d S u md ms vf vc fm) (hk : KeptL G w w') (hFG : ∀ k, F k → ¬ G k) : DskM w' F d S u md ms vf vc fm := by
  have hb : ∀ k, F k → w'.heap[k]? = w.heap[k]? := fun k hF => hk.block k (h.lt k hF) (hFG k hF)
  obtain ⟨f1, f2, f3, f4, f5, f6⟩ := h.foot
  exact { h with
    blk := (hb d f1).trans h.blk
    own := R_keepD rfl h.own (fun k hv => hb k (f4 k hv))
    at_ := fun i hi => by
      have hm := f6 _ (getD_mem (z := fm0) (by rw [h.len]; exact hi : i < fm.length))
      exact (h.at_ i hi).same (hb _ hm.1) (fun k hv => hb k (hm.2 k hv))
    dir := h.dir.same (hb md f2)
    safe := h.safe.same (hb ms f3)
    chg := R_keepD rfl h.chg (fun k hv => hb k (f5 k hv))
    lt := fun k hF => Nat.lt_of_lt_of_le (h.lt k hF) hk.size }
theorem DskM.below {w w' : World} {F : Nat → Prop} {d : Nat} {S : DS} {u : Int} {md ms : Nat} {vf vc : Value} {fm : List FM} (h : DskM w F d S u md ms vf vc fm) (hb : Below w.heap.size w w') : DskM w' F d S u md ms vf vc fm :=
  h.kept (G := fun _ => False) (KeptL.of_below hb) (fun _ _ hf => hf)
/-- The pieces beside the disk's own block. -/
theorem DskM.ne_d {w : World} {F : Nat → Prop} {d : Nat} {S : DS} {u : Int} {md ms : Nat} {vf vc : Value} {fm : List FM} (h : DskM w F d S u md ms vf vc fm) : md ≠ d ∧ ms ≠ d ∧ (∀ k, vf.ownBlock = some k → k ≠ d) ∧ (∀ k, vc.ownBlock = some k → k ≠ d) ∧ ∀ i, i < S.files.length → (fm.getD i fm0).1 ≠ d ∧ ∀ k, (fm.getD i fm0).2.ownBlock = some k → k ≠ d := by
  refine ⟨h.dir.ne h.blk, h.safe.ne h.blk, fun k hv e => ?_, fun k hv e => ?_, fun i hi => ⟨?_, fun k hv e => ?_⟩⟩
  · exact Kd.R_ne h.own h.blk (by decide) (by rw [hv, e])
  · exact Kd.R_ne h.chg h.blk (by decide) (by rw [hv, e])
  · exact blk_ne (h.at_ i hi).1 h.blk (by decide)
  · exact Kd.R_ne (h.at_ i hi).2 h.blk (by decide) (by rw [hv, e])
/-- The disk's own cells have turned. -/
theorem DskM.turnD {w w' : World} {F : Nat → Prop} {d : Nat} {S S' : DS} {u u' : Int} {md ms : Nat} {vf vc : Value} {fm : List FM} (h : DskM w F d S u md ms vf vc fm) (hk : KeptL (fun k => k = d) w w')
    (hb : w'.heap[d]? = some (.cells #[.int .i64 S'.room, .int .i64 u', vf, .map (some md), .map (some ms), vc, .int .i64 S'.ops, .int .i64 S'.armed, .bool S'.dead] 87 (0, 0)))
    (e1 : S'.files = S.files) (e2 : S'.dir = S.dir) (e3 : S'.safe = S.safe) (e4 : S'.chg = S.chg) : DskM w' F d S' u' md ms vf vc fm := by
  obtain ⟨n1, n2, n3, n4, n5⟩ := h.ne_d
  obtain ⟨f1, f2, f3, f4, f5, f6⟩ := h.foot
  have hs : ∀ k, F k → k ≠ d → w'.heap[k]? = w.heap[k]? := fun k hF hne => hk.block k (h.lt k hF) hne
  refine ⟨hb, R_keepD rfl h.own (fun k hv => hs k (f4 k hv) (n3 k hv)), by rw [e1]; exact h.len, fun i hi => ?_, h.sep, by rw [e2]; exact h.dir.same (hs md f2 n1), by rw [e3]; exact h.safe.same (hs ms f3 n2), h.apart, by rw [e4]; exact R_keepD rfl h.chg (fun k hv => hs k (f5 k hv) (n4 k hv)), h.foot, fun k hF => Nat.lt_of_lt_of_le (h.lt k hF) hk.size⟩
  rw [e1] at hi ⊢
  have hm := f6 _ (getD_mem (z := fm0) (by rw [h.len]; exact hi : i < fm.length))
  exact (h.at_ i hi).same (hs _ hm.1 (n5 i hi).1) (fun k hv => hs k (hm.2 k hv) ((n5 i hi).2 k hv))
/-- A disk of the program's, whatever its insides. -/
def DskAt (w : World) (F : Nat → Prop) (d : Nat) (S : DS) : Prop := Inv S ∧ ∃ md ms vf vc fm, DskM w F d S (used S) md ms vf vc fm
theorem DskAt.kept {w w' : World} {F G : Nat → Prop} {d : Nat} {S : DS} (h : DskAt w F d S) (hk : KeptL G w w') (hFG : ∀ k, F k → ¬ G k) : DskAt w' F d S := by
  obtain ⟨h0, md, ms, vf, vc, fm, h1⟩ := h
  exact ⟨h0, md, ms, vf, vc, fm, h1.kept hk hFG⟩
theorem DskAt.below {w w' : World} {F : Nat → Prop} {d : Nat} {S : DS} (h : DskAt w F d S) (hb : Below w.heap.size w w') : DskAt w' F d S :=
  h.kept (G := fun _ => False) (KeptL.of_below hb) (fun _ _ hf => hf)
theorem DskAt.lt {w : World} {F : Nat → Prop} {d : Nat} {S : DS} (h : DskAt w F d S) : ∀ k, F k → k < w.heap.size := by
  obtain ⟨h0, md, ms, vf, vc, fm, h1⟩ := h
  exact h1.lt
/-- A footprint, and what a call has made. -/
def grow (F : Nat → Prop) (w w' : World) : Nat → Prop := fun k => F k ∨ (w.heap.size ≤ k ∧ k < w'.heap.size)
end Go.Proofs.Ythmkdmdfahhpmaa.Hand
