/- Disk: what the program's disk is in memory. Disk: the program's small functions: find, goes, Count, Dead, Free, Arm. Disk: a change of a directory. Disk: note: a change of the directory is done, and kept. Disk: note. Disk: what is used, behind a change. Disk: the program's Create. Disk: the program's Remove, Rename. -/
import Derived.Test.YtdekcjopgnfmdaaDskE
import Derived.Below
import Derived.Outline
import Derived.StringKeys
import Derived.Maps.RangeWalk
import Derived.Maps.OwnSet
import Derived.Maps.OwnOps
import Derived.Maps.Views
import Derived.Maps.Ext
import Derived.Laws.StructEq
namespace Go.Proofs.Ytdekcjopgnfmdaa.Hand
open Go.RowKit Go.Maps Go.Proofs.YtdekcjopgnfmdaaW.PrintWords Go.Proofs.YtdekcjopgnfmdaaW.PrintLast Go.Proofs.YtdekcjopgnfmdaaW.PrintMore
set_option linter.unusedVariables false
set_option linter.unusedSimpArgs false
theorem grownBy_setCellL (w : World) (p : Addr) (v : Value) : w.grownBy (w.setCell p v) (some p.block) := ⟨rfl, rfl, rfl, by simp [World.setCell], fun k _ hk => Below.heap_setCell w p v k (fun e => hk (by rw [e]))⟩
/-- Blocks of S may turn, new ones may come. -/
structure KeptL (S : Nat → Prop) (w w' : World) : Prop where
  os : w'.os = w.os
  tape : w'.tape = w.tape
  output : w'.output = w.output
  size : w.heap.size ≤ w'.heap.size
  block : ∀ b, b < w.heap.size → ¬ S b → w'.heap[b]? = w.heap[b]?
theorem KeptL.refl (S : Nat → Prop) (w : World) : KeptL S w w := ⟨rfl, rfl, rfl, Nat.le_refl _, fun _ _ _ => rfl⟩
theorem KeptL.trans {S : Nat → Prop} {a b c : World} (h : KeptL S a b) (k : KeptL S b c) : KeptL S a c :=
  ⟨k.os.trans h.os, k.tape.trans h.tape, k.output.trans h.output, Nat.le_trans h.size k.size, fun i hi hS => (k.block i (Nat.lt_of_lt_of_le hi h.size) hS).trans (h.block i hi hS)⟩
theorem KeptL.grown {S : Nat → Prop} {a w w' : World} {row : Option Nat} (h : KeptL S a w) (hg : w.grownBy w' row) (hr : ∀ k, row = some k → S k ∨ a.heap.size ≤ k) : KeptL S a w' :=
  ⟨hg.os.trans h.os, hg.tape.trans h.tape, hg.output.trans h.output, Nat.le_trans h.size hg.size, fun b hb hS => (hg.block b (Nat.lt_of_lt_of_le hb h.size) (fun e => by
    rcases hr b e.symm with h1 | h1
    · exact hS h1
    · omega)).trans (h.block b hb hS)⟩
theorem KeptL.of_below {S : Nat → Prop} {w w' : World} (h : Below w.heap.size w w') : KeptL S w w' := ⟨h.os, h.tape, h.output, h.size, fun b hb _ => h.block b hb⟩
theorem KeptL.step {S : Nat → Prop} {a w w' : World} (h : KeptL S a w) (k : Below w.heap.size w w') : KeptL S a w' := h.trans (KeptL.of_below k)
theorem KeptL.drew {S : Nat → Prop} {a w : World} (h : KeptL S a w) : KeptL S a w.drew := ⟨h.os, h.tape, h.output, h.size, h.block⟩
theorem KeptL.setCell {S : Nat → Prop} {a w : World} (h : KeptL S a w) (p : Addr) (v : Value) (hp : S p.block ∨ a.heap.size ≤ p.block) : KeptL S a (w.setCell p v) :=
  h.grown (row := some p.block) (grownBy_setCellL w p v) (fun k e => by cases e; exact hp)
theorem KeptL.alloc {S : Nat → Prop} {a w : World} (h : KeptL S a w) (o : Obj) : KeptL S a (w.alloc o) := h.grown (World.grownBy_alloc w o none) (fun k e => by cases e)
theorem KeptL.below {S : Nat → Prop} {w w' : World} {B : Nat} (h : KeptL S w w') (hB : B ≤ w.heap.size) (hS : ∀ b, S b → B ≤ b) : Below B w w' :=
  ⟨h.os, h.tape, h.output, h.size, fun k hk => h.block k (by omega) (fun hs => by have := hS k hs; omega)⟩

abbrev DW := DataW Unit
/-- A number that a map holds. -/
def iv (i : Int) : DW := .lit (.int .i64 i)
def ks (s : ByteArray) : Lit := .string s.data.toList
theorem ks_key (s : ByteArray) : WideAt.IsKeyLit (ks s) := trivial
theorem ks_inj {s t : ByteArray} (h : ks s = ks t) : s = t := by
  unfold ks at h; injection h with h
  cases s; cases t
  simp only at h
  congr 1
  exact Array.ext' h

/-- What a map tells of a key. -/
def view (D : DW) (k : Lit) : Option DW := if Maps.has D k then some (D.atKey k (iv 0)) else none
theorem view_put_same {D : DW} (hD : IsMap D) {k : Lit} (hk : WideAt.IsKeyLit k) (d : DW) : view (D.put k d) k = some d := by unfold view; rw [has_put_same hD hk, atKey_put_same hD hk]; rfl
theorem view_put_other {D : DW} {k k' : Lit} (hne : k' ≠ k) (d : DW) : view (D.put k d) k' = view D k' := by unfold view; rw [has_put_other hne, atKey_put_other hne]
theorem view_del_same {D : DW} {k : Lit} : view (D.del k) k = none := by unfold view; rw [has_del_same]; rfl
theorem view_del_other {D : DW} {k k' : Lit} (hne : k' ≠ k) : view (D.del k) k' = view D k' := by unfold view; rw [has_del_other hne, atKey_del_other hne]
theorem view_none {D : DW} {k : Lit} (h : Maps.has D k = false) : view D k = none := by unfold view; rw [h]; rfl
theorem has_view {D : DW} {k : Lit} : Maps.has D k = (view D k).isSome := by unfold view; cases Maps.has D k <;> rfl

noncomputable abbrev intElem (v : Value) : Option (DW × List MemPlace) := plainElem Try.prog 3 v
abbrev Owns (w : World) (m n : Nat) (D : DW) : Prop := w.ownsMap Try.prog 9 intElem m n D
theorem lawS : Keyed Try.prog 9 := string_keyed Try.underlying9
theorem intElem_mk {i : Int} (h : (Lit.int .i64 i).wf = true) : intElem (.int .i64 i) = some (iv i, []) := plainElem_int Try.underlying3 h
theorem intElem_inv {v : Value} {z : DW × List MemPlace} (h : intElem v = some z) : ∃ i : Int, v = .int .i64 i ∧ z = (iv i, []) ∧ (Lit.int .i64 i).wf = true := plainElem_int_inv Try.underlying3 h
/-- The map holds the entries. -/
def MapE (D : DW) (l : List Ent) : Prop := ∀ k d, view D k = some d ↔ ∃ x, x ∈ l ∧ k = ks x.1 ∧ d = iv x.2
theorem MapE.empty : MapE (.map []) [] := fun k d => by
  rw [view_none rfl]
  simp
theorem MapE.del {D : DW} {l : List Ent} {s : ByteArray} (h : MapE D l) : MapE (D.del (ks s)) (without l s) := fun k d => by
  by_cases e : k = ks s
  · subst e; rw [view_del_same]
    constructor
    · rintro he; cases he
    · rintro ⟨x, hx, hk, rfl⟩; exact absurd (ks_inj hk).symm (without_mem.1 hx).2
  · rw [view_del_other e, h k d]
    constructor
    · rintro ⟨x, hx, hk, rfl⟩; exact ⟨x, without_mem.2 ⟨hx, fun h2 => e (by rw [hk, h2])⟩, hk, rfl⟩
    · rintro ⟨x, hx, hk, rfl⟩; exact ⟨x, (without_mem.1 hx).1, hk, rfl⟩
theorem MapE.put {D : DW} {l : List Ent} {s : ByteArray} (h : MapE D l) (hD : IsMap D) (f : Int) : MapE (D.put (ks s) (iv f)) (with_ l s f) := fun k d => by
  by_cases e : k = ks s
  · subst e; rw [view_put_same hD (ks_key s)]
    constructor
    · rintro he; injection he with he; exact ⟨(s, f), with_mem.2 (.inl rfl), rfl, he.symm⟩
    · rintro ⟨x, hx, hk, rfl⟩; rcases with_mem.1 hx with rfl | hx
      · rfl
      · exact absurd (ks_inj hk).symm hx.2
  · rw [view_put_other e, h k d]
    constructor
    · rintro ⟨x, hx, hk, rfl⟩; exact ⟨x, with_mem.2 (.inr ⟨hx, fun h2 => e (by rw [hk, h2])⟩), hk, rfl⟩
    · rintro ⟨x, hx, hk, rfl⟩; rcases with_mem.1 hx with rfl | hx
      · exact absurd hk e
      · exact ⟨x, hx.1, hk, rfl⟩
theorem MapE.look_ {D : DW} {l : List Ent} (h : MapE D l) (s : ByteArray) : view D (ks s) = (has l s).map fun x => iv x.2 := by
  cases hl : has l s with
  | none =>
    cases hv : view D (ks s) with
    | none => rfl
    | some d =>
      obtain ⟨x, hx, hk, _⟩ := (h _ _).1 hv; exact absurd (ks_inj hk).symm (has_none.1 hl x hx)
  | some x =>
    obtain ⟨h1, h2⟩ := has_some hl; exact (h _ _).2 ⟨x, h1, by rw [h2], rfl⟩
theorem MapE.size {D : DW} {Es : List Ent} (h : MapE D Es) (hT0 : Tidy D) (hC : Maps.Canon D) (hN : (Es.map (·.1)).Nodup) : Maps.size D = Es.length := by
  obtain ⟨es, rfl, _, hk⟩ := hC; obtain ⟨es', e, hs⟩ := hT0; injection e with e; subst e
  have hT : (es.map (·.1)).Nodup := by
    unfold List.Nodup; rw [List.pairwise_map]; exact hs
  have hE : (Es.map fun x => ks x.1).Nodup := by
    unfold List.Nodup at hN ⊢; rw [List.pairwise_map] at hN ⊢; exact hN.imp (fun hpq e => hpq (ks_inj e))
  have hp : (es.map (·.1)).Perm (Es.map fun x => ks x.1) := by
    rw [List.perm_ext_iff_of_nodup hT hE]; intro k
    constructor
    · intro hm; obtain ⟨p, hp, rfl⟩ := List.mem_map.1 hm
      have hh : Maps.has (DataW.map es) p.1 = true := by
        rw [Maps.has_eq, List.any_eq_true]; exact ⟨p, hp, WideAt.sameKey_self (hk p hp)⟩
      rw [has_view, Option.isSome_iff_exists] at hh; obtain ⟨d, hd⟩ := hh; obtain ⟨x, hx, hk2, _⟩ := (h _ _).1 hd; exact List.mem_map.2 ⟨x, hx, hk2.symm⟩
    · intro hm; obtain ⟨x, hx, rfl⟩ := List.mem_map.1 hm
      have hh : Maps.has (DataW.map es) (ks x.1) = true := by
        rw [has_view, (h _ _).2 ⟨x, hx, rfl, rfl⟩]; rfl
      rw [Maps.has_eq, List.any_eq_true] at hh; obtain ⟨p, hp, he⟩ := hh; exact List.mem_map.2 ⟨p, hp, WideAt.sameKey_eq he⟩
  have hl := hp.length_eq; rw [List.length_map, List.length_map] at hl; exact hl
/-- A map block that holds the entries. -/
def OwnE (w : World) (m : Nat) (l : List Ent) : Prop := ∃ n D, Owns w m n D ∧ MapE D l
theorem OwnE.same {w w' : World} {m : Nat} {l : List Ent} (h : OwnE w m l) (e : w'.heap[m]? = w.heap[m]?) : OwnE w' m l := by
  obtain ⟨n, D, ⟨es, clock, h1, h2⟩, h3⟩ := h; exact ⟨n, D, ⟨es, clock, e.trans h1, h2⟩, h3⟩
theorem OwnE.lt {w : World} {m : Nat} {l : List Ent} (h : OwnE w m l) : m < w.heap.size := by
  obtain ⟨n, D, ⟨es, clock, h1, h2⟩, h3⟩ := h; exact blk_lt h1
theorem OwnE.ne {w : World} {m g : Nat} {l : List Ent} {cs : Array Value} {t : TypeId} (h : OwnE w m l) (hb : w.heap[g]? = some (.cells cs t (0, 0))) : m ≠ g := by
  obtain ⟨n, D, ⟨es, clock, h1, h2⟩, h3⟩ := h; intro e; rw [e, hb] at h1
  cases h1
theorem Owns.tight {w : World} {m n : Nat} {D : DW} (h : Owns w m n D) : Owns w m (Maps.size D) D := by
  obtain ⟨es, clock, h1, h2, h3, h4⟩ := h; refine ⟨es, clock, h1, h2, ?_, h4⟩; rw [h4]; show es.size ≤ List.length _; rw [length_read]; exact Nat.le_refl _
theorem OwnE.tight {w : World} {m : Nat} {l : List Ent} (h : OwnE w m l) (hN : Srt l) : ∃ D, Owns w m l.length D ∧ MapE D l ∧ Tidy D ∧ Maps.size D = l.length := by
  obtain ⟨n, D, h1, h2⟩ := h; have ht := h1.tidy lawS; have hs := h2.size ht (h1.canon lawS) hN.nodup; have h3 := h1.tight; rw [hs] at h3; exact ⟨D, h3, h2, ht, hs⟩
/-- Own rows of plain elements stand where their block does. -/
theorem R_keepD {α : Type} {d : Kd α} {e : Nat} {w w' : World} {v : Value} {xs : List α} (hE : d.E = []) (h : Kd.R d e w 0 (fun _ => True) v xs) (hm : ∀ k, v.ownBlock = some k → w'.heap[k]? = w.heap[k]?) : Kd.R d e w' 0 (fun _ => True) v xs :=
  Kd.R_mono (Kd.R_step (Kd.R_tight hE h) (fun k ho _ => hm k ho.symm)) (fun _ _ => trivial)
/-- A pointer to a block. -/
abbrev kP : Kd Nat := Kd.scalar (fun b : Nat => Value.pointer (some ⟨b, 0, none⟩)) (fun _ => rfl)
abbrev kB : Kd Int := Kd.int .u8
abbrev kC : Kd Chg := Kd.iso (Kd.pair Kd.string (Kd.pair Kd.string (Kd.int .i64))) (fun x => x)
/-- A file of the program's: its struct's block, its bytes' slice. -/
abbrev FM := Nat × Value
def FileAt (w : World) (a : FM) (f : Fil) : Prop := w.heap[a.1]? = some (.cells #[a.2, .int .i64 f.2] 97 (0, 0)) ∧ Kd.R kB 5 w 0 (fun _ => True) a.2 f.1
def fm0 : FM := (0, .slice none 0 0)
/-- The program's disk. u: what it has counted as used. -/
structure DskM (w : World) (F : Nat → Prop) (d : Nat) (S : DS) (u : Int) (md ms : Nat) (vf vc : Value) (fm : List FM) : Prop where
  blk : w.heap[d]? = some (.cells #[.int .i64 S.room, .int .i64 u, vf, .map (some md), .map (some ms), vc, .int .i64 S.ops, .int .i64 S.armed, .bool S.dead] 87 (0, 0))
  own : Kd.R kP 95 w 0 (fun _ => True) vf (fm.map (·.1))
  len : fm.length = S.files.length
  at_ : ∀ i, i < S.files.length → FileAt w (fm.getD i fm0) (S.files.getD i ([], 0))
  sep : ∀ i j, i < fm.length → j < fm.length → i ≠ j → (fm.getD i fm0).1 ≠ (fm.getD j fm0).1 ∧ ∀ k, (fm.getD i fm0).2.ownBlock = some k → (fm.getD j fm0).2.ownBlock ≠ some k
  dir : OwnE w md S.dir
  safe : OwnE w ms S.safe
  apart : md ≠ ms
  chg : Kd.R kC 89 w 0 (fun _ => True) vc S.chg
  foot : F d ∧ F md ∧ F ms ∧ (∀ k, vf.ownBlock = some k → F k) ∧ (∀ k, vc.ownBlock = some k → F k) ∧ ∀ a, a ∈ fm → F a.1 ∧ ∀ k, a.2.ownBlock = some k → F k
  lt : ∀ k, F k → k < w.heap.size
theorem getD_mem {α : Type} {l : List α} {i : Nat} {z : α} (h : i < l.length) : l.getD i z ∈ l := by
  rw [List.getD_eq_getElem?_getD, List.getElem?_eq_getElem h]; exact List.getElem_mem h
theorem FileAt.same {w w' : World} {a : FM} {f : Fil} (h : FileAt w a f) (h1 : w'.heap[a.1]? = w.heap[a.1]?) (h2 : ∀ k, a.2.ownBlock = some k → w'.heap[k]? = w.heap[k]?) : FileAt w' a f :=
  ⟨h1.trans h.1, R_keepD rfl h.2 h2⟩
/-- What others have turned. -/
theorem DskM.kept {w w' : World} {F G : Nat → Prop} {d : Nat} {S : DS} {u : Int} {md ms : Nat} {vf vc : Value} {fm : List FM} (h : DskM w F d S u md ms vf vc fm) (hk : KeptL G w w') (hFG : ∀ k, F k → ¬ G k) : DskM w' F d S u md ms vf vc fm := by
  have hb : ∀ k, F k → w'.heap[k]? = w.heap[k]? := fun k hF => hk.block k (h.lt k hF) (hFG k hF); obtain ⟨f1, f2, f3, f4, f5, f6⟩ := h.foot
  exact { h with
    blk := (hb d f1).trans h.blk
    own := R_keepD rfl h.own (fun k hv => hb k (f4 k hv))
    at_ := fun i hi => by
      have hm := f6 _ (getD_mem (z := fm0) (by rw [h.len]; exact hi : i < fm.length)); exact (h.at_ i hi).same (hb _ hm.1) (fun k hv => hb k (hm.2 k hv))
    dir := h.dir.same (hb md f2)
    safe := h.safe.same (hb ms f3)
    chg := R_keepD rfl h.chg (fun k hv => hb k (f5 k hv))
    lt := fun k hF => Nat.lt_of_lt_of_le (h.lt k hF) hk.size }
theorem DskM.below {w w' : World} {F : Nat → Prop} {d : Nat} {S : DS} {u : Int} {md ms : Nat} {vf vc : Value} {fm : List FM} (h : DskM w F d S u md ms vf vc fm) (hb : Below w.heap.size w w') : DskM w' F d S u md ms vf vc fm :=
  h.kept (G := fun _ => False) (KeptL.of_below hb) (fun _ _ hf => hf)
/-- The pieces beside the disk's own block. -/
theorem DskM.ne_d {w : World} {F : Nat → Prop} {d : Nat} {S : DS} {u : Int} {md ms : Nat} {vf vc : Value} {fm : List FM} (h : DskM w F d S u md ms vf vc fm) : md ≠ d ∧ ms ≠ d ∧ (∀ k, vf.ownBlock = some k → k ≠ d) ∧ (∀ k, vc.ownBlock = some k → k ≠ d) ∧ ∀ i, i < S.files.length → (fm.getD i fm0).1 ≠ d ∧ ∀ k, (fm.getD i fm0).2.ownBlock = some k → k ≠ d := by
  refine ⟨h.dir.ne h.blk, h.safe.ne h.blk, fun k hv e => ?_, fun k hv e => ?_, fun i hi => ⟨?_, fun k hv e => ?_⟩⟩
  · exact Kd.R_ne h.own h.blk (by decide) (by rw [hv, e])
  · exact Kd.R_ne h.chg h.blk (by decide) (by rw [hv, e])
  · exact blk_ne (h.at_ i hi).1 h.blk (by decide)
  · exact Kd.R_ne (h.at_ i hi).2 h.blk (by decide) (by rw [hv, e])
/-- The disk's own cells have turned. -/
theorem DskM.turnD {w w' : World} {F : Nat → Prop} {d : Nat} {S S' : DS} {u u' : Int} {md ms : Nat} {vf vc : Value} {fm : List FM} (h : DskM w F d S u md ms vf vc fm) (hk : KeptL (fun k => k = d) w w')
    (hb : w'.heap[d]? = some (.cells #[.int .i64 S'.room, .int .i64 u', vf, .map (some md), .map (some ms), vc, .int .i64 S'.ops, .int .i64 S'.armed, .bool S'.dead] 87 (0, 0)))
    (e1 : S'.files = S.files) (e2 : S'.dir = S.dir) (e3 : S'.safe = S.safe) (e4 : S'.chg = S.chg) : DskM w' F d S' u' md ms vf vc fm := by
  obtain ⟨n1, n2, n3, n4, n5⟩ := h.ne_d; obtain ⟨f1, f2, f3, f4, f5, f6⟩ := h.foot; have hs : ∀ k, F k → k ≠ d → w'.heap[k]? = w.heap[k]? := fun k hF hne => hk.block k (h.lt k hF) hne; refine ⟨hb, R_keepD rfl h.own (fun k hv => hs k (f4 k hv) (n3 k hv)), by rw [e1]; exact h.len, fun i hi => ?_, h.sep, by rw [e2]; exact h.dir.same (hs md f2 n1), by rw [e3]; exact h.safe.same (hs ms f3 n2), h.apart, by rw [e4]; exact R_keepD rfl h.chg (fun k hv => hs k (f5 k hv) (n4 k hv)), h.foot, fun k hF => Nat.lt_of_lt_of_le (h.lt k hF) hk.size⟩; rw [e1] at hi ⊢; have hm := f6 _ (getD_mem (z := fm0) (by rw [h.len]; exact hi : i < fm.length)); exact (h.at_ i hi).same (hs _ hm.1 (n5 i hi).1) (fun k hv => hs k (hm.2 k hv) ((n5 i hi).2 k hv))
/-- A disk of the program's, whatever its insides. -/
def DskAt (w : World) (F : Nat → Prop) (d : Nat) (S : DS) : Prop := Inv S ∧ ∃ md ms vf vc fm, DskM w F d S (used S) md ms vf vc fm
theorem DskAt.kept {w w' : World} {F G : Nat → Prop} {d : Nat} {S : DS} (h : DskAt w F d S) (hk : KeptL G w w') (hFG : ∀ k, F k → ¬ G k) : DskAt w' F d S := by
  obtain ⟨h0, md, ms, vf, vc, fm, h1⟩ := h; exact ⟨h0, md, ms, vf, vc, fm, h1.kept hk hFG⟩
theorem DskAt.below {w w' : World} {F : Nat → Prop} {d : Nat} {S : DS} (h : DskAt w F d S) (hb : Below w.heap.size w w') : DskAt w' F d S :=
  h.kept (G := fun _ => False) (KeptL.of_below hb) (fun _ _ hf => hf)
theorem DskAt.lt {w : World} {F : Nat → Prop} {d : Nat} {S : DS} (h : DskAt w F d S) : ∀ k, F k → k < w.heap.size := by
  obtain ⟨h0, md, ms, vf, vc, fm, h1⟩ := h; exact h1.lt
/-- A footprint, and what a call has made. -/
def grow (F : Nat → Prop) (w w' : World) : Nat → Prop := fun k => F k ∨ (w.heap.size ≤ k ∧ k < w'.heap.size)
end Go.Proofs.Ytdekcjopgnfmdaa.Hand
namespace Go.Proofs.Ytdekcjopgnfmdaa.Hand
open Go.RowKit Go.Maps Go.Proofs.YtdekcjopgnfmdaaW.PrintWords Go.Proofs.YtdekcjopgnfmdaaW.PrintLast Go.Proofs.YtdekcjopgnfmdaaW.PrintMore Go.Proofs.Ytdekcjopgnfmdaa.Q
set_option linter.unusedVariables false
set_option linter.unusedSimpArgs false
theorem ptr_at {w : World} {A : Option Addr} {n : Nat} {xs : List Nat} (h : Kd.C kP w A n xs) (i : Nat) (h1 : i < n) : ∃ ad, A = some ad ∧ w.cell? (ad.add i) = some (.pointer (some ⟨xs.getD i 0, 0, none⟩)) := by
  obtain ⟨ad, c, e, _, hK, hc0⟩ := Kd.C_get h 0 (i : Int) (by omega) (by omega); rw [Int.toNat_natCast] at hK hc0; have hc : c = [.pointer (some ⟨xs.getD i 0, 0, none⟩)] := hK; subst hc; have h2 := hc0 0 _ rfl; have e2 : i * kP.sz + 0 = i := by show i * 1 + 0 = i; omega
  rw [e2] at h2; exact ⟨ad, e, h2⟩
theorem getD_map1 {fm : List FM} {i : Nat} (h : i < fm.length) : (fm.map (·.1)).getD i 0 = (fm.getD i fm0).1 := by
  rw [List.getD_eq_getElem?_getD, List.getD_eq_getElem?_getD, List.getElem?_map, List.getElem?_eq_getElem h]; rfl
theorem iv_inj {a b : Int} (h : iv a = iv b) : a = b := by
  unfold iv at h; injection h with h; injection h
/-- What the directory's map tells of a name. -/
theorem dir_look {w : World} {m : Nat} {l : List Ent} (h : OwnE w m l) (s : ByteArray) (hs : s.size ≤ 9223372036854775807) :
    ∃ i : Int, (Instr.lookup 82 (.map (some m)) (.string s) true).run Try.prog w = .ok (.tuple #[.int .i64 i, .bool (has l s).isSome]) w ∧ ∀ e, has l s = some e → i = e.2 := by
  obtain ⟨n, D, hO, hM⟩ := h; have hkey := WideMaps.keyOf_string_mk (P := Try.prog) Try.underlying9 (s := s) (by unfold maxLen; omega); obtain ⟨v, ps, hlook, hv⟩ := hO.look_ok lawS Try.underlying82 (Try.zeroValue3 _) (intElem_mk (i := 0) (by decide)) hkey; obtain ⟨i, rfl, hvd, hw⟩ := intElem_inv hv; have hl := hM.look_ s
  have hhas : Maps.has D (Lit.string s.data.toList) = (has l s).isSome := by
    show Maps.has D (ks s) = _; rw [has_view, hl, Option.isSome_map]
  rw [hhas] at hlook; refine ⟨i, hlook, fun e he => ?_⟩; rw [he] at hl; unfold view at hl
  split at hl
  · have h1 : D.atKey (ks s) (iv 0) = iv e.2 := by simpa using hl
    have h2 : D.atKey (ks s) (iv 0) = iv i := by
      have := congrArg Prod.fst hvd; exact this
    exact iv_inj (h2.symm.trans h1)
  · cases hl
set_option maxHeartbeats 1000000 in
theorem disk_find.calls {w : World} {F : Nat → Prop} {d : Nat} {S : DS} {u : Int} {md ms : Nat} {vf vc : Value} {fm : List FM} (h : DskM w F d S u md ms vf vc fm) (hD : ∀ e, e ∈ S.dir → 0 ≤ e.2 ∧ e.2 < S.files.length) (n : ByteArray) (hn : n.size ≤ 9223372036854775807) :
    Calls Try.prog 62 #[.pointer (some ⟨d, 0, none⟩), .string n] w fun e w' => w' = w ∧ ((has S.dir n = none ∧ e = .returned (.pointer none)) ∨ ∃ en, has S.dir n = some en ∧ e = .returned (.pointer (some ⟨(fm.getD en.2.toNat fm0).1, 0, none⟩))) := by
  obtain ⟨A, c, rfl, hc, hC⟩ := Kd.R_reads h.own; obtain ⟨i, hlook, hi⟩ := dir_look h.dir n hn; have c2 := (blk_cell h.blk 2).trans rfl; have c3 := (blk_cell h.blk 3).trans rfl; rw [List.length_map] at hC c2; have hl := h.len
  cases hh : has S.dir n with
  | none =>
    rw [hh] at hlook; simp only [Option.isSome_none] at hlook; clear h hD hC hi hh hl; go_enter Try.func62, Try.ntmps62
    go_wp2_with fail
    go_ret; exact ⟨rfl, .inl ⟨by first | rfl | trivial, rfl⟩⟩
  | some en =>
    rw [hh] at hlook; simp only [Option.isSome_some] at hlook; have hb := hD en (has_some hh).1; obtain ⟨j, hj⟩ : ∃ j : Nat, (j : Int) = en.2 := ⟨en.2.toNat, by omega⟩; have hij : i = (j : Int) := (hi en hh).trans hj.symm; subst hij; have hjn : en.2.toNat = j := by omega
    obtain ⟨ad, rfl, hp⟩ := ptr_at hC j (by omega); rw [getD_map1 (by omega)] at hp; have hj1 : j < fm.length := by omega
    obtain ⟨b, hb2⟩ : ∃ b, b = (fm.getD j fm0).1 := ⟨_, rfl⟩; rw [← hb2] at hp; have HJN : Aside0 ((fm.getD en.2.toNat fm0).1 = b) := ⟨by rw [hjn, hb2]⟩; clear h hD hC hi hh hl hb hj hjn hb2; go_enter Try.func62, Try.ntmps62
    go_wp2_with fail
    go_ret; exact ⟨rfl, .inr ⟨en, by first | rfl | trivial, by rw [HJN.out]; rfl⟩⟩
theorem blkD_put {w : World} {d : Nat} {cs : Array Value} (h : w.heap[d]? = some (.cells cs 87 (0, 0))) (j : Nat) (v : Value) {cs' : Array Value} (e : cs.setIfInBounds j v = cs') : (w.setCell ⟨d, j, none⟩ v).heap[d]? = some (.cells cs' 87 (0, 0)) := blk_put h j v e
set_option maxHeartbeats 1000000 in
theorem disk_goes.calls {w : World} {F : Nat → Prop} {d : Nat} {S : DS} {u : Int} {md ms : Nat} {vf vc : Value} {fm : List FM} (h : DskM w F d S u md ms vf vc fm) (hA : 0 ≤ S.armed ∧ S.armed ≤ 9223372036854775807) (hO : 0 ≤ S.ops ∧ S.ops < 1048576) :
    Calls Try.prog 54 #[.pointer (some ⟨d, 0, none⟩)] w fun e w' => e = .returned (.int .i64 (goes S).2) ∧ DskM w' F d (goes S).1 u md ms vf vc fm ∧ KeptL (fun k => k = d) w w' := by
  have H := Aside0.mk h; have c6 := (blk_cell h.blk 6).trans rfl; have c7 := (blk_cell h.blk 7).trans rfl; have c8 := (blk_cell h.blk 8).trans rfl; have z6 := blk_frozen h.blk 6; have z7 := blk_frozen h.blk 7; have z8 := blk_frozen h.blk 8; rcases goes_cases S with ⟨a, b, e⟩ | ⟨a, b, e⟩ | ⟨a, e⟩
  · have HE := Aside0.mk e; have b1 : decide (S.armed > 0) = true := decide_eq_true a; have b2 : (S.armed - 1 == 0) = true := by simpa using b
    have HA1 : Aside0 (S.armed - 1 = 0) := ⟨b⟩; clear h e a b; go_enter Try.func54, Try.ntmps54
    go_wp2_with fail
    go_ret; rw [HE.out]; have hk := ((KeptL.refl (fun k => k = d) w).setCell ⟨d, 7, none⟩ (.int .i64 (S.armed - 1)) (.inl rfl)).setCell ⟨d, 8, none⟩ (.bool true) (.inl rfl); exact ⟨rfl, H.out.turnD hk (blkD_put (blkD_put H.out.blk 7 _ rfl) 8 _ (by rw [HA1.out]; rfl)) rfl rfl rfl rfl, hk⟩
  · have HE := Aside0.mk e; have b1 : decide (S.armed > 0) = true := decide_eq_true a; have b2 : (S.armed - 1 == 0) = false := by simpa using b
    clear h e a b; go_enter Try.func54, Try.ntmps54
    go_wp2_with fail
    go_ret; rw [HE.out]; have hk := ((KeptL.refl (fun k => k = d) w).setCell ⟨d, 7, none⟩ (.int .i64 (S.armed - 1)) (.inl rfl)).setCell ⟨d, 6, none⟩ (.int .i64 (S.ops + 1)) (.inl rfl); exact ⟨rfl, H.out.turnD hk (blkD_put (blkD_put H.out.blk 7 _ rfl) 6 _ rfl) rfl rfl rfl rfl, hk⟩
  · have HE := Aside0.mk e; have b1 : decide (S.armed > 0) = false := decide_eq_false a; clear h e a; go_enter Try.func54, Try.ntmps54
    go_wp2_with fail
    go_ret; rw [HE.out]; have hk := (KeptL.refl (fun k => k = d) w).setCell ⟨d, 6, none⟩ (.int .i64 (S.ops + 1)) (.inl rfl); exact ⟨rfl, H.out.turnD hk (blkD_put H.out.blk 6 _ rfl) rfl rfl rfl rfl, hk⟩
set_option maxHeartbeats 1000000 in
theorem disk_Count.calls {w : World} {F : Nat → Prop} {d : Nat} {S : DS} (h : DskAt w F d S) : Calls Try.prog 21 #[.pointer (some ⟨d, 0, none⟩)] w fun e w' => e = .returned (.int .i64 S.ops) ∧ w' = w := by
  obtain ⟨hI, md, ms, vf, vc, fm, h1⟩ := h; have c6 := (blk_cell h1.blk 6).trans rfl; clear h1; go_enter Try.func21, Try.ntmps21
  go_wp2_with fail
  go_ret; exact ⟨rfl, rfl⟩
set_option maxHeartbeats 1000000 in
theorem disk_Dead.calls {w : World} {F : Nat → Prop} {d : Nat} {S : DS} (h : DskAt w F d S) : Calls Try.prog 22 #[.pointer (some ⟨d, 0, none⟩)] w fun e w' => e = .returned (.bool S.dead) ∧ w' = w := by
  obtain ⟨hI, md, ms, vf, vc, fm, h1⟩ := h; have c8 := (blk_cell h1.blk 8).trans rfl; clear h1; go_enter Try.func22, Try.ntmps22
  go_wp2_with fail
  go_ret; exact ⟨rfl, rfl⟩
set_option maxHeartbeats 1000000 in
theorem disk_Free.calls {w : World} {F : Nat → Prop} {d : Nat} {S : DS} (h : DskAt w F d S) : Calls Try.prog 37 #[.pointer (some ⟨d, 0, none⟩)] w fun e w' => e = .returned (.int .i64 (freeOf S)) ∧ Below w.heap.size w w' := by
  obtain ⟨hI, md, ms, vf, vc, fm, h1⟩ := h; have c0 := (blk_cell h1.blk 0).trans rfl; have c1 := (blk_cell h1.blk 1).trans rfl; have c8 := (blk_cell h1.blk 8).trans rfl; have hu := hI.usedB; have hr := hI.roomB
  cases hd : S.dead with
  | true =>
    rw [hd] at c8; have HF : Aside0 (freeOf S = 0) := ⟨by unfold freeOf; rw [hd]; rfl⟩; clear h1 hd; go_enter Try.func37, Try.ntmps37
    go_wp2_with fail
    go_ret; exact ⟨by rw [HF.out]; rfl, Below.refl _ _⟩
  | false =>
    rw [hd] at c8; have HF : Aside0 (freeOf S = S.room - used S) := ⟨by unfold freeOf; rw [hd]; rfl⟩; have hw : wrap64 (S.room - used S) = S.room - used S := w64L (by omega) (by omega); clear h1 hd hu hr hI; go_enter Try.func37, Try.ntmps37
    go_wp2_with fail
    refine start_ (n := 10) (S := fun w' => w'.cell? ⟨d, 0, none⟩ = some (.int .i64 S.room) ∧ w'.cell? ⟨d, 1, none⟩ = some (.int .i64 (used S))) (ds := []) (bm 10 0) (by kernel_rfl) rfl rfl ⟨c0, c1⟩ (fun hHeld => ?_); refine pure_ (i := 0) (N := some 11) (v:=?_) (a':=?_) (bm 10 1) rfl rfl (by kernel_rfl) (fun _ _ _ h => h) (Or.inl ⟨by rfl, ?_⟩) ?_ ?_; rotate_left
    · intro w'; go_simp; with_reducible rfl
    rotate_left
    · simp only [Act.put,s_a,s_b,s_c,i64_w,i32_w]; rfl
    refine pure_ (i := 1) (N := some 12) (v:=?_) (a':=?_) (bm 10 3) rfl rfl (by kernel_rfl) (fun _ _ _ h => h) (Or.inl ⟨by rfl, ?_⟩) ?_ ?_; rotate_left
    · intro w'; go_simp; with_reducible rfl
    rotate_left
    · simp only [Act.put,s_a,s_b,s_c,i64_w,i32_w]; rfl
    refine pure_ (i := 2) (N := some 13) (v:=?_) (a':=?_) (bm 10 7) rfl rfl (by kernel_rfl) (fun _ _ _ h => h) (Or.inl ⟨by rfl, ?_⟩) ?_ ?_; rotate_left
    · intro w'; go_simp; with_reducible rfl
    rotate_left
    · simp only [Act.put,s_a,s_b,s_c,i64_w,i32_w]; rfl
    refine pure_ (i := 4) (N := some 15) (v:=?_) (a':=?_) (bm 10 23) rfl rfl (by kernel_rfl) (fun _ _ _ h => h) (Or.inl ⟨by rfl, ?_⟩) ?_ ?_; rotate_left
    · intro w'; go_simp; with_reducible rfl
    rotate_left
    · simp only [Act.put,s_a,s_b,s_c,i64_w,i32_w]; rfl
    refine pure_ (i := 5) (N := some 16) (v:=?_) (a':=?_) (bm 10 55) rfl rfl (by kernel_rfl) (fun _ _ _ h => h) (Or.inl ⟨by rfl, ?_⟩) ?_ ?_; rotate_left
    · intro w'; go_simp; with_reducible rfl
    rotate_left
    · simp only [Act.put,s_a,s_b,s_c,i64_w,i32_w]; rfl
    refine pure_ (i := 6) (N := some 17) (v:=?_) (a':=?_) (bm 10 119) rfl rfl (by kernel_rfl) (fun _ _ _ h => h) (Or.inl ⟨by rfl, ?_⟩) ?_ ?_; rotate_left
    · intro w'; go_simp; with_reducible rfl
    rotate_left
    · simp only [Act.put,s_a,s_b,s_c,i64_w,i32_w]; rfl
    refine take_ (i := 3) (N := some 14) (v:=?_) (a':=?_) (bm 10 127) rfl rfl (by kernel_rfl) (fun _ _ _ h => h) (Or.inl ⟨by rfl, ?_⟩) hHeld ?_ ?_; rotate_left
    · rintro w' ⟨s0, s1⟩; go_simp; with_reducible rfl
    rotate_left
    · simp only [Act.put,s_a,s_b,s_c,i64_w,i32_w]; rfl
    refine take_ (i := 7) (N := some 18) (v:=?_) (a':=?_) (bm 10 255) rfl rfl (by kernel_rfl) (fun _ _ _ h => h) (Or.inl ⟨by rfl, ?_⟩) hHeld ?_ ?_; rotate_left
    · rintro w' ⟨s0, s1⟩; go_simp; with_reducible rfl
    rotate_left
    · simp only [Act.put,s_a,s_b,s_c,i64_w,i32_w]; rfl
    refine pure_ (i := 8) (N := some 19) (v:=?_) (a':=?_) (bm 10 511) rfl rfl (by kernel_rfl) (fun _ _ _ h => h) (Or.inl ⟨by rfl, ?_⟩) ?_ ?_; rotate_left
    · intro w'; go_simp; with_reducible rfl
    rotate_left
    · simp only [Act.put,s_a,s_b,s_c,i64_w,i32_w]; rfl
    refine pure_ (i := 9) (N := some 2) (v:=?_) (a':=?_) (bm 10 1023) rfl rfl (by kernel_rfl) (fun _ _ _ h => h) (Or.inl ⟨by rfl, ?_⟩) ?_ ?_; rotate_left
    · intro w'; go_simp; with_reducible rfl
    rotate_left
    · simp only [Act.put,s_a,s_b,s_c,i64_w,i32_w]; rfl
    refine done_ (by kernel_rfl) ?_; go_wp2_with fail
    go_ret; exact ⟨by rw [HF.out]; first | rfl | (rw [← hw]; rfl), below_drew1 (Below.refl _ _)⟩
set_option maxHeartbeats 1000000 in
theorem disk_Arm.calls {w : World} {F : Nat → Prop} {d : Nat} {S : DS} (h : DskAt w F d S) (n : Int) (hn : -9223372036854775808 ≤ n ∧ n ≤ 9223372036854775807) : Calls Try.prog 27 #[.pointer (some ⟨d, 0, none⟩), .int .i64 n] w fun e w' => (∃ v, e = .returned v) ∧ DskAt w' F d (opArm S n) ∧ KeptL F w w' := by
  obtain ⟨hI, md, ms, vf, vc, fm, h1⟩ := h; have c8 := (blk_cell h1.blk 8).trans rfl; have c7 := (blk_cell h1.blk 7).trans rfl; have z7 := blk_frozen h1.blk 7; have H := Aside0.mk (And.intro hI h1)
  cases hd : S.dead with
  | true =>
    rw [hd] at c8; have HF : Aside0 (opArm S n = S) := ⟨by unfold opArm; rw [hd]; rfl⟩; clear h1 hd hI; go_enter Try.func27, Try.ntmps27
    go_wp2_with fail
    go_end0; exact ⟨⟨_, rfl⟩, by rw [HF.out]; exact ⟨H.out.1, _, _, _, _, _, H.out.2⟩, KeptL.refl _ _⟩
  | false =>
    rw [hd] at c8; have HF : Aside0 (opArm S n = { S with armed := max n 0 }) := ⟨by unfold opArm; rw [hd]; rfl⟩; have HIA := Aside0.mk (hI.arm n hn.2); clear h1 hd hI; go_enter Try.func27, Try.ntmps27
    go_wp2_with fail
    go_end0; have hk := (KeptL.refl (fun k => k = d) w).setCell ⟨d, 7, none⟩ (.int .i64 (max n 0)) (.inl rfl); have hI2 := HIA.out; rw [HF.out] at hI2 ⊢; exact ⟨⟨_, rfl⟩, ⟨hI2, _, _, _, _, _, H.out.2.turnD (S' := { S with armed := max n 0 }) hk (blkD_put H.out.2.blk 7 _ rfl) rfl rfl rfl rfl⟩, ⟨hk.os, hk.tape, hk.output, hk.size, fun b hb hS => hk.block b hb (fun e => hS (by rw [e]; exact H.out.2.foot.1))⟩⟩
end Go.Proofs.Ytdekcjopgnfmdaa.Hand
namespace Go.Proofs.Ytdekcjopgnfmdaa.Hand
open Go.RowKit Go.Maps Go.Proofs.YtdekcjopgnfmdaaW.PrintWords Go.Proofs.YtdekcjopgnfmdaaW.PrintLast Go.Proofs.YtdekcjopgnfmdaaW.PrintMore Go.Proofs.Ytdekcjopgnfmdaa.Q
set_option linter.unusedVariables false
set_option linter.unusedSimpArgs false
theorem key_of (s : ByteArray) (hs : s.size ≤ 9223372036854775807) : keyOf Try.prog 9 (.string s) = some (ks s) := WideMaps.keyOf_string_mk (P := Try.prog) Try.underlying9 (s := s) (by unfold maxLen; omega)
theorem emp_ne {s : ByteArray} (h : s.size ≠ 0) : (s.toList == ([] : List UInt8)) = false := by
  cases e : (s.toList == ([] : List UInt8)) with
  | false => rfl
  | true =>
    have h2 : s.toList = [] := by simpa using e
    rw [ByteArray.toList_eq] at h2; exact absurd (by rw [← ByteArray.size_data]; have := congrArg List.length h2; simpa using this) h
theorem emp_eq {s : ByteArray} (h : s.size = 0) : (s.toList == ([] : List UInt8)) = true := by
  have : s.toList = [] := by
    rw [ByteArray.toList_eq]; refine List.length_eq_zero_iff.1 ?_; rw [Array.length_toList]; exact h
  rw [this]; rfl
set_option maxHeartbeats 2000000 in
theorem disk_turn.calls {w : World} {m : Nat} {l : List Ent} (h : OwnE w m l) (hS : Srt l) (hl : l.length ≤ 2097152) (a b : ByteArray) (f : Int) (ha : a.size ≤ 32) (hb : b.size ≤ 32) (hf : 0 ≤ f ∧ f ≤ 9223372036854775807) :
    Calls Try.prog 49 #[.map (some m), .agg #[.string a, .string b, .int .i64 f]] w fun e w' => (∃ v, e = .returned v) ∧ OwnE w' m (turn l (a, b, f)) ∧ KeptL (fun k => k = m) w w' := by
  obtain ⟨D, hO, hM, hT, hsz⟩ := h.tight hS; have hmw := h.lt; have HN := Aside0.mk hS; have HL := Aside0.mk hl; obtain ⟨B, hB⟩ : ∃ B, B = w.heap.size := ⟨_, rfl⟩; have hx := blk_new w (.cells #[.string a, .string b, .int .i64 f] 89 (0, 0)); have d0 := (blk_cell hx 0).trans rfl; have d1 := (blk_cell hx 1).trans rfl; have d2 := (blk_cell hx 2).trans rfl; have HOA := Aside0.mk (hO.alloc (.cells #[.string a, .string b, .int .i64 f] 89)); have HM := Aside0.mk hM; have HT := Aside0.mk hT; have HX := Aside0.mk hx; have HK := Aside0.mk ((KeptL.refl (fun k => k = m) w).alloc (.cells #[.string a, .string b, .int .i64 f] 89)); have HKA := Aside0.mk (key_of a (by omega)); have HKB := Aside0.mk (key_of b (by omega)); have HFW := Aside0.mk (intElem_mk (wf_i64 (x := f) (by omega) hf.2)); have HMB : Aside0 (m ≠ w.heap.size) := ⟨by omega⟩; by_cases ea : a.size = 0
  · have t0 := emp_eq ea; by_cases eb : b.size = 0
    · have t1 := emp_eq eb; have HR : Aside0 (turn l (a, b, f) = l) := ⟨by unfold turn turn1; rw [if_pos eb, if_pos ea]⟩; clear h hO hM hT hx hS hl ea eb hB; go_enter Try.func49, Try.ntmps49
      go_wp2_with fail
      go_end0; exact ⟨⟨_, rfl⟩, by rw [HR.out]; exact ⟨_, _, HOA.out, HM.out⟩, HK.out⟩
    · have t1 := emp_ne eb; have HR : Aside0 (turn l (a, b, f) = with_ l b f) := ⟨by unfold turn turn1; rw [if_neg eb, if_pos ea]⟩; obtain ⟨w3, hst, hO3, htu⟩ := World.ownsMap.store HOA.out lawS Try.underlying82 (by unfold maxLen; omega) HKB.out HFW.out; have HO3 := Aside0.mk hO3; have HK3 := Aside0.mk (HK.out.grown htu.grown (fun k e => by cases e; exact .inl rfl)); clear h hO hM hT hx hS hl ea eb hB hO3 htu; go_enter Try.func49, Try.ntmps49
      go_wp2_with fail
      go_end0; exact ⟨⟨_, rfl⟩, by rw [HR.out]; exact ⟨_, _, HO3.out, HM.out.put HT.out.isMap f⟩, HK3.out⟩
  · have t0 := emp_ne ea; by_cases eb : b.size = 0
    · have t1 := emp_eq eb; have HR : Aside0 (turn l (a, b, f) = without l a) := ⟨by unfold turn turn1; rw [if_pos eb, if_neg ea]⟩; clear h hO hM hT hS hl ea eb hB; go_enter Try.func49, Try.ntmps49
      go_wp2_with (first
        | (at_delete; refine wpList_delete_own _ rfl _ _ 82 9 rfl 3 lawS Try.underlying82 intElem m _ D rfl HOA.out _ _ rfl HKA.out ?_; intro w6 ho6 hturn; have HO6 := Aside0.mk ho6; have hx6 := blk_grown hx hturn.grown (fun e => HMB.out (Option.some.inj e).symm); have q1 := (blk_cell hx6 1).trans rfl; have HK6 := Aside0.mk (HK.out.grown hturn.grown (fun k e => by cases e; exact .inl rfl)); clear ho6 hturn hx hx6)
        | fail)
      go_end0; exact ⟨⟨_, rfl⟩, by rw [HR.out]; exact ⟨_, _, HO6.out, HM.out.del⟩, HK6.out⟩
    · have t1 := emp_ne eb; have HR : Aside0 (turn l (a, b, f) = with_ (without l a) b f) := ⟨by unfold turn turn1; rw [if_neg eb, if_neg ea]⟩; clear h hO hM hT hS hl ea eb hB; go_enter Try.func49, Try.ntmps49
      go_wp2_with (first
        | (at_delete; refine wpList_delete_own _ rfl _ _ 82 9 rfl 3 lawS Try.underlying82 intElem m _ D rfl HOA.out _ _ rfl HKA.out ?_; intro w6 ho6 hturn; have HM6 := HM.out.del (s := a); have hO6' : OwnE w6 m (without l a) := ⟨_, _, ho6, HM6⟩; obtain ⟨D6, hO7, hM7, hT7, hz7⟩ := hO6'.tight (HN.out.without a); obtain ⟨w3, hst, hO3, htu⟩ := World.ownsMap.store hO7 lawS Try.underlying82 (by have h1 := without_len l a; have h2 := HL.out; unfold maxLen; omega) HKB.out HFW.out; have HO3 := Aside0.mk hO3; have HM7 := Aside0.mk hM7; have HT7 := Aside0.mk hT7; have hx6 := blk_grown hx hturn.grown (fun e => HMB.out (Option.some.inj e).symm); have q1 := (blk_cell hx6 1).trans rfl; have q2 := (blk_cell hx6 2).trans rfl; have HK6 := Aside0.mk (HK.out.grown hturn.grown (fun k e => by cases e; exact .inl rfl)); have HK3 := Aside0.mk (HK6.out.grown htu.grown (fun k e => by cases e; exact .inl rfl)); clear ho6 hturn hx hx6 HM6 hO6' hO7 hM7 hT7 hz7 hO3 htu)
        | fail)
      go_end0; exact ⟨⟨_, rfl⟩, by rw [HR.out]; exact ⟨_, _, HO3.out, HM7.out.put HT7.out.isMap f⟩, HK3.out⟩
end Go.Proofs.Ytdekcjopgnfmdaa.Hand
namespace Go.Proofs.Ytdekcjopgnfmdaa.Hand
open Go.RowKit Go.Maps Go.Proofs.YtdekcjopgnfmdaaW.PrintWords Go.Proofs.YtdekcjopgnfmdaaW.PrintLast Go.Proofs.YtdekcjopgnfmdaaW.PrintMore Go.Proofs.Ytdekcjopgnfmdaa.Q
set_option linter.unusedVariables false
set_option linter.unusedSimpArgs false
theorem own_ne {α β : Type} {d : Kd α} {d' : Kd β} {e e' b b' : Nat} {w : World} {ok ok' : Nat → Prop} {v v' : Value} {xs : List α} {ys : List β} (h : Kd.R d e w b ok v xs) (h' : Kd.R d' e' w b' ok' v' ys) (hne : e ≠ e') {k : Nat} (hk : v.ownBlock = some k) : v'.ownBlock ≠ some k := fun hk' => by
  obtain ⟨c1, h1⟩ := Kd.R_typed h k hk; obtain ⟨c2, h2⟩ := Kd.R_typed h' k hk'; exact blk_ne h1 h2 hne rfl
theorem OwnE.ne_own {α : Type} {d : Kd α} {e b : Nat} {w : World} {ok : Nat → Prop} {v : Value} {xs : List α} {m : Nat} {l : List Ent} (h : OwnE w m l) (h' : Kd.R d e w b ok v xs) : v.ownBlock ≠ some m := fun hk => by
  obtain ⟨c1, h1⟩ := Kd.R_typed h' m hk; exact h.ne h1 rfl
theorem lt_grow {F : Nat → Prop} {w w' : World} (h : ∀ k, F k → k < w.heap.size) (hs : w.heap.size ≤ w'.heap.size) : ∀ k, grow F w w' k → k < w'.heap.size := fun k hk => by
  rcases hk with hk | hk
  · exact Nat.lt_of_lt_of_le (h k hk) hs
  · exact hk.2
/-- The directory's map has turned. -/
theorem DskM.turnDir {w w' : World} {F : Nat → Prop} {d : Nat} {S : DS} {u : Int} {md ms : Nat} {vf vc : Value} {fm : List FM} (h : DskM w F d S u md ms vf vc fm) (hk : KeptL (fun k => k = md) w w') {l : List Ent} (hl : OwnE w' md l) : DskM w' F d { S with dir := l } u md ms vf vc fm := by
  obtain ⟨f1, f2, f3, f4, f5, f6⟩ := h.foot; have hs : ∀ k, F k → k ≠ md → w'.heap[k]? = w.heap[k]? := fun k hF hne => hk.block k (h.lt k hF) hne; have ho : ∀ {v : Value}, v.ownBlock ≠ some md → ∀ k, v.ownBlock = some k → k ≠ md := fun hv k hk e => hv (by rw [← e]; exact hk); refine { h with blk := (hs d f1 (h.ne_d.1.symm)).trans h.blk, own := R_keepD rfl h.own (fun k hv => hs k (f4 k hv) (ho (h.dir.ne_own h.own) k hv)), at_ := fun i hi => ?_, dir := hl, safe := h.safe.same (hs ms f3 h.apart.symm), chg := R_keepD rfl h.chg (fun k hv => hs k (f5 k hv) (ho (h.dir.ne_own h.chg) k hv)), lt := fun k hF => Nat.lt_of_lt_of_le (h.lt k hF) hk.size }; have hm := f6 _ (getD_mem (z := fm0) (by rw [h.len]; exact hi : i < fm.length)); exact (h.at_ i hi).same (hs _ hm.1 (h.dir.ne (h.at_ i hi).1).symm) (fun k hv => hs k (hm.2 k hv) (ho (h.dir.ne_own (h.at_ i hi).2) k hv))
/-- A change is kept. -/
theorem DskM.addChg {w w' : World} {F : Nat → Prop} {d : Nat} {S : DS} {u : Int} {md ms : Nat} {vf vc vc' : Value} {fm : List FM} {c : Chg} (h : DskM w F d S u md ms vf vc fm) (hk : KeptL (fun k => k = d ∨ vc.ownBlock = some k) w w')
    (hb : w'.heap[d]? = some (.cells #[.int .i64 S.room, .int .i64 u, vf, .map (some md), .map (some ms), vc', .int .i64 S.ops, .int .i64 S.armed, .bool S.dead] 87 (0, 0)))
    (hc : Kd.R kC 89 w' 0 (fun _ => True) vc' (S.chg ++ [c])) (hv : vc'.ownBlock = vc.ownBlock ∨ ∃ b, vc'.ownBlock = some b ∧ w.heap.size ≤ b) : DskM w' (grow F w w') d { S with chg := S.chg ++ [c] } u md ms vf vc' fm := by
  obtain ⟨n1, n2, n3, n4, n5⟩ := h.ne_d; obtain ⟨f1, f2, f3, f4, f5, f6⟩ := h.foot; have hs : ∀ k, F k → k ≠ d → vc.ownBlock ≠ some k → w'.heap[k]? = w.heap[k]? := fun k hF hne hne2 => hk.block k (h.lt k hF) (fun hh => hh.elim hne hne2); refine { blk := hb, own := R_keepD rfl h.own (fun k hv => hs k (f4 k hv) (n3 k hv) (own_ne h.own h.chg (by decide) hv)), len := h.len, at_ := fun i hi => ?_, sep := h.sep, dir := h.dir.same (hs md f2 n1 (h.dir.ne_own h.chg)), safe := h.safe.same (hs ms f3 n2 (h.safe.ne_own h.chg)), apart := h.apart, chg := hc, foot := ?_, lt := lt_grow h.lt hk.size }
  · have hm := f6 _ (getD_mem (z := fm0) (by rw [h.len]; exact hi : i < fm.length)); refine (h.at_ i hi).same (hs _ hm.1 (n5 i hi).1 (fun hh => ?_)) (fun k hv => hs k (hm.2 k hv) ((n5 i hi).2 k hv) (own_ne (h.at_ i hi).2 h.chg (by decide) hv)); exact Kd.R_ne h.chg (h.at_ i hi).1 (by decide) hh.symm
  · refine ⟨.inl f1, .inl f2, .inl f3, fun k hv => .inl (f4 k hv), fun k hk2 => ?_, fun a ha => ⟨.inl (f6 a ha).1, fun k hv => .inl ((f6 a ha).2 k hv)⟩⟩; rcases hv with hv | ⟨b, hv, hb2⟩
    · exact .inl (f5 k (by rw [← hv]; exact hk2))
    · rw [hv] at hk2; injection hk2 with hk2; subst hk2; exact .inr ⟨hb2, Kd.R_lt hc _ hv⟩
def lenN (S : DS) (n : ByteArray) : Int := match has S.dir n with | some e => ((fileOf S e.2).1.length : Int) | none => 0
theorem infoC : (Try.prog.info? 89).map (fun i => (i.zero, i.size, i.bytes)) = some (some (.agg #[.string ⟨#[]⟩, .string ⟨#[]⟩, .int .i64 0]), 3, 40) := by kernel_rfl
theorem kC_M (w : World) (base : Nat) (ok : Nat → Prop) (x : Chg) : kC.M w base ok x [.string x.1, .string x.2.1, .int .i64 x.2.2] := ⟨[.string x.1], [.string x.2.1, .int .i64 x.2.2], rfl, rfl, ⟨[.string x.2.1], [.int .i64 x.2.2], rfl, rfl, rfl⟩⟩
theorem chg_ne (a b : ByteArray) (f : Int) (h : a.size ≠ 0 ∨ b.size ≠ 0) (w : World) : (binOp .eql 89 (.agg #[.string a, .string b, .int .i64 f]) (.agg #[.string ⟨#[]⟩, .string ⟨#[]⟩, .int .i64 0])).run Try.prog w = .ok (.bool false) w := by
  have hS : Try.prog.underlying 89 = some (.struct (Try.prog.fieldsOf 89)) := by kernel_rfl
  have hp : Try.prog.stoodInHeld 89 = false := by kernel_rfl
  have u1 := Try.underlying9; have a1 := Try.isAgg9; have z1 := Try.sizeOf9; have u3 := Try.underlying3; have a3 := Try.isAgg3; have z3 := Try.sizeOf3; rw [run_eql_struct, show (10000 : Nat) = 9999 + 1 from rfl, run_equalIn_agg w 9999 89 _ _ hS hp]; simp only [Program.fieldsOf, Try.underlying89]; by_cases ha : a.size = 0
  · have hb := emp_ne (h.resolve_left (fun hh => hh ha)); have ha2 := emp_eq ha; go_simp
  · have ha2 := emp_ne ha; go_simp
end Go.Proofs.Ytdekcjopgnfmdaa.Hand
namespace Go.Proofs.Ytdekcjopgnfmdaa.Hand
open Go.RowKit Go.Maps Go.Proofs.YtdekcjopgnfmdaaW.PrintWords Go.Proofs.YtdekcjopgnfmdaaW.PrintLast Go.Proofs.YtdekcjopgnfmdaaW.PrintMore Go.Proofs.Ytdekcjopgnfmdaa.Q
set_option linter.unusedVariables false
set_option linter.unusedSimpArgs false
theorem KeptL.mono {S S' : Nat → Prop} {a w : World} (h : KeptL S a w) (hS : ∀ k, S k → S' k) : KeptL S' a w := ⟨h.os, h.tape, h.output, h.size, fun b hb hn => h.block b hb (fun hh => hn (hS b hh))⟩
theorem DskM.monoF {w : World} {F F' : Nat → Prop} {d : Nat} {S : DS} {u : Int} {md ms : Nat} {vf vc : Value} {fm : List FM} (h : DskM w F d S u md ms vf vc fm) (hF : ∀ k, F k → F' k) (hl : ∀ k, F' k → k < w.heap.size) : DskM w F' d S u md ms vf vc fm :=
  { h with foot := ⟨hF _ h.foot.1, hF _ h.foot.2.1, hF _ h.foot.2.2.1, fun k hk => hF _ (h.foot.2.2.2.1 k hk), fun k hk => hF _ (h.foot.2.2.2.2.1 k hk), fun a ha => ⟨hF _ (h.foot.2.2.2.2.2 a ha).1, fun k hk => hF _ ((h.foot.2.2.2.2.2 a ha).2 k hk)⟩⟩, lt := hl }
def lenB (S : DS) (b : ByteArray) (j : Int) : Int := if b.size = 0 then 0 else ((fileOf S j).1.length : Int)
def uAt (u x y : Int) (i : Nat) : Int := if i = 0 then u else if i = 1 then u - x else u - x - y
/-- How a file of the list lies. -/
theorem DskM.fileCell {w : World} {F : Nat → Prop} {d : Nat} {S : DS} {u : Int} {md ms : Nat} {vf vc : Value} {fm : List FM} (h : DskM w F d S u md ms vf vc fm) (i : Nat) (hi : i < S.files.length) :
    ∃ A c, (fm.getD i fm0).2 = .slice A (S.files.getD i ([], 0)).1.length c ∧ w.heap[(fm.getD i fm0).1]? = some (.cells #[.slice A (S.files.getD i ([], 0)).1.length c, .int .i64 (S.files.getD i ([], 0)).2] 97 (0, 0)) ∧ (S.files.getD i ([], 0)).1.length ≤ c ∧ Kd.C kB w A (S.files.getD i ([], 0)).1.length (S.files.getD i ([], 0)).1 := by
  obtain ⟨h1, h2⟩ := h.at_ i hi; obtain ⟨A, c, e, hc, hC⟩ := Kd.R_reads h2; rw [e] at h1; exact ⟨A, c, e, h1, hc, hC⟩
set_option maxHeartbeats 4000000 in
set_option maxRecDepth 100000 in
theorem disk_note.calls {w : World} {F : Nat → Prop} {d : Nat} {S : DS} {u : Int} {md ms : Nat} {vf vc : Value} {fm : List FM} (h : DskM w F d S u md ms vf vc fm) (hI : Inv S) (a b : ByteArray) (j : Nat) (hj : j < S.files.length) (ha : a.size ≤ 32) (hb : b.size ≤ 32) (hne : a.size ≠ 0 ∨ b.size ≠ 0) (hu : 0 ≤ u ∧ u ≤ 1073741824) :
    Calls Try.prog 65 #[.pointer (some ⟨d, 0, none⟩), .agg #[.string a, .string b, .int .i64 (j : Int)]] w fun e w' => (∃ v, e = .returned v) ∧ KeptL F w w' ∧ ∃ vc', DskM w' (grow F w w') d (note S (a, b, (j : Int))) (u - lenN S a - lenN S b + lenB S b (j : Int)) md ms vf vc' fm := by
  obtain ⟨Av, cv, rfl⟩ := Kd.R_slice h.chg; obtain ⟨Af, cf, rfl⟩ := Kd.R_slice h.own
  have hbl : ∀ n, 0 ≤ lenN S n ∧ lenN S n ≤ 4194304 := fun n => by
    unfold lenN
    split
    · rename_i e he; have hd := hI.okD e (has_some he).1; have := (hI.fil _ (fileOf_mem hd.1 hd.2.1)).1; omega
    · omega
  have hla := hbl a; have hlb := hbl b; obtain ⟨la, hla2⟩ : ∃ la, la = lenN S a := ⟨_, rfl⟩; obtain ⟨lb, hlb2⟩ : ∃ lb, lb = lenN S b := ⟨_, rfl⟩; rw [← hla2] at hla ⊢; rw [← hlb2] at hlb ⊢; have HLA := Aside0.mk hla2; have HLB := Aside0.mk hlb2; have heq := chg_ne a b (j : Int) hne; obtain ⟨W2, hW2⟩ : ∃ W2, W2 = (w.alloc (.cells #[.string a, .string b, .int .i64 (j : Int)] 89)).alloc (.cells #[.string a, .string b] 9) := ⟨_, rfl⟩; have s1 : (w.alloc (.cells #[.string a, .string b, .int .i64 (j : Int)] 89)).heap.size = w.heap.size + 1 := by simp
  have hBc : W2.heap[w.heap.size]? = some (.cells #[.string a, .string b, .int .i64 (j : Int)] 89 (0, 0)) := by rw [hW2]; exact blk_alloc (blk_new w (.cells #[.string a, .string b, .int .i64 (j : Int)] 89 (0, 0))) _
  have hBl : W2.heap[w.heap.size + 1]? = some (.cells #[.string a, .string b] 9 (0, 0)) := by rw [hW2, ← s1]; exact blk_new _ (.cells #[.string a, .string b] 9 (0, 0))
  have hb2 : Below w.heap.size w W2 := by rw [hW2]; exact below_alloc (below_alloc (Below.refl _ _) _) _
  have d0 := (blk_cell (blk_new w (.cells #[.string a, .string b, .int .i64 (j : Int)] 89 (0, 0))) 0).trans rfl; have d1 := (blk_cell (blk_new w (.cells #[.string a, .string b, .int .i64 (j : Int)] 89 (0, 0))) 1).trans rfl; have d2 := (blk_cell (blk_new w (.cells #[.string a, .string b, .int .i64 (j : Int)] 89 (0, 0))) 2).trans rfl; have HH := Aside0.mk h; have HI := Aside0.mk hI; have HK2 : Aside0 (KeptL F w W2) := ⟨KeptL.of_below hb2⟩; have hdlt := h.lt d h.foot.1; have HDL : Aside0 (d < w.heap.size) := ⟨hdlt⟩; have H2 : Aside0 (DskM W2 F d S (uAt u la lb 0) md ms (.slice Af (fm.map (·.1)).length cf) (.slice Av S.chg.length cv) fm) := ⟨h.below hb2⟩; have HBC := Aside0.mk hBc; have HBL := Aside0.mk hBl; have HJ := Aside0.mk hj; have HAB := Aside0.mk (And.intro ha hb); have hlen := h.len; have HLEN := Aside0.mk h.len; clear h hI hbl hBc hBl hb2 s1 hj hne hla2 hlb2; go_enter Try.func65, Try.ntmps65
  go_wp2_with fail
  rw [← hW2]; clear d0 d1 d2 heq hW2; obtain ⟨Bc, hBc⟩ : ∃ Bc, Bc = w.heap.size := ⟨_, rfl⟩; obtain ⟨Bl, hBl⟩ : ∃ Bl, Bl = w.heap.size + 1 := ⟨_, rfl⟩; have HNE : Aside0 (Bc ≠ d ∧ Bl ≠ d ∧ w.heap.size ≤ Bc ∧ w.heap.size ≤ Bl) := ⟨by omega⟩; rw [← hBc] at HBC; rw [← hBl] at HBL; rw [← hBl, ← hBc]; clear hBc hBl hdlt ha hb; go_loopw [16] (fun v16 wr => ∃ i : Nat, i ≤ 2 ∧ v16 = .int .i64 i ∧ Aside0 (DskM wr F d S (uAt u la lb i) md ms (.slice Af (fm.map (·.1)).length cf) (.slice Av S.chg.length cv) fm ∧ KeptL (fun k => k = d) W2 wr)) (fun v16 _ => 2 - (intOf v16).toNat)
  case atStart => exact ⟨0, Nat.zero_le _, rfl, ⟨H2.out, KeptL.refl _ _⟩⟩
  case round =>
    clear H2; obtain ⟨i, hi, rfl, HM⟩ := hrel; have hBc := (HM.out.2.block Bc (blk_lt HBC.out) HNE.out.1).trans HBC.out; have hBl := (HM.out.2.block Bl (blk_lt HBL.out) HNE.out.2.1).trans HBL.out; have l0 := (blk_cell hBl 0).trans rfl; have l1 := (blk_cell hBl 1).trans rfl; have hi3 : i = 0 ∨ i = 1 ∨ i = 2 := by omega
    rcases hi3 with rfl | rfl | rfl
    · have hub : 0 ≤ la ∧ la ≤ 4194304 ∧ 0 ≤ lb ∧ lb ≤ 4194304 := by omega
      have HR := Aside0.mk HM.out; clear hBc hBl; go_wp2_with fail
      clear l0 l1; refine (disk_find.calls HR.out.1 (fun e he => ⟨(HI.out.okD e he).1, (HI.out.okD e he).2.1⟩) a (by have := HAB.out; omega)).mono ?_; rintro x w3 ⟨rfl, ⟨hh, rfl⟩ | ⟨en, hh, rfl⟩⟩
      · have HL0 : Aside0 (la = 0) := ⟨by rw [HLA.out]; unfold lenN; rw [hh]⟩
        have HN : Aside0 (DskM w3 F d S (uAt u la lb (0 + 1)) md ms (.slice Af (fm.map (·.1)).length cf) (.slice Av S.chg.length cv) fm ∧ KeptL (fun k => k = d) W2 w3) := ⟨by
          have e : uAt u la lb (0 + 1) = uAt u la lb 0 := by show u - la = u; have := HL0.out; omega
          rw [e]; exact HR.out⟩
        clear hh HM HR HL0; go_wp2_with fail
        go_roundw
        case rel => exact ⟨0 + 1, by omega, by go_num, HN⟩
        case measure => simp [intOf]
      · have hd := HI.out.okD en (has_some hh).1; obtain ⟨j6, hj6⟩ : ∃ j6 : Nat, j6 = en.2.toNat := ⟨_, rfl⟩; have hj7 : j6 < S.files.length := by omega
        obtain ⟨A6, c6, hv6, hb6, hc6, hC6⟩ := HR.out.1.fileCell j6 hj7; have HL0 : Aside0 (la = ((S.files.getD j6 ([], 0)).1.length : Int)) := ⟨by rw [HLA.out]; unfold lenN fileOf; rw [hh, hj6]⟩; rw [← hj6]; obtain ⟨b6, hbb⟩ : ∃ b6, b6 = (fm.getD j6 fm0).1 := ⟨_, rfl⟩; rw [← hbb] at hb6 ⊢; obtain ⟨n6, hn6⟩ : ∃ n6, n6 = (S.files.getD j6 ([], 0)).1.length := ⟨_, rfl⟩; rw [← hn6] at hb6 HL0; have k0 := (blk_cell hb6 0).trans rfl; have c1 := (blk_cell HR.out.1.blk 1).trans rfl; have z1 := blk_frozen HR.out.1.blk 1; have hw : wrap64 (u - (n6 : Int)) = u - la := by have h1 := HL0.out; rw [w64L (by omega) (by omega)]; omega
        have HW := Aside0.mk hw; clear hv6 hc6 hC6 hb6 hbb hn6 hh hd hj6 hj7 HM
        change w3.cell? ⟨d, 1, none⟩ = some (.int .i64 (u)) at c1
        go_wp2_with fail
        refine start_ (n := 13) (S := fun w' => w'.cell? ⟨d, 1, none⟩ = some (.int .i64 (u)) ∧ w'.cell? ⟨b6, 0, none⟩ = some (.slice A6 n6 c6)) (ds := [12]) (bm 13 0) (by kernel_rfl) rfl rfl ⟨c1, k0⟩ (fun hHeld => ?_); refine pure_ (i := 0) (N := some 25) (v:=?_) (a':=?_) (bm 13 1) rfl rfl (by kernel_rfl) (fun _ _ _ h => h) (Or.inl ⟨by rfl, ?_⟩) ?_ ?_; rotate_left
        · intro w'; go_simp; with_reducible rfl
        rotate_left
        · simp only [Act.put,s_a,s_b,s_c,i64_w,i32_w]; rfl
        refine pure_ (i := 1) (N := some 26) (v:=?_) (a':=?_) (bm 13 3) rfl rfl (by kernel_rfl) (fun _ _ _ h => h) (Or.inl ⟨by rfl, ?_⟩) ?_ ?_; rotate_left
        · intro w'; go_simp; with_reducible rfl
        rotate_left
        · simp only [Act.put,s_a,s_b,s_c,i64_w,i32_w]; rfl
        refine pure_ (i := 2) (N := some 27) (v:=?_) (a':=?_) (bm 13 7) rfl rfl (by kernel_rfl) (fun _ _ _ h => h) (Or.inl ⟨by rfl, ?_⟩) ?_ ?_; rotate_left
        · intro w'; go_simp; with_reducible rfl
        rotate_left
        · simp only [Act.put,s_a,s_b,s_c,i64_w,i32_w]; rfl
        refine pure_ (i := 4) (N := some 29) (v:=?_) (a':=?_) (bm 13 23) rfl rfl (by kernel_rfl) (fun _ _ _ h => h) (Or.inl ⟨by rfl, ?_⟩) ?_ ?_; rotate_left
        · intro w'; go_simp; with_reducible rfl
        rotate_left
        · simp only [Act.put,s_a,s_b,s_c,i64_w,i32_w]; rfl
        refine pure_ (i := 5) (N := some 30) (v:=?_) (a':=?_) (bm 13 55) rfl rfl (by kernel_rfl) (fun _ _ _ h => h) (Or.inl ⟨by rfl, ?_⟩) ?_ ?_; rotate_left
        · intro w'; go_simp; with_reducible rfl
        rotate_left
        · simp only [Act.put,s_a,s_b,s_c,i64_w,i32_w]; rfl
        refine pure_ (i := 6) (N := some 31) (v:=?_) (a':=?_) (bm 13 119) rfl rfl (by kernel_rfl) (fun _ _ _ h => h) (Or.inl ⟨by rfl, ?_⟩) ?_ ?_; rotate_left
        · intro w'; go_simp; with_reducible rfl
        rotate_left
        · simp only [Act.put,s_a,s_b,s_c,i64_w,i32_w]; rfl
        refine take_ (i := 3) (N := some 28) (v:=?_) (a':=?_) (bm 13 127) rfl rfl (by kernel_rfl) (fun _ _ _ h => h) (Or.inl ⟨by rfl, ?_⟩) hHeld ?_ ?_; rotate_left
        · rintro w' ⟨s0, s1⟩; go_simp; with_reducible rfl
        rotate_left
        · simp only [Act.put,s_a,s_b,s_c,i64_w,i32_w]; rfl
        refine take_ (i := 7) (N := some 32) (v:=?_) (a':=?_) (bm 13 255) rfl rfl (by kernel_rfl) (fun _ _ _ h => h) (Or.inl ⟨by rfl, ?_⟩) hHeld ?_ ?_; rotate_left
        · rintro w' ⟨s0, s1⟩; go_simp; with_reducible rfl
        rotate_left
        · simp only [Act.put,s_a,s_b,s_c,i64_w,i32_w]; rfl
        refine pure_ (i := 8) (N := some 33) (v:=?_) (a':=?_) (bm 13 511) rfl rfl (by kernel_rfl) (fun _ _ _ h => h) (Or.inl ⟨by rfl, ?_⟩) ?_ ?_; rotate_left
        · intro w'; go_simp; with_reducible rfl
        rotate_left
        · simp only [Act.put,s_a,s_b,s_c,i64_w,i32_w]; rfl
        refine pure_ (i := 9) (N := some 34) (v:=?_) (a':=?_) (bm 13 1023) rfl rfl (by kernel_rfl) (fun _ _ _ h => h) (Or.inl ⟨by rfl, ?_⟩) ?_ ?_; rotate_left
        · intro w'; go_simp; with_reducible rfl
        rotate_left
        · simp only [Act.put,s_a,s_b,s_c,i64_w,i32_w]; rfl
        refine pure_ (i := 10) (N := some 35) (v:=?_) (a':=?_) (bm 13 2047) rfl rfl (by kernel_rfl) (fun _ _ _ h => h) (Or.inl ⟨by rfl, ?_⟩) ?_ ?_; rotate_left
        · intro w'; go_simp; with_reducible rfl
        rotate_left
        · simp only [Act.put,s_a,s_b,s_c,i64_w,i32_w]; rfl
        refine pure_ (i := 11) (N := some 36) (v:=?_) (a':=?_) (bm 13 4095) rfl rfl (by kernel_rfl) (fun _ _ _ h => h) (Or.inl ⟨by rfl, ?_⟩) ?_ ?_; rotate_left
        · intro w'; go_simp; with_reducible rfl
        rotate_left
        · simp only [Act.put,s_a,s_b,s_c,i64_w,i32_w]; rfl
        refine last_ (i := 12) (N := none) (bm 13 8191) rfl rfl (by kernel_rfl) (by decide) (fun K hK => ?_); refine skip_ (w1 := w3.drew.setCell ⟨d, 1, none⟩ (.int .i64 (wrap64 (u - (n6 : Int))))) (by rfl) rfl ?_ ?_
        · go_simp
          try rfl
        refine hK.out _ _ ?_; clear hK K; refine done_ (by kernel_rfl) ?_; rw [HW.out]; have hk6 := (KeptL.refl (fun k => k = d) w3).drew.setCell ⟨d, 1, none⟩ (.int .i64 (u - la)) (.inl rfl); have HN : Aside0 (DskM (w3.drew.setCell ⟨d, 1, none⟩ (.int .i64 (u - la))) F d S (uAt u la lb (0 + 1)) md ms (.slice Af (fm.map (·.1)).length cf) (.slice Av S.chg.length cv) fm ∧ KeptL (fun k => k = d) W2 (w3.drew.setCell ⟨d, 1, none⟩ (.int .i64 (u - la)))) := ⟨HR.out.1.turnD hk6 (blkD_put (blk_drew HR.out.1.blk) 1 _ rfl) rfl rfl rfl rfl, HR.out.2.trans hk6⟩; clear HR hk6 k0 c1 z1 hw HL0; go_wp2_with fail
        go_roundw
        case rel => exact ⟨0 + 1, by omega, by go_num, HN⟩
        case measure => simp [intOf]
    · have hub : 0 ≤ la ∧ la ≤ 4194304 ∧ 0 ≤ lb ∧ lb ≤ 4194304 := by omega
      have HR := Aside0.mk HM.out; clear hBc hBl; go_wp2_with fail
      clear l0 l1; refine (disk_find.calls HR.out.1 (fun e he => ⟨(HI.out.okD e he).1, (HI.out.okD e he).2.1⟩) b (by have := HAB.out; omega)).mono ?_; rintro x w3 ⟨rfl, ⟨hh, rfl⟩ | ⟨en, hh, rfl⟩⟩
      · have HL0 : Aside0 (lb = 0) := ⟨by rw [HLB.out]; unfold lenN; rw [hh]⟩
        have HN : Aside0 (DskM w3 F d S (uAt u la lb (1 + 1)) md ms (.slice Af (fm.map (·.1)).length cf) (.slice Av S.chg.length cv) fm ∧ KeptL (fun k => k = d) W2 w3) := ⟨by
          have e : uAt u la lb (1 + 1) = uAt u la lb 1 := by show u - la - lb = u - la; have := HL0.out; omega
          rw [e]; exact HR.out⟩
        clear hh HM HR HL0; go_wp2_with fail
        go_roundw
        case rel => exact ⟨1 + 1, by omega, by go_num, HN⟩
        case measure => simp [intOf]
      · have hd := HI.out.okD en (has_some hh).1; obtain ⟨j6, hj6⟩ : ∃ j6 : Nat, j6 = en.2.toNat := ⟨_, rfl⟩; have hj7 : j6 < S.files.length := by omega
        obtain ⟨A6, c6, hv6, hb6, hc6, hC6⟩ := HR.out.1.fileCell j6 hj7; have HL0 : Aside0 (lb = ((S.files.getD j6 ([], 0)).1.length : Int)) := ⟨by rw [HLB.out]; unfold lenN fileOf; rw [hh, hj6]⟩; rw [← hj6]; obtain ⟨b6, hbb⟩ : ∃ b6, b6 = (fm.getD j6 fm0).1 := ⟨_, rfl⟩; rw [← hbb] at hb6 ⊢; obtain ⟨n6, hn6⟩ : ∃ n6, n6 = (S.files.getD j6 ([], 0)).1.length := ⟨_, rfl⟩; rw [← hn6] at hb6 HL0; have k0 := (blk_cell hb6 0).trans rfl; have c1 := (blk_cell HR.out.1.blk 1).trans rfl; have z1 := blk_frozen HR.out.1.blk 1; have hw : wrap64 (u - la - (n6 : Int)) = u - la - lb := by have h1 := HL0.out; rw [w64L (by omega) (by omega)]; omega
        have HW := Aside0.mk hw; clear hv6 hc6 hC6 hb6 hbb hn6 hh hd hj6 hj7 HM
        change w3.cell? ⟨d, 1, none⟩ = some (.int .i64 (u - la)) at c1
        go_wp2_with fail
        refine start_ (n := 13) (S := fun w' => w'.cell? ⟨d, 1, none⟩ = some (.int .i64 (u - la)) ∧ w'.cell? ⟨b6, 0, none⟩ = some (.slice A6 n6 c6)) (ds := [12]) (bm 13 0) (by kernel_rfl) rfl rfl ⟨c1, k0⟩ (fun hHeld => ?_); refine pure_ (i := 0) (N := some 25) (v:=?_) (a':=?_) (bm 13 1) rfl rfl (by kernel_rfl) (fun _ _ _ h => h) (Or.inl ⟨by rfl, ?_⟩) ?_ ?_; rotate_left
        · intro w'; go_simp; with_reducible rfl
        rotate_left
        · simp only [Act.put,s_a,s_b,s_c,i64_w,i32_w]; rfl
        refine pure_ (i := 1) (N := some 26) (v:=?_) (a':=?_) (bm 13 3) rfl rfl (by kernel_rfl) (fun _ _ _ h => h) (Or.inl ⟨by rfl, ?_⟩) ?_ ?_; rotate_left
        · intro w'; go_simp; with_reducible rfl
        rotate_left
        · simp only [Act.put,s_a,s_b,s_c,i64_w,i32_w]; rfl
        refine pure_ (i := 2) (N := some 27) (v:=?_) (a':=?_) (bm 13 7) rfl rfl (by kernel_rfl) (fun _ _ _ h => h) (Or.inl ⟨by rfl, ?_⟩) ?_ ?_; rotate_left
        · intro w'; go_simp; with_reducible rfl
        rotate_left
        · simp only [Act.put,s_a,s_b,s_c,i64_w,i32_w]; rfl
        refine pure_ (i := 4) (N := some 29) (v:=?_) (a':=?_) (bm 13 23) rfl rfl (by kernel_rfl) (fun _ _ _ h => h) (Or.inl ⟨by rfl, ?_⟩) ?_ ?_; rotate_left
        · intro w'; go_simp; with_reducible rfl
        rotate_left
        · simp only [Act.put,s_a,s_b,s_c,i64_w,i32_w]; rfl
        refine pure_ (i := 5) (N := some 30) (v:=?_) (a':=?_) (bm 13 55) rfl rfl (by kernel_rfl) (fun _ _ _ h => h) (Or.inl ⟨by rfl, ?_⟩) ?_ ?_; rotate_left
        · intro w'; go_simp; with_reducible rfl
        rotate_left
        · simp only [Act.put,s_a,s_b,s_c,i64_w,i32_w]; rfl
        refine pure_ (i := 6) (N := some 31) (v:=?_) (a':=?_) (bm 13 119) rfl rfl (by kernel_rfl) (fun _ _ _ h => h) (Or.inl ⟨by rfl, ?_⟩) ?_ ?_; rotate_left
        · intro w'; go_simp; with_reducible rfl
        rotate_left
        · simp only [Act.put,s_a,s_b,s_c,i64_w,i32_w]; rfl
        refine take_ (i := 3) (N := some 28) (v:=?_) (a':=?_) (bm 13 127) rfl rfl (by kernel_rfl) (fun _ _ _ h => h) (Or.inl ⟨by rfl, ?_⟩) hHeld ?_ ?_; rotate_left
        · rintro w' ⟨s0, s1⟩; go_simp; with_reducible rfl
        rotate_left
        · simp only [Act.put,s_a,s_b,s_c,i64_w,i32_w]; rfl
        refine take_ (i := 7) (N := some 32) (v:=?_) (a':=?_) (bm 13 255) rfl rfl (by kernel_rfl) (fun _ _ _ h => h) (Or.inl ⟨by rfl, ?_⟩) hHeld ?_ ?_; rotate_left
        · rintro w' ⟨s0, s1⟩; go_simp; with_reducible rfl
        rotate_left
        · simp only [Act.put,s_a,s_b,s_c,i64_w,i32_w]; rfl
        refine pure_ (i := 8) (N := some 33) (v:=?_) (a':=?_) (bm 13 511) rfl rfl (by kernel_rfl) (fun _ _ _ h => h) (Or.inl ⟨by rfl, ?_⟩) ?_ ?_; rotate_left
        · intro w'; go_simp; with_reducible rfl
        rotate_left
        · simp only [Act.put,s_a,s_b,s_c,i64_w,i32_w]; rfl
        refine pure_ (i := 9) (N := some 34) (v:=?_) (a':=?_) (bm 13 1023) rfl rfl (by kernel_rfl) (fun _ _ _ h => h) (Or.inl ⟨by rfl, ?_⟩) ?_ ?_; rotate_left
        · intro w'; go_simp; with_reducible rfl
        rotate_left
        · simp only [Act.put,s_a,s_b,s_c,i64_w,i32_w]; rfl
        refine pure_ (i := 10) (N := some 35) (v:=?_) (a':=?_) (bm 13 2047) rfl rfl (by kernel_rfl) (fun _ _ _ h => h) (Or.inl ⟨by rfl, ?_⟩) ?_ ?_; rotate_left
        · intro w'; go_simp; with_reducible rfl
        rotate_left
        · simp only [Act.put,s_a,s_b,s_c,i64_w,i32_w]; rfl
        refine pure_ (i := 11) (N := some 36) (v:=?_) (a':=?_) (bm 13 4095) rfl rfl (by kernel_rfl) (fun _ _ _ h => h) (Or.inl ⟨by rfl, ?_⟩) ?_ ?_; rotate_left
        · intro w'; go_simp; with_reducible rfl
        rotate_left
        · simp only [Act.put,s_a,s_b,s_c,i64_w,i32_w]; rfl
        refine last_ (i := 12) (N := none) (bm 13 8191) rfl rfl (by kernel_rfl) (by decide) (fun K hK => ?_); refine skip_ (w1 := w3.drew.setCell ⟨d, 1, none⟩ (.int .i64 (wrap64 (u - la - (n6 : Int))))) (by rfl) rfl ?_ ?_
        · go_simp
          try rfl
        refine hK.out _ _ ?_; clear hK K; refine done_ (by kernel_rfl) ?_; rw [HW.out]; have hk6 := (KeptL.refl (fun k => k = d) w3).drew.setCell ⟨d, 1, none⟩ (.int .i64 (u - la - lb)) (.inl rfl); have HN : Aside0 (DskM (w3.drew.setCell ⟨d, 1, none⟩ (.int .i64 (u - la - lb))) F d S (uAt u la lb (1 + 1)) md ms (.slice Af (fm.map (·.1)).length cf) (.slice Av S.chg.length cv) fm ∧ KeptL (fun k => k = d) W2 (w3.drew.setCell ⟨d, 1, none⟩ (.int .i64 (u - la - lb)))) := ⟨HR.out.1.turnD hk6 (blkD_put (blk_drew HR.out.1.blk) 1 _ rfl) rfl rfl rfl rfl, HR.out.2.trans hk6⟩; clear HR hk6 k0 c1 z1 hw HL0; go_wp2_with fail
        go_roundw
        case rel => exact ⟨1 + 1, by omega, by go_num, HN⟩
        case measure => simp [intOf]
    · have HBC9 := Aside0.mk hBc; clear hBl l0 l1; have c3 := (blk_cell HM.out.1.blk 3).trans rfl; have q0 := (blk_cell hBc 0).trans rfl; have q1 := (blk_cell hBc 1).trans rfl; have q2 := (blk_cell hBc 2).trans rfl; clear hBc; have hjB : (j : Int) < 9223372036854775807 := by have h1 := HJ.out; have h2 := HI.out.lenF; have h3 := HI.out.opsB; omega
      have HJB : Aside0 ((0 : Int) ≤ j ∧ (j : Int) ≤ 9223372036854775807) := ⟨by omega⟩; go_wp2_with fail
      refine start_ (n := 6) (S := fun w' => w'.cell? ⟨d, 3, none⟩ = some (.map (some md)) ∧ w'.cell? ⟨Bc, 0, none⟩ = some (.string a) ∧ w'.cell? ⟨Bc, 1, none⟩ = some (.string b) ∧ w'.cell? ⟨Bc, 2, none⟩ = some (.int .i64 (j : Int))) (ds := [5]) (bm 6 0) (by kernel_rfl) rfl rfl ⟨c3, q0, q1, q2⟩ (fun hHeld => ?_); refine pure_ (i := 0) (N := some 38) (v:=?_) (a':=?_) (bm 6 1) rfl rfl (by kernel_rfl) (fun _ _ _ h => h) (Or.inl ⟨by rfl, ?_⟩) ?_ ?_; rotate_left
      · intro w'; go_simp; with_reducible rfl
      rotate_left
      · simp only [Act.put,s_a,s_b,s_c,i64_w,i32_w]; rfl
      refine pure_ (i := 1) (N := some 39) (v:=?_) (a':=?_) (bm 6 3) rfl rfl (by kernel_rfl) (fun _ _ _ h => h) (Or.inl ⟨by rfl, ?_⟩) ?_ ?_; rotate_left
      · intro w'; go_simp; with_reducible rfl
      rotate_left
      · simp only [Act.put,s_a,s_b,s_c,i64_w,i32_w]; rfl
      refine pure_ (i := 2) (N := some 40) (v:=?_) (a':=?_) (bm 6 7) rfl rfl (by kernel_rfl) (fun _ _ _ h => h) (Or.inl ⟨by rfl, ?_⟩) ?_ ?_; rotate_left
      · intro w'; go_simp; with_reducible rfl
      rotate_left
      · simp only [Act.put,s_a,s_b,s_c,i64_w,i32_w]; rfl
      refine take_ (i := 3) (N := some 41) (v:=?_) (a':=?_) (bm 6 15) rfl rfl (by kernel_rfl) (fun _ _ _ h => h) (Or.inl ⟨by rfl, ?_⟩) hHeld ?_ ?_; rotate_left
      · rintro w' ⟨s0, s1, s2, s3⟩; go_simp; with_reducible rfl
      rotate_left
      · simp only [Act.put,s_a,s_b,s_c,i64_w,i32_w]; rfl
      refine take_ (i := 4) (N := some 42) (v:=?_) (a':=?_) (bm 6 31) rfl rfl (by kernel_rfl) (fun _ _ _ h => h) (Or.inl ⟨by rfl, ?_⟩) hHeld ?_ ?_; rotate_left
      · rintro w' ⟨s0, s1, s2, s3⟩; go_simp; with_reducible rfl
      rotate_left
      · simp only [Act.put,s_a,s_b,s_c,i64_w,i32_w]; rfl
      refine last_ (i := 5) (N := some 43) (bm 6 63) rfl rfl (by kernel_rfl) (by decide) (fun K hK => ?_); refine goes_ Try.func49 (by kernel_rfl) rfl #[.map (some md), .agg #[.string a, .string b, .int .i64 (j : Int)]] (by rfl) rfl rfl (by simp only [List.map_toArray, List.map_cons, List.map_nil]; rfl) ?_; with_reducible refine (disk_turn.calls (HM.out.1.below (below_drew1 (Below.refl _ _))).dir HI.out.srtD (by have := HI.out.lenD; omega) a b (j : Int) HAB.out.1 HAB.out.2 HJB.out).mono ?_
      rintro e w5 ⟨⟨v5, rfl⟩, hO5, hK5⟩; have HO5 := Aside0.mk hO5; have HK5 := Aside0.mk hK5; clear hO5 hK5; refine ⟨_, rfl, ?_⟩; refine hK.out _ _ ?_; clear hK K; refine norm_ (a' := ?_) ?_ ?_; rotate_left
      · show Act.put _ (some 43) _ = _; simp only [Act.put,s_a,s_b,s_c,i64_w,i32_w]; rfl
      refine done_ (by kernel_rfl) ?_; have HB5 : Aside0 (w5.heap[Bc]? = some (.cells #[.string a, .string b, .int .i64 (j : Int)] 89 (0, 0))) := ⟨(HK5.out.block Bc (blk_lt HBC9.out) (fun e => HM.out.1.dir.ne HBC9.out e.symm)).trans HBC9.out⟩; have H5 : Aside0 (DskM w5 F d { S with dir := turn S.dir (a, b, (j : Int)) } (u - la - lb) md ms (.slice Af (fm.map (·.1)).length cf) (.slice Av S.chg.length cv) fm) := ⟨(HM.out.1.below (below_drew1 (Below.refl _ _))).turnDir HK5.out HO5.out⟩; have HKF : Aside0 (KeptL F w w5) := ⟨(HK2.out.trans ((HM.out.2.drew).mono (fun k e => by rw [e]; exact HH.out.foot.1))).trans (HK5.out.mono (fun k e => by rw [e]; exact HH.out.foot.2.1))⟩; clear c3 q0 q1 q2 HBC9 HO5 HK5 HM; obtain ⟨f5, hf5⟩ : ∃ f5, f5 = fileOf S (j : Int) := ⟨_, rfl⟩; have hfl : f5.1.length ≤ 4194304 := by rw [hf5]; exact (HI.out.fil _ (fileOf_mem (by omega) (by have := HJ.out; omega))).1
      have HF5 := Aside0.mk hf5; have HLL : Aside0 ((S.chg.length + 1) * 40 ≤ 140737488355328) := ⟨by have h2 := HI.out.lenC; have h3 := HI.out.opsB; omega⟩; clear hf5 hjB; by_cases eb : b.size = 0
      · have t1 := emp_eq eb; have HEB := Aside0.mk eb; clear eb; have q1 := (blk_cell HB5.out 1).trans rfl; go_wp2_with fail
        clear q1 t1; have q0 := (blk_cell HB5.out 0).trans rfl; have q1 := (blk_cell HB5.out 1).trans rfl; have q2 := (blk_cell HB5.out 2).trans rfl; have c5 := (blk_cell H5.out.blk 5).trans rfl; refine start_ (n := 11) (S := fun w' => w'.cell? ⟨d, 5, none⟩ = some (.slice Av S.chg.length cv) ∧ w'.cell? ⟨Bc, 0, none⟩ = some (.string a) ∧ w'.cell? ⟨Bc, 1, none⟩ = some (.string b) ∧ w'.cell? ⟨Bc, 2, none⟩ = some (.int .i64 (j : Int))) (ds := [7, 10]) (bm 11 0) (by kernel_rfl) rfl rfl ⟨c5, q0, q1, q2⟩ (fun hHeld => ?_); refine pure_ (i := 0) (N := some 66) (v:=?_) (a':=?_) (bm 11 1) rfl rfl (by kernel_rfl) (fun _ _ _ h => h) (Or.inl ⟨by rfl, ?_⟩) ?_ ?_; rotate_left
        · intro w'; go_simp; with_reducible rfl
        rotate_left
        · simp only [Act.put,s_a,s_b,s_c,i64_w,i32_w]; rfl
        refine pure_ (i := 1) (N := some 67) (v:=?_) (a':=?_) (bm 11 3) rfl rfl (by kernel_rfl) (fun _ _ _ h => h) (Or.inl ⟨by rfl, ?_⟩) ?_ ?_; rotate_left
        · intro w'; go_simp; with_reducible rfl
        rotate_left
        · simp only [Act.put,s_a,s_b,s_c,i64_w,i32_w]; rfl
        refine pure_ (i := 2) (N := some 68) (v:=?_) (a':=?_) (bm 11 7) rfl rfl (by kernel_rfl) (fun _ _ _ h => h) (Or.inl ⟨by rfl, ?_⟩) ?_ ?_; rotate_left
        · intro w'; go_simp; with_reducible rfl
        rotate_left
        · simp only [Act.put,s_a,s_b,s_c,i64_w,i32_w]; rfl
        refine pure_ (i := 3) (N := some 69) (v:=?_) (a':=?_) (bm 11 15) rfl rfl (by kernel_rfl) (fun _ _ _ h => h) (Or.inl ⟨by rfl, ?_⟩) ?_ ?_; rotate_left
        · intro w'; go_simp; with_reducible rfl
        rotate_left
        · simp only [Act.put,s_a,s_b,s_c,i64_w,i32_w]; rfl
        refine take_ (i := 4) (N := some 70) (v:=?_) (a':=?_) (bm 11 31) rfl rfl (by kernel_rfl) (fun _ _ _ h => h) (Or.inl ⟨by rfl, ?_⟩) hHeld ?_ ?_; rotate_left
        · rintro w' ⟨s0, s1, s2, s3⟩; go_simp; with_reducible rfl
        rotate_left
        · simp only [Act.put,s_a,s_b,s_c,i64_w,i32_w]; rfl
        refine take_ (i := 5) (N := some 71) (v:=?_) (a':=?_) (bm 11 63) rfl rfl (by kernel_rfl) (fun _ _ _ h => h) (Or.inl ⟨by rfl, ?_⟩) hHeld ?_ ?_; rotate_left
        · rintro w' ⟨s0, s1, s2, s3⟩; go_simp; with_reducible rfl
        rotate_left
        · simp only [Act.put,s_a,s_b,s_c,i64_w,i32_w]; rfl
        refine one_ (i := 6) (N := some 72) (bm 11 127) rfl rfl (by kernel_rfl) (by decide) (fun K hK => ?_); refine value_ (w1 := w5.drew.alloc (.cells #[.string a, .string b, .int .i64 (j : Int)] 89)) (v := .slice (some ⟨w5.heap.size, 0, none⟩) 1 1) (by rfl) rfl ?_ ?_
        · go_simp
          try rfl
        refine hK.out _ _ ⟨pw_cell_below (below_alloc (Below.refl w5.drew.heap.size w5.drew) _) hHeld.1, pw_cell_below (below_alloc (Below.refl w5.drew.heap.size w5.drew) _) hHeld.2.1, pw_cell_below (below_alloc (Below.refl w5.drew.heap.size w5.drew) _) hHeld.2.2.1, pw_cell_below (below_alloc (Below.refl w5.drew.heap.size w5.drew) _) hHeld.2.2.2⟩ (fun hHeld => ?_); clear hK K; refine norm_ (a' := ?_) ?_ ?_; rotate_left
        · show Act.put _ (some 72) _ = _; simp only [Act.put,s_a,s_b,s_c,i64_w,i32_w]; rfl
        refine last_ (i := 7) (N := some 73) (bm 11 255) rfl rfl (by kernel_rfl) (by decide) (fun K hK => ?_); refine Kd.R_append_step kC (w0 := w5.drew) (W := w5.drew) 0 (by rfl) (.tmp 70) (.tmp 72) 85 89 (.agg #[.string ⟨#[]⟩, .string ⟨#[]⟩, .int .i64 0]) 40 (by rfl) Try.underlying85 infoC rfl (by decide) (by decide) (.slice Av S.chg.length cv) S.chg (a, b, (j : Int)) [.string a, .string b, .int .i64 (j : Int)] (fun _ => True) (fun _ => False) (by rfl) (by rfl) (kC_M _ _ _ _) (fun _ h => h.elim) (fun _ _ => trivial) ?aO (Below.refl _ _) (Nat.zero_le _) HLL.out ?_
        case aO => exact Kd.R_drew H5.out.chg
        intro v7 w7 ho hb hg hat; obtain ⟨A7, c7, hv7⟩ := Kd.R_slice ho; obtain ⟨n7, hn7⟩ : ∃ n7, n7 = (S.chg ++ [(a, b, (j : Int))]).length := ⟨_, rfl⟩; rw [← hn7] at hv7; clear hn7; subst hv7; have HR7 := Aside0.mk ho; have HAT : Aside0 ((Value.slice A7 n7 c7).ownBlock = (Value.slice Av S.chg.length cv).ownBlock ∨ ∃ b, (Value.slice A7 n7 c7).ownBlock = some b ∧ w5.heap.size ≤ b) := ⟨hat⟩; have HG7 : Aside0 (w5.drew.grownBy w7 (Value.slice Av S.chg.length cv).ownBlock) := ⟨hg⟩; have BD7 := Aside0.mk (blk_grown (blk_drew H5.out.blk) hg (fun e => Kd.R_ne H5.out.chg H5.out.blk (by decide) e)); have NED : Aside0 (∀ k, (∃ q, q ∈ 89 :: kC.E ∧ ∃ cells, w7.heap[k]? = some (.cells cells q (0, 0))) → k ≠ d) := ⟨fun k hk e => by obtain ⟨q, hq, cells, hcc⟩ := hk; rw [e] at hcc; refine blk_ne hcc BD7.out (fun e2 => ?_) rfl; rw [e2] at hq; revert hq; decide⟩; have x5 := (blk_cell BD7.out 5).trans rfl; have xz5 := blk_frozen BD7.out 5; clear ho hb hg hat; refine hK.out _ _ ?_; clear hK K; refine norm_ (a' := ?_) ?_ ?_; rotate_left
        · show Act.put _ (some 73) _ = _; simp only [Act.put,s_a,s_b,s_c,i64_w,i32_w]; rfl
        refine pure_ (i := 8) (N := some 74) (v:=?_) (a':=?_) (bm 11 511) rfl rfl (by kernel_rfl) (fun _ _ _ h => h) (Or.inl ⟨by rfl, ?_⟩) ?_ ?_; rotate_left
        · intro w'; go_simp; with_reducible rfl
        rotate_left
        · simp only [Act.put,s_a,s_b,s_c,i64_w,i32_w]; rfl
        refine pure_ (i := 9) (N := some 75) (v:=?_) (a':=?_) (bm 11 1023) rfl rfl (by kernel_rfl) (fun _ _ _ h => h) (Or.inl ⟨by rfl, ?_⟩) ?_ ?_; rotate_left
        · intro w'; go_simp; with_reducible rfl
        rotate_left
        · simp only [Act.put,s_a,s_b,s_c,i64_w,i32_w]; rfl
        refine last_ (i := 10) (N := none) (bm 11 2047) rfl rfl (by kernel_rfl) (by decide) (fun K hK => ?_); refine skip_ (w1 := w7.setCell ⟨d, 5, none⟩ (.slice A7 n7 c7)) (by rfl) rfl ?_ ?_
        · go_simp
          try rfl
        refine hK.out _ _ ?_; clear hK K; refine done_ (by kernel_rfl) ?_; have hk9 := (((KeptL.refl (fun k => k = d ∨ (Value.slice Av S.chg.length cv).ownBlock = some k) w5).drew).grown HG7.out (fun k e => .inl (.inr e))).setCell ⟨d, 5, none⟩ (.slice A7 n7 c7) (.inl (.inl rfl)); have hF := H5.out.addChg hk9 (blkD_put BD7.out 5 _ rfl) (Kd.R_far (Kd.R_mono (Kd.R_bound HR7.out) (ok' := fun k => k ≠ d) (fun k hk e => NED.out k hk.2.2.2 e)) (p := ⟨d, 5, none⟩) (fun k hk => hk) _ |> fun z => Kd.R_mono z (fun _ _ => trivial)) HAT.out; have e8 : (fm.map (·.1)).length = S.files.length := (by rw [List.length_map]; exact HLEN.out); rw [e8] at hF; have HF9 := Aside0.mk hF; clear hF e8; go_wp2_with fail
        go_end0; have e9 : u - la - lb + lenB S b (j : Int) = u - la - lb := (by unfold lenB; rw [if_pos HEB.out]; omega); rw [e9]; refine ⟨⟨_, rfl⟩, HKF.out.trans (hk9.mono (fun k e => by rcases e with e | e; rw [e]; exact HH.out.foot.1; exact HH.out.foot.2.2.2.2.1 k e)), _, HF9.out.monoF (fun k hk => ?_) ?_⟩
        · rcases hk with hk | hk
          · exact .inl hk
          · exact .inr ⟨Nat.le_trans HKF.out.size hk.1, hk.2⟩
        · exact lt_grow HH.out.lt (Nat.le_trans HKF.out.size hk9.size)
      · have t1 := emp_ne eb; have HEB := Aside0.mk eb; clear eb; have q1 := (blk_cell HB5.out 1).trans rfl; have q2 := (blk_cell HB5.out 2).trans rfl; go_wp2_with fail
        obtain ⟨A6, c6, hv6, hb6, hc6, hC6⟩ := H5.out.fileCell j HJ.out; obtain ⟨b6, hbb⟩ : ∃ b6, b6 = (fm.getD j fm0).1 := ⟨_, rfl⟩; have hfe : S.files.getD j ([], 0) = f5 := by rw [HF5.out]; unfold fileOf; rw [Int.toNat_natCast]
        have hb6' : w5.heap[(fm.getD j fm0).1]? = some (.cells #[.slice A6 (S.files.getD j ([], 0)).1.length c6, .int .i64 (S.files.getD j ([], 0)).2] 97 (0, 0)) := hb6; rw [hfe, ← hbb] at hb6'; have k0 := (blk_cell hb6' 0).trans rfl; have hC2 := (Kd.R_reads' H5.out.own).2.2; obtain ⟨ad, rfl, hp⟩ := ptr_at hC2 j (by rw [List.length_map]; have := HJ.out; have := HLEN.out; omega); rw [getD_map1 (by have := HJ.out; have := HLEN.out; omega), ← hbb] at hp; have c1 := (blk_cell H5.out.blk 1).trans rfl; have c2 := (blk_cell H5.out.blk 2).trans rfl; have z1 := blk_frozen H5.out.blk 1; have hjl : j < (fm.map (·.1)).length := by rw [List.length_map]; have := HJ.out; have := HLEN.out; omega
        have hj9 : j < S.files.length := HJ.out; have t2 : (j < S.files.length) = True := eq_true HJ.out; have hw : wrap64 (u - la - lb + (f5.1.length : Int)) = u - la - lb + (f5.1.length : Int) := w64L (by omega) (by omega); have HW := Aside0.mk hw; clear hC6 hc6 hv6 hb6 hb6' hbb hfe hC2 q1; refine start_ (n := 20) (S := fun w' => w'.cell? ⟨d, 1, none⟩ = some (.int .i64 (u - la - lb)) ∧ w'.cell? ⟨d, 2, none⟩ = some (.slice (some ad) (fm.map (·.1)).length cf) ∧ w'.cell? ⟨Bc, 2, none⟩ = some (.int .i64 (j : Int)) ∧ w'.cell? (ad.add j) = some (.pointer (some ⟨b6, 0, none⟩)) ∧ w'.cell? ⟨b6, 0, none⟩ = some (.slice A6 f5.1.length c6)) (ds := [19]) (bm 20 0) (by kernel_rfl) rfl rfl ⟨c1, c2, q2, hp, k0⟩ (fun hHeld => ?_); refine pure_ (i := 0) (N := some 47) (v:=?_) (a':=?_) (bm 20 1) rfl rfl (by kernel_rfl) (fun _ _ _ h => h) (Or.inl ⟨by rfl, ?_⟩) ?_ ?_; rotate_left
        · intro w'; go_simp; with_reducible rfl
        rotate_left
        · simp only [Act.put,s_a,s_b,s_c,i64_w,i32_w]; rfl
        refine pure_ (i := 1) (N := some 48) (v:=?_) (a':=?_) (bm 20 3) rfl rfl (by kernel_rfl) (fun _ _ _ h => h) (Or.inl ⟨by rfl, ?_⟩) ?_ ?_; rotate_left
        · intro w'; go_simp; with_reducible rfl
        rotate_left
        · simp only [Act.put,s_a,s_b,s_c,i64_w,i32_w]; rfl
        refine pure_ (i := 2) (N := some 49) (v:=?_) (a':=?_) (bm 20 7) rfl rfl (by kernel_rfl) (fun _ _ _ h => h) (Or.inl ⟨by rfl, ?_⟩) ?_ ?_; rotate_left
        · intro w'; go_simp; with_reducible rfl
        rotate_left
        · simp only [Act.put,s_a,s_b,s_c,i64_w,i32_w]; rfl
        refine pure_ (i := 4) (N := some 51) (v:=?_) (a':=?_) (bm 20 23) rfl rfl (by kernel_rfl) (fun _ _ _ h => h) (Or.inl ⟨by rfl, ?_⟩) ?_ ?_; rotate_left
        · intro w'; go_simp; with_reducible rfl
        rotate_left
        · simp only [Act.put,s_a,s_b,s_c,i64_w,i32_w]; rfl
        refine pure_ (i := 5) (N := some 52) (v:=?_) (a':=?_) (bm 20 55) rfl rfl (by kernel_rfl) (fun _ _ _ h => h) (Or.inl ⟨by rfl, ?_⟩) ?_ ?_; rotate_left
        · intro w'; go_simp; with_reducible rfl
        rotate_left
        · simp only [Act.put,s_a,s_b,s_c,i64_w,i32_w]; rfl
        refine pure_ (i := 6) (N := some 53) (v:=?_) (a':=?_) (bm 20 119) rfl rfl (by kernel_rfl) (fun _ _ _ h => h) (Or.inl ⟨by rfl, ?_⟩) ?_ ?_; rotate_left
        · intro w'; go_simp; with_reducible rfl
        rotate_left
        · simp only [Act.put,s_a,s_b,s_c,i64_w,i32_w]; rfl
        refine pure_ (i := 8) (N := some 55) (v:=?_) (a':=?_) (bm 20 375) rfl rfl (by kernel_rfl) (fun _ _ _ h => h) (Or.inl ⟨by rfl, ?_⟩) ?_ ?_; rotate_left
        · intro w'; go_simp; with_reducible rfl
        rotate_left
        · simp only [Act.put,s_a,s_b,s_c,i64_w,i32_w]; rfl
        refine take_ (i := 3) (N := some 50) (v:=?_) (a':=?_) (bm 20 383) rfl rfl (by kernel_rfl) (fun _ _ _ h => h) (Or.inl ⟨by rfl, ?_⟩) hHeld ?_ ?_; rotate_left
        · rintro w' ⟨s0, s1, s2, s3, s4⟩; go_simp; with_reducible rfl
        rotate_left
        · simp only [Act.put,s_a,s_b,s_c,i64_w,i32_w]; rfl
        refine take_ (i := 7) (N := some 54) (v:=?_) (a':=?_) (bm 20 511) rfl rfl (by kernel_rfl) (fun _ _ _ h => h) (Or.inl ⟨by rfl, ?_⟩) hHeld ?_ ?_; rotate_left
        · rintro w' ⟨s0, s1, s2, s3, s4⟩; go_simp; with_reducible rfl
        rotate_left
        · simp only [Act.put,s_a,s_b,s_c,i64_w,i32_w]; rfl
        refine take_ (i := 9) (N := some 56) (v:=?_) (a':=?_) (bm 20 1023) rfl rfl (by kernel_rfl) (fun _ _ _ h => h) (Or.inl ⟨by rfl, ?_⟩) hHeld ?_ ?_; rotate_left
        · rintro w' ⟨s0, s1, s2, s3, s4⟩; go_simp; with_reducible rfl
        rotate_left
        · simp only [Act.put,s_a,s_b,s_c,i64_w,i32_w]; rfl
        refine pure_ (i := 10) (N := some 57) (v:=?_) (a':=?_) (bm 20 2047) rfl rfl (by kernel_rfl) (fun _ _ _ h => h) (Or.inl ⟨by rfl, ?_⟩) ?_ ?_; rotate_left
        · intro w'; go_simp; with_reducible rfl
        rotate_left
        · simp only [Act.put,s_a,s_b,s_c,i64_w,i32_w]; rfl
        refine take_ (i := 11) (N := some 58) (v:=?_) (a':=?_) (bm 20 4095) rfl rfl (by kernel_rfl) (fun _ _ _ h => h) (Or.inl ⟨by rfl, ?_⟩) hHeld ?_ ?_; rotate_left
        · rintro w' ⟨s0, s1, s2, s3, s4⟩; go_simp; with_reducible rfl
        rotate_left
        · simp only [Act.put,s_a,s_b,s_c,i64_w,i32_w]; rfl
        refine pure_ (i := 12) (N := some 59) (v:=?_) (a':=?_) (bm 20 8191) rfl rfl (by kernel_rfl) (fun _ _ _ h => h) (Or.inl ⟨by rfl, ?_⟩) ?_ ?_; rotate_left
        · intro w'; go_simp; with_reducible rfl
        rotate_left
        · simp only [Act.put,s_a,s_b,s_c,i64_w,i32_w]; rfl
        refine pure_ (i := 13) (N := some 60) (v:=?_) (a':=?_) (bm 20 16383) rfl rfl (by kernel_rfl) (fun _ _ _ h => h) (Or.inl ⟨by rfl, ?_⟩) ?_ ?_; rotate_left
        · intro w'; go_simp; with_reducible rfl
        rotate_left
        · simp only [Act.put,s_a,s_b,s_c,i64_w,i32_w]; rfl
        refine take_ (i := 14) (N := some 61) (v:=?_) (a':=?_) (bm 20 32767) rfl rfl (by kernel_rfl) (fun _ _ _ h => h) (Or.inl ⟨by rfl, ?_⟩) hHeld ?_ ?_; rotate_left
        · rintro w' ⟨s0, s1, s2, s3, s4⟩; go_simp; with_reducible rfl
        rotate_left
        · simp only [Act.put,s_a,s_b,s_c,i64_w,i32_w]; rfl
        refine pure_ (i := 15) (N := some 62) (v:=?_) (a':=?_) (bm 20 65535) rfl rfl (by kernel_rfl) (fun _ _ _ h => h) (Or.inl ⟨by rfl, ?_⟩) ?_ ?_; rotate_left
        · intro w'; go_simp; with_reducible rfl
        rotate_left
        · simp only [Act.put,s_a,s_b,s_c,i64_w,i32_w]; rfl
        refine pure_ (i := 16) (N := some 63) (v:=?_) (a':=?_) (bm 20 131071) rfl rfl (by kernel_rfl) (fun _ _ _ h => h) (Or.inl ⟨by rfl, ?_⟩) ?_ ?_; rotate_left
        · intro w'; go_simp; with_reducible rfl
        rotate_left
        · simp only [Act.put,s_a,s_b,s_c,i64_w,i32_w]; rfl
        refine pure_ (i := 17) (N := some 64) (v:=?_) (a':=?_) (bm 20 262143) rfl rfl (by kernel_rfl) (fun _ _ _ h => h) (Or.inl ⟨by rfl, ?_⟩) ?_ ?_; rotate_left
        · intro w'; go_simp; with_reducible rfl
        rotate_left
        · simp only [Act.put,s_a,s_b,s_c,i64_w,i32_w]; rfl
        refine pure_ (i := 18) (N := some 65) (v:=?_) (a':=?_) (bm 20 524287) rfl rfl (by kernel_rfl) (fun _ _ _ h => h) (Or.inl ⟨by rfl, ?_⟩) ?_ ?_; rotate_left
        · intro w'; go_simp; with_reducible rfl
        rotate_left
        · simp only [Act.put,s_a,s_b,s_c,i64_w,i32_w]; rfl
        refine last_ (i := 19) (N := none) (bm 20 1048575) rfl rfl (by kernel_rfl) (by decide) (fun K hK => ?_); refine skip_ (w1 := w5.drew.setCell ⟨d, 1, none⟩ (.int .i64 (wrap64 (u - la - lb + (f5.1.length : Int))))) (by rfl) rfl ?_ ?_
        · go_simp
          try rfl
        refine hK.out _ _ ?_; clear hK K; refine done_ (by kernel_rfl) ?_; rw [HW.out]; have hk6 := (KeptL.refl (fun k => k = d) w5).drew.setCell ⟨d, 1, none⟩ (.int .i64 (u - la - lb + (f5.1.length : Int))) (.inl rfl); have H6 := Aside0.mk (H5.out.turnD (S' := { S with dir := turn S.dir (a, b, (j : Int)) }) (u' := u - la - lb + (f5.1.length : Int)) hk6 (blkD_put (blk_drew H5.out.blk) 1 _ rfl) rfl rfl rfl rfl); have HB6 := Aside0.mk (blk_far (blk_drew HB5.out) (p := ⟨d, 1, none⟩) HNE.out.1 (.int .i64 (u - la - lb + (f5.1.length : Int)))); replace HKF := Aside0.mk (HKF.out.trans (hk6.mono (fun k e => by rw [e]; exact HH.out.foot.1))); obtain ⟨w6, hw6⟩ : ∃ w6, w6 = w5.drew.setCell ⟨d, 1, none⟩ (.int .i64 (u - la - lb + (f5.1.length : Int))) := ⟨_, rfl⟩; rw [← hw6] at H6 HB6 HKF ⊢; clear hk6 hw6 HB5 H5 c1 c2 z1 k0 hp q2 hjl t1 t2 hw; go_wp2_with fail
        have q0 := (blk_cell HB6.out 0).trans rfl; have q1 := (blk_cell HB6.out 1).trans rfl; have q2 := (blk_cell HB6.out 2).trans rfl; have c5 := (blk_cell H6.out.blk 5).trans rfl; refine start_ (n := 11) (S := fun w' => w'.cell? ⟨d, 5, none⟩ = some (.slice Av S.chg.length cv) ∧ w'.cell? ⟨Bc, 0, none⟩ = some (.string a) ∧ w'.cell? ⟨Bc, 1, none⟩ = some (.string b) ∧ w'.cell? ⟨Bc, 2, none⟩ = some (.int .i64 (j : Int))) (ds := [7, 10]) (bm 11 0) (by kernel_rfl) rfl rfl ⟨c5, q0, q1, q2⟩ (fun hHeld => ?_); refine pure_ (i := 0) (N := some 66) (v:=?_) (a':=?_) (bm 11 1) rfl rfl (by kernel_rfl) (fun _ _ _ h => h) (Or.inl ⟨by rfl, ?_⟩) ?_ ?_; rotate_left
        · intro w'; go_simp; with_reducible rfl
        rotate_left
        · simp only [Act.put,s_a,s_b,s_c,i64_w,i32_w]; rfl
        refine pure_ (i := 1) (N := some 67) (v:=?_) (a':=?_) (bm 11 3) rfl rfl (by kernel_rfl) (fun _ _ _ h => h) (Or.inl ⟨by rfl, ?_⟩) ?_ ?_; rotate_left
        · intro w'; go_simp; with_reducible rfl
        rotate_left
        · simp only [Act.put,s_a,s_b,s_c,i64_w,i32_w]; rfl
        refine pure_ (i := 2) (N := some 68) (v:=?_) (a':=?_) (bm 11 7) rfl rfl (by kernel_rfl) (fun _ _ _ h => h) (Or.inl ⟨by rfl, ?_⟩) ?_ ?_; rotate_left
        · intro w'; go_simp; with_reducible rfl
        rotate_left
        · simp only [Act.put,s_a,s_b,s_c,i64_w,i32_w]; rfl
        refine pure_ (i := 3) (N := some 69) (v:=?_) (a':=?_) (bm 11 15) rfl rfl (by kernel_rfl) (fun _ _ _ h => h) (Or.inl ⟨by rfl, ?_⟩) ?_ ?_; rotate_left
        · intro w'; go_simp; with_reducible rfl
        rotate_left
        · simp only [Act.put,s_a,s_b,s_c,i64_w,i32_w]; rfl
        refine take_ (i := 4) (N := some 70) (v:=?_) (a':=?_) (bm 11 31) rfl rfl (by kernel_rfl) (fun _ _ _ h => h) (Or.inl ⟨by rfl, ?_⟩) hHeld ?_ ?_; rotate_left
        · rintro w' ⟨s0, s1, s2, s3⟩; go_simp; with_reducible rfl
        rotate_left
        · simp only [Act.put,s_a,s_b,s_c,i64_w,i32_w]; rfl
        refine take_ (i := 5) (N := some 71) (v:=?_) (a':=?_) (bm 11 63) rfl rfl (by kernel_rfl) (fun _ _ _ h => h) (Or.inl ⟨by rfl, ?_⟩) hHeld ?_ ?_; rotate_left
        · rintro w' ⟨s0, s1, s2, s3⟩; go_simp; with_reducible rfl
        rotate_left
        · simp only [Act.put,s_a,s_b,s_c,i64_w,i32_w]; rfl
        refine one_ (i := 6) (N := some 72) (bm 11 127) rfl rfl (by kernel_rfl) (by decide) (fun K hK => ?_); refine value_ (w1 := w6.drew.alloc (.cells #[.string a, .string b, .int .i64 (j : Int)] 89)) (v := .slice (some ⟨w6.heap.size, 0, none⟩) 1 1) (by rfl) rfl ?_ ?_
        · go_simp
          try rfl
        refine hK.out _ _ ⟨pw_cell_below (below_alloc (Below.refl w6.drew.heap.size w6.drew) _) hHeld.1, pw_cell_below (below_alloc (Below.refl w6.drew.heap.size w6.drew) _) hHeld.2.1, pw_cell_below (below_alloc (Below.refl w6.drew.heap.size w6.drew) _) hHeld.2.2.1, pw_cell_below (below_alloc (Below.refl w6.drew.heap.size w6.drew) _) hHeld.2.2.2⟩ (fun hHeld => ?_); clear hK K; refine norm_ (a' := ?_) ?_ ?_; rotate_left
        · show Act.put _ (some 72) _ = _; simp only [Act.put,s_a,s_b,s_c,i64_w,i32_w]; rfl
        refine last_ (i := 7) (N := some 73) (bm 11 255) rfl rfl (by kernel_rfl) (by decide) (fun K hK => ?_); refine Kd.R_append_step kC (w0 := w6.drew) (W := w6.drew) 0 (by rfl) (.tmp 70) (.tmp 72) 85 89 (.agg #[.string ⟨#[]⟩, .string ⟨#[]⟩, .int .i64 0]) 40 (by rfl) Try.underlying85 infoC rfl (by decide) (by decide) (.slice Av S.chg.length cv) S.chg (a, b, (j : Int)) [.string a, .string b, .int .i64 (j : Int)] (fun _ => True) (fun _ => False) (by rfl) (by rfl) (kC_M _ _ _ _) (fun _ h => h.elim) (fun _ _ => trivial) ?aO (Below.refl _ _) (Nat.zero_le _) HLL.out ?_
        case aO => exact Kd.R_drew H6.out.chg
        intro v7 w7 ho hb hg hat; obtain ⟨A7, c7, hv7⟩ := Kd.R_slice ho; obtain ⟨n7, hn7⟩ : ∃ n7, n7 = (S.chg ++ [(a, b, (j : Int))]).length := ⟨_, rfl⟩; rw [← hn7] at hv7; clear hn7; subst hv7; have HR7 := Aside0.mk ho; have HAT : Aside0 ((Value.slice A7 n7 c7).ownBlock = (Value.slice Av S.chg.length cv).ownBlock ∨ ∃ b, (Value.slice A7 n7 c7).ownBlock = some b ∧ w6.heap.size ≤ b) := ⟨hat⟩; have HG7 : Aside0 (w6.drew.grownBy w7 (Value.slice Av S.chg.length cv).ownBlock) := ⟨hg⟩; have BD7 := Aside0.mk (blk_grown (blk_drew H6.out.blk) hg (fun e => Kd.R_ne H6.out.chg H6.out.blk (by decide) e)); have NED : Aside0 (∀ k, (∃ q, q ∈ 89 :: kC.E ∧ ∃ cells, w7.heap[k]? = some (.cells cells q (0, 0))) → k ≠ d) := ⟨fun k hk e => by obtain ⟨q, hq, cells, hcc⟩ := hk; rw [e] at hcc; refine blk_ne hcc BD7.out (fun e2 => ?_) rfl; rw [e2] at hq; revert hq; decide⟩; have x5 := (blk_cell BD7.out 5).trans rfl; have xz5 := blk_frozen BD7.out 5; clear ho hb hg hat; refine hK.out _ _ ?_; clear hK K; refine norm_ (a' := ?_) ?_ ?_; rotate_left
        · show Act.put _ (some 73) _ = _; simp only [Act.put,s_a,s_b,s_c,i64_w,i32_w]; rfl
        refine pure_ (i := 8) (N := some 74) (v:=?_) (a':=?_) (bm 11 511) rfl rfl (by kernel_rfl) (fun _ _ _ h => h) (Or.inl ⟨by rfl, ?_⟩) ?_ ?_; rotate_left
        · intro w'; go_simp; with_reducible rfl
        rotate_left
        · simp only [Act.put,s_a,s_b,s_c,i64_w,i32_w]; rfl
        refine pure_ (i := 9) (N := some 75) (v:=?_) (a':=?_) (bm 11 1023) rfl rfl (by kernel_rfl) (fun _ _ _ h => h) (Or.inl ⟨by rfl, ?_⟩) ?_ ?_; rotate_left
        · intro w'; go_simp; with_reducible rfl
        rotate_left
        · simp only [Act.put,s_a,s_b,s_c,i64_w,i32_w]; rfl
        refine last_ (i := 10) (N := none) (bm 11 2047) rfl rfl (by kernel_rfl) (by decide) (fun K hK => ?_); refine skip_ (w1 := w7.setCell ⟨d, 5, none⟩ (.slice A7 n7 c7)) (by rfl) rfl ?_ ?_
        · go_simp
          try rfl
        refine hK.out _ _ ?_; clear hK K; refine done_ (by kernel_rfl) ?_; have hk9 := (((KeptL.refl (fun k => k = d ∨ (Value.slice Av S.chg.length cv).ownBlock = some k) w6).drew).grown HG7.out (fun k e => .inl (.inr e))).setCell ⟨d, 5, none⟩ (.slice A7 n7 c7) (.inl (.inl rfl)); have hF := H6.out.addChg hk9 (blkD_put BD7.out 5 _ rfl) (Kd.R_far (Kd.R_mono (Kd.R_bound HR7.out) (ok' := fun k => k ≠ d) (fun k hk e => NED.out k hk.2.2.2 e)) (p := ⟨d, 5, none⟩) (fun k hk => hk) _ |> fun z => Kd.R_mono z (fun _ _ => trivial)) HAT.out; have e8 : (fm.map (·.1)).length = S.files.length := (by rw [List.length_map]; exact HLEN.out); rw [e8] at hF; have HF9 := Aside0.mk hF; clear hF e8; go_wp2_with fail
        go_end0; have e9 : u - la - lb + lenB S b (j : Int) = u - la - lb + (f5.1.length : Int) := (by unfold lenB; rw [if_neg HEB.out, ← HF5.out]); rw [e9]; refine ⟨⟨_, rfl⟩, HKF.out.trans (hk9.mono (fun k e => by rcases e with e | e; rw [e]; exact HH.out.foot.1; exact HH.out.foot.2.2.2.2.1 k e)), _, HF9.out.monoF (fun k hk => ?_) ?_⟩
        · rcases hk with hk | hk
          · exact .inl hk
          · exact .inr ⟨Nat.le_trans HKF.out.size hk.1, hk.2⟩
        · exact lt_grow HH.out.lt (Nat.le_trans HKF.out.size hk9.size)
end Go.Proofs.Ytdekcjopgnfmdaa.Hand
namespace Go.Proofs.Ytdekcjopgnfmdaa.Hand
set_option linter.unusedVariables false
set_option linter.unusedSimpArgs false
def flen (fs : List Fil) (i : Int) : Int := ((fs.getD i.toNat ([], 0)).1.length : Int)
theorem usedOf_cons (fs : List Fil) (e : Ent) (l : List Ent) : usedOf fs (e :: l) = flen fs e.2 + usedOf fs l := by simp [usedOf, flen]
theorem usedOf_nil (fs : List Fil) : usedOf fs [] = 0 := rfl
theorem usedOf_without (fs : List Fil) (n : ByteArray) : ∀ l : List Ent, (l.map (·.1)).Nodup → usedOf fs (without l n) = usedOf fs l - (match has l n with | some e => flen fs e.2 | none => 0)
  | [], _ => by simp [without, has, usedOf]
  | x :: l, hN => by
    rw [List.map_cons, List.nodup_cons] at hN; have ih := usedOf_without fs n l hN.2; by_cases hx : x.1 = n
    · have h1 : without (x :: l) n = without l n := by unfold without; rw [List.filter_cons_of_neg (by simp [hx])]
      have h2 : has (x :: l) n = some x := by unfold has; rw [List.find?_cons]; simp [hx]
      have h3 : has l n = none := has_none.2 (fun e he e1 => hN.1 (List.mem_map.2 ⟨e, he, e1.trans hx.symm⟩)); rw [h3] at ih; simp only at ih; rw [h1, h2, usedOf_cons, ih]; simp only; omega
    · have h1 : without (x :: l) n = x :: without l n := by unfold without; rw [List.filter_cons_of_pos (by simp [hx])]
      have h2 : has (x :: l) n = has l n := by unfold has; rw [List.find?_cons]; simp [hx]
      rw [h1, h2, usedOf_cons, usedOf_cons, ih]; omega
theorem usedOf_ins (fs : List Fil) (n : ByteArray) (f : Int) : ∀ l : List Ent, usedOf fs (ins n f l) = usedOf fs l + flen fs f
  | [] => by simp [ins, usedOf_cons, usedOf_nil]
  | x :: l => by
    have ih := usedOf_ins fs n f l; unfold ins
    split
    · rw [usedOf_cons]; simp only; omega
    · rw [usedOf_cons, usedOf_cons, ih]; omega
theorem has_without {l : List Ent} {a b : ByteArray} (h : a ≠ b) : has (without l a) b = has l b := by
  induction l with
  | nil => rfl
  | cons x l ih =>
    by_cases hx : x.1 = a
    · have h1 : without (x :: l) a = without l a := by unfold without; rw [List.filter_cons_of_neg (by simp [hx])]
      have h2 : has (x :: l) b = has l b := by
        have hne : x.1 ≠ b := fun e => h (hx.symm.trans e); unfold has; rw [List.find?_cons]; simp [hne]
      rw [h1, h2, ih]
    · have h1 : without (x :: l) a = x :: without l a := by unfold without; rw [List.filter_cons_of_pos (by simp [hx])]
      rw [h1]; unfold has at ih ⊢; rw [List.find?_cons, List.find?_cons, ih]
theorem lenN_eq (S : DS) (n : ByteArray) : lenN S n = (match has S.dir n with | some e => flen S.files e.2 | none => 0) := rfl
theorem lenN_empty {S : DS} (h : Inv S) {n : ByteArray} (hn : n.size = 0) : lenN S n = 0 := by
  have : has S.dir n = none := has_none.2 (fun e he e1 => by have := (h.okD e he).2.2.1; rw [e1] at this; omega); unfold lenN; rw [this]
theorem used_turn1 {S : DS} (h : Inv S) (a : ByteArray) : usedOf S.files (turn1 S.dir a) = used S - lenN S a := by
  unfold turn1
  split
  · rename_i h0; rw [lenN_empty h h0]; unfold used; omega
  · rw [usedOf_without _ _ _ h.srtD.nodup]; rfl
theorem used_note {S : DS} (h : Inv S) {a b : ByteArray} (hab : a ≠ b) (f : Int) : used (note S (a, b, f)) = used S - lenN S a - lenN S b + lenB S b f := by
  show usedOf S.files (turn S.dir (a, b, f)) = _; have h1 := used_turn1 h a; unfold turn lenB; by_cases hb : b.size = 0
  · rw [if_pos hb, if_pos hb, h1, lenN_empty h hb]; omega
  · rw [if_neg hb, if_neg hb]; show usedOf S.files (with_ (turn1 S.dir a) b f) = _; unfold with_; have hN : ((turn1 S.dir a).map (·.1)).Nodup := (h.srtD.turn1 a).nodup; rw [usedOf_ins, usedOf_without _ _ _ hN, h1]
    have h2 : has (turn1 S.dir a) b = has S.dir b := by
      unfold turn1
      split
      · rfl
      · exact has_without hab
    rw [h2, lenN_eq]; rfl
theorem usedOf_app {fs : List Fil} (x : List Fil) : ∀ {l : List Ent}, (∀ e, e ∈ l → 0 ≤ e.2 ∧ e.2 < fs.length) → usedOf (fs ++ x) l = usedOf fs l
  | [], _ => rfl
  | e :: l, h => by
    rw [usedOf_cons, usedOf_cons, usedOf_app x (fun y hy => h y (List.mem_cons_of_mem _ hy))]; have he := h e List.mem_cons_self
    congr 1
    unfold flen; rw [List.getD_eq_getElem?_getD, List.getD_eq_getElem?_getD, List.getElem?_append_left (by omega)]
/-- A file of the list is written; the directory names it once. -/
theorem usedOf_set {fs : List Fil} {i : Int} {f : Fil} (hi : 0 ≤ i ∧ i < fs.length) : ∀ {l : List Ent}, (∀ e, e ∈ l → 0 ≤ e.2) → (l.map (·.2)).Nodup → usedOf (fs.set i.toNat f) l = usedOf fs l + (if (l.any fun e => decide (e.2 = i)) then (f.1.length : Int) - flen fs i else 0)
  | [], _, _ => by simp [usedOf]
  | e :: l, h0, hN => by
    rw [List.map_cons, List.nodup_cons] at hN; have ih := usedOf_set hi (f := f) (fun y hy => h0 y (List.mem_cons_of_mem _ hy)) hN.2; rw [usedOf_cons, usedOf_cons, ih, List.any_cons]; have he0 := h0 e List.mem_cons_self; by_cases he : e.2 = i
    · have h1 : (l.any fun e => decide (e.2 = i)) = false := by
        cases hc : l.any fun e => decide (e.2 = i) with
        | false => rfl
        | true =>
          obtain ⟨y, hy, hy2⟩ := List.any_eq_true.1 hc; exact absurd (List.mem_map.2 ⟨y, hy, (of_decide_eq_true hy2).trans he.symm⟩) hN.1
      have h2 : flen (fs.set i.toNat f) e.2 = (f.1.length : Int) := by
        rw [he]; unfold flen; rw [List.getD_eq_getElem?_getD, List.getElem?_set_self (by omega)]; rfl
      rw [h1, h2, he]
      simp
      omega
    · have h2 : flen (fs.set i.toNat f) e.2 = flen fs e.2 := by
        unfold flen; rw [List.getD_eq_getElem?_getD, List.getD_eq_getElem?_getD, List.getElem?_set_ne (by omega)]
      rw [h2]; simp only [he, decide_false, Bool.false_or]; omega
end Go.Proofs.Ytdekcjopgnfmdaa.Hand
namespace Go.Proofs.Ytdekcjopgnfmdaa.Hand
open Go.RowKit Go.Maps Go.Proofs.YtdekcjopgnfmdaaW.PrintWords Go.Proofs.YtdekcjopgnfmdaaW.PrintLast Go.Proofs.YtdekcjopgnfmdaaW.PrintMore Go.Proofs.Ytdekcjopgnfmdaa.Q
set_option linter.unusedVariables false
set_option linter.unusedSimpArgs false
theorem DskAt.unmoved {w w' : World} {F : Nat → Prop} {d : Nat} {S : DS} (h : DskAt w F d S) (hb : Below w.heap.size w w') : DskAt w' (grow F w w') d S ∧ KeptL F w w' := by
  obtain ⟨h0, md, ms, vf, vc, fm, h1⟩ := h; exact ⟨⟨h0, md, ms, vf, vc, fm, (h1.below hb).monoF (fun k hk => .inl hk) (lt_grow h1.lt hb.size)⟩, KeptL.of_below hb⟩
theorem OwnE.lenRun {w : World} {m : Nat} {l : List Ent} (h : OwnE w m l) (hS : Srt l) (ty : TypeId) : (Builtin.len_ #[82] ty #[.map (some m)]).run Try.prog w = .ok (.int .i64 (l.length : Int)) w := by
  obtain ⟨D, hO, hM, hT, hsz⟩ := h.tight hS; have := hO.len Try.underlying82 ty; rw [hsz] at this; exact this
theorem getD_app {α : Type} {l : List α} {x z : α} {i : Nat} (h : i < l.length) : (l ++ [x]).getD i z = l.getD i z := by
  rw [List.getD_eq_getElem?_getD, List.getD_eq_getElem?_getD, List.getElem?_append_left h]
theorem getD_last {α : Type} {l : List α} {x z : α} : (l ++ [x]).getD l.length z = x := by
  rw [List.getD_eq_getElem?_getD, List.getElem?_append_right (Nat.le_refl _), Nat.sub_self]; rfl
/-- A new file. -/
theorem DskM.addFile {w w' : World} {F : Nat → Prop} {d : Nat} {S : DS} {u : Int} {md ms : Nat} {vf vf' vc : Value} {fm : List FM} {b : Nat} (h : DskM w F d S u md ms vf vc fm) (hk : KeptL (fun k => k = d ∨ vf.ownBlock = some k) w w')
    (hb : w'.heap[d]? = some (.cells #[.int .i64 S.room, .int .i64 u, vf', .map (some md), .map (some ms), vc, .int .i64 S.ops, .int .i64 S.armed, .bool S.dead] 87 (0, 0)))
    (hn : w'.heap[b]? = some (.cells #[.slice none 0 0, .int .i64 0] 97 (0, 0))) (hbn : w.heap.size ≤ b)
    (hc : Kd.R kP 95 w' 0 (fun _ => True) vf' (fm.map (·.1) ++ [b])) (hv : vf'.ownBlock = vf.ownBlock ∨ ∃ b, vf'.ownBlock = some b ∧ w.heap.size ≤ b) :
    DskM w' (grow F w w') d { S with files := S.files ++ [([], 0)] } u md ms vf' vc (fm ++ [(b, .slice none 0 0)]) := by
  obtain ⟨n1, n2, n3, n4, n5⟩ := h.ne_d; obtain ⟨f1, f2, f3, f4, f5, f6⟩ := h.foot; have hs : ∀ k, F k → k ≠ d → vf.ownBlock ≠ some k → w'.heap[k]? = w.heap[k]? := fun k hF hne hne2 => hk.block k (h.lt k hF) (fun hh => hh.elim hne hne2); have hlen := h.len
  have old : ∀ i, i < S.files.length → FileAt w' (fm.getD i fm0) (S.files.getD i ([], 0)) := fun i hi => by
    have hm := f6 _ (getD_mem (z := fm0) (by rw [hlen]; exact hi : i < fm.length)); refine (h.at_ i hi).same (hs _ hm.1 (n5 i hi).1 (fun hh => ?_)) (fun k hv => hs k (hm.2 k hv) ((n5 i hi).2 k hv) (own_ne (h.at_ i hi).2 h.own (by decide) hv)); exact Kd.R_ne h.own (h.at_ i hi).1 (by decide) hh.symm
  refine { blk := hb, own := by rw [List.map_append]; exact hc, len := by rw [List.length_append, List.length_append, hlen]; rfl, at_ := fun i hi => ?_, sep := fun i j hi hj hij => ?_, dir := h.dir.same (hs md f2 n1 (h.dir.ne_own h.own)), safe := h.safe.same (hs ms f3 n2 (h.safe.ne_own h.own)), apart := h.apart, chg := R_keepD rfl h.chg (fun k hv => hs k (f5 k hv) (n4 k hv) (own_ne h.chg h.own (by decide) hv)), foot := ?_, lt := lt_grow h.lt hk.size }
  · rw [List.length_append, List.length_singleton] at hi; rcases Nat.lt_succ_iff_lt_or_eq.1 hi with hi | rfl
    · rw [getD_app hi, getD_app (by rw [hlen]; exact hi)]; exact old i hi
    · rw [getD_last]; have e : (fm ++ [(b, Value.slice none 0 0)]).getD S.files.length fm0 = (b, .slice none 0 0) := by rw [← hlen]; exact getD_last
      rw [e]; exact ⟨hn, Kd.R_nil _ _ _ _ _⟩
  · rw [List.length_append, List.length_singleton] at hi hj
    have fresh : ∀ i, i < fm.length → (fm.getD i fm0).1 ≠ b := fun i hi => by
      have := h.lt _ (f6 _ (getD_mem (z := fm0) hi)).1; omega
    rcases Nat.lt_succ_iff_lt_or_eq.1 hi with hi | rfl <;> rcases Nat.lt_succ_iff_lt_or_eq.1 hj with hj | rfl
    · rw [getD_app hi, getD_app hj]; exact h.sep i j hi hj hij
    · rw [getD_app hi, getD_last]; exact ⟨fresh i hi, fun k _ e => by simp [Value.ownBlock] at e⟩
    · rw [getD_app hj, getD_last]; exact ⟨(fresh j hj).symm, fun k e _ => by simp [Value.ownBlock] at e⟩
    · exact absurd rfl hij
  · refine ⟨.inl f1, .inl f2, .inl f3, fun k hk2 => ?_, fun k hv => .inl (f5 k hv), fun a ha => ?_⟩
    · rcases hv with hv | ⟨b, hv, hb2⟩
      · exact .inl (f4 k (by rw [← hv]; exact hk2))
      · rw [hv] at hk2; injection hk2 with hk2; subst hk2; exact .inr ⟨hb2, Kd.R_lt hc _ hv⟩
    · rcases List.mem_append.1 ha with ha | ha
      · exact ⟨.inl (f6 a ha).1, fun k hv => .inl ((f6 a ha).2 k hv)⟩
      · rw [List.mem_singleton] at ha; subst ha; exact ⟨.inr ⟨hbn, blk_lt hn⟩, fun k e => by simp [Value.ownBlock] at e⟩
theorem infoP : (Try.prog.info? 95).map (fun i => (i.zero, i.size, i.bytes)) = some (some (.pointer none), 1, 8) := by kernel_rfl
theorem goes_eq {S : DS} {k : DS → DS} : ifGoes S k = if (goes S).2 = 0 then (k (goes S).1, 0) else ((goes S).1, (goes S).2) := rfl
set_option maxHeartbeats 2000000 in
set_option maxRecDepth 100000 in
theorem disk_Create.calls {w : World} {F : Nat → Prop} {d : Nat} {S : DS} (h : DskAt w F d S) (n : ByteArray) (hn : n.size ≤ 9223372036854775807) :
    Calls Try.prog 38 #[.pointer (some ⟨d, 0, none⟩), .string n] w fun e w' => e = .returned (.int .i64 (opCreate S n).2) ∧ DskAt w' (grow F w w') d (opCreate S n).1 ∧ KeptL F w w' := by
  have HA := Aside0.mk h; obtain ⟨hI, md, ms, vf, vc, fm, h1⟩ := h; have c8 := (blk_cell h1.blk 8).trans rfl; have HN := Aside0.mk hn; have HI := Aside0.mk hI; have H := Aside0.mk h1
  cases hd : S.dead with
  | true =>
    rw [hd] at c8; have HOP : Aside0 (opCreate S n = (S, 51)) := ⟨by unfold opCreate; rw [hd]; rfl⟩; clear h1 hd hI hn; go_enter Try.func38, Try.ntmps38
    go_wp2_with fail
    go_ret; rw [HOP.out]; exact ⟨rfl, HA.out.unmoved (Below.refl _ _)⟩
  | false =>
    rw [hd] at c8; have HDD := Aside0.mk hd; obtain ⟨kk, hkk⟩ := (named_ev n hn).rounds; have HKK := Aside0.mk hkk; obtain ⟨r, hr⟩ : ∃ r, r = nameOk n := ⟨_, rfl⟩; have HR := Aside0.mk hr; rw [← hr] at HKK; clear h1 hd hI hn hkk hr; go_enter Try.func38, Try.ntmps38
    go_wp2_with fail
    refine (disk_named.calls kk n r w HKK.out).mono ?_; rintro x w1 ⟨rfl, hd1⟩; have hb1 := hd1.below; have H1 := Aside0.mk (H.out.below hb1); have HB1 := Aside0.mk hb1; clear hd1 hb1 c8
    cases r with
    | false =>
      have HOP : Aside0 (opCreate S n = (S, 50)) := ⟨by unfold opCreate; rw [HDD.out, ← HR.out]; rfl⟩; go_wp2_with fail
      go_ret; rw [HOP.out]; exact ⟨rfl, HA.out.unmoved HB1.out⟩
    | true =>
      go_wp2_with fail
      refine (disk_find.calls H1.out (fun e he => ⟨(HI.out.okD e he).1, (HI.out.okD e he).2.1⟩) n HN.out).mono ?_; rintro x w3 ⟨rfl, ⟨hh, rfl⟩ | ⟨en, hh, rfl⟩⟩
      · have HHS := Aside0.mk hh; have hlenr := fun ty => H1.out.dir.lenRun HI.out.srtD ty; have c3 := (blk_cell H1.out.blk 3).trans rfl; have c6 := (blk_cell H1.out.blk 6).trans rfl; by_cases hf : S.dir.length ≥ 64 ∨ S.ops ≥ 1048576
        · have HOP : Aside0 (opCreate S n = (S, 5)) := ⟨by unfold opCreate; rw [HDD.out, ← HR.out, HHS.out, if_neg (by decide), if_neg (by decide), if_neg (by decide), if_pos hf]⟩; by_cases h64 : S.dir.length ≥ 64
          · have b1 : decide ((S.dir.length : Int) ≥ 64) = true := decide_eq_true (by omega); clear hh hf h64; go_wp2_with fail
            go_ret; rw [HOP.out]; exact ⟨rfl, HA.out.unmoved HB1.out⟩
          · have b1 : decide ((S.dir.length : Int) ≥ 64) = false := decide_eq_false (by omega); have b2 : decide (S.ops ≥ 1048576) = true := decide_eq_true (by omega); clear hh hf h64; go_wp2_with fail
            go_ret; rw [HOP.out]; exact ⟨rfl, HA.out.unmoved HB1.out⟩
        · have b1 : decide ((S.dir.length : Int) ≥ 64) = false := decide_eq_false (by omega); have b2 : decide (S.ops ≥ 1048576) = false := decide_eq_false (by omega); have HOB : Aside0 (0 ≤ S.ops ∧ S.ops < 1048576 ∧ S.dir.length < 64) := ⟨by have := HI.out.opsB; omega⟩; have HOP : Aside0 (opCreate S n = ifGoes S fun T => note { T with files := T.files ++ [([], 0)] } (ByteArray.empty, n, (S.files.length : Int))) := ⟨by unfold opCreate; rw [HDD.out, ← HR.out, HHS.out, if_neg (by decide), if_neg (by decide), if_neg (by decide), if_neg hf]⟩; clear hh hf; go_wp2_with fail
          clear b1 b2 c3 c6 hlenr; refine (disk_goes.calls H1.out HI.out.armB ⟨HOB.out.1, HOB.out.2.1⟩).mono ?_; rintro x w4 ⟨rfl, h4, hk4⟩; have H4 := Aside0.mk h4; have HK4 := Aside0.mk ((KeptL.of_below HB1.out).trans (hk4.mono (fun k e => by rw [e]; exact H.out.foot.1)) : KeptL F w w4); have HG := Aside0.mk (HI.out.goes HOB.out.2.1); obtain ⟨T, hT⟩ : ∃ T, T = (goes S).1 := ⟨_, rfl⟩; obtain ⟨g, hg⟩ : ∃ g, g = (goes S).2 := ⟨_, rfl⟩; rw [← hT] at H4 HG; rw [← hg] at HG; have hOP := HOP.out; rw [goes_eq, ← hT, ← hg] at hOP; replace HOP := Aside0.mk hOP; rw [← hg]; clear h4 hk4 hT hg hOP; by_cases hg0 : g = 0
          · subst hg0; have hOP := HOP.out; rw [if_pos rfl] at hOP; replace HOP := Aside0.mk hOP; have c2 := (blk_cell H4.out.blk 2).trans rfl; have z2 := blk_frozen H4.out.blk 2; have HLN : Aside0 (((fm.map (·.1)).length + 1) * 8 ≤ 140737488355328) := ⟨by rw [List.length_map, H4.out.len, HG.out.2.1]; have h2 := HI.out.lenF; have h3 := HI.out.opsB; omega⟩; have H5 : Aside0 (DskM (w4.alloc (.cells #[.slice none 0 0, .int .i64 0] 97)) F d T (used S) md ms vf vc fm) := ⟨H4.out.below (below_alloc (Below.refl _ _) _)⟩; have HF5 : Aside0 ((w4.alloc (.cells #[.slice none 0 0, .int .i64 0] 97)).heap[w4.heap.size]? = some (.cells #[.slice none 0 0, .int .i64 0] 97 (0, 0))) := ⟨blk_new _ _⟩; have HLE : Aside0 ((fm.map (·.1)).length = S.files.length) := ⟨by rw [List.length_map, H4.out.len, HG.out.2.1]⟩; have HBN : Aside0 ((w4.alloc (.cells #[.slice none 0 0, .int .i64 0] 97)).heap.size = w4.heap.size + 1) := ⟨by simp⟩; have hN9 : (S.files.length : Int) ≤ 1048640 := by have h2 := HI.out.lenF; have h3 := HI.out.opsB; omega
            have hN8 : wrap64 (((S.files.length : Int) + 1) - 1) = (S.files.length : Int) := by rw [w64L (by omega) (by omega)]; omega
            have hN7 : ((S.files.length : Int) + 1) - 1 = (S.files.length : Int) := by omega
            clear hOP; go_wp2_with ((with_reducible refine gate_builtin (b := .append) (xs := #[.tmp 46, .tmp 49]) rfl ?_); at_builtin; refine Kd.R_append kP (w0 := (w4.alloc (.cells #[.slice none 0 0, .int .i64 0] 97))) 0 rfl (.tmp 46) (.tmp 49) 84 95 (.pointer none) 8 rfl Try.underlying84 infoP rfl (by decide) (by decide) vf (fm.map (·.1)) w4.heap.size [.pointer (some ⟨w4.heap.size, 0, none⟩)] (fun _ => True) (fun _ => False) rfl (congrArg (fun z => Value.slice (some ⟨z, 0, none⟩) 1 1) HBN.out.symm) rfl (fun _ h => h.elim) (fun _ _ => trivial) H5.out.own (Below.refl _ _) (Nat.zero_le _) HLN.out ?_; intro v7 w7 ho hb hg hat; obtain ⟨A7, c7, hv7⟩ := Kd.R_slice ho; rw [List.length_append, List.length_singleton, HLE.out] at hv7; subst hv7; have HR7 := Aside0.mk ho; have HAT := Aside0.mk hat; have HG7 := Aside0.mk hg; have BD7 := Aside0.mk (blk_grown H5.out.blk hg (fun e => Kd.R_ne H5.out.own H5.out.blk (by decide) e)); have BF7 := Aside0.mk (blk_grown HF5.out hg (fun e => Kd.R_ne H5.out.own HF5.out (by decide) e)); have x2 := (blk_cell BD7.out 2).trans rfl; have xz2 := blk_frozen BD7.out 2; clear ho hb hg hat)
            have hk8 := (KeptL.grown (S := fun k => k = d ∨ vf.ownBlock = some k) ((KeptL.refl _ w4).alloc (.cells #[.slice none 0 0, .int .i64 0] 97)) HG7.out (fun k e => .inl (.inr e))).setCell ⟨d, 2, none⟩ (.slice A7 (S.files.length + 1) c7) (.inl (.inl rfl))
            have hNED : ∀ k, (∃ q, q ∈ 95 :: kP.E ∧ ∃ cells, w7.heap[k]? = some (.cells cells q (0, 0))) → k ≠ d := fun k hk e => by
              obtain ⟨q, hq, cells, hcc⟩ := hk; rw [e] at hcc; refine blk_ne hcc BD7.out (fun e2 => ?_) rfl; rw [e2] at hq
              revert hq
              decide
            have hbf : d ≠ w4.heap.size := by have := H4.out.lt d H4.out.foot.1; omega
            have hat4 : (Value.slice A7 (S.files.length + 1) c7).ownBlock = vf.ownBlock ∨ ∃ b, (Value.slice A7 (S.files.length + 1) c7).ownBlock = some b ∧ w4.heap.size ≤ b := by
              rcases HAT.out with h | ⟨b, h1, h2⟩
              · exact .inl h
              · exact .inr ⟨b, h1, by have := HBN.out; omega⟩
            obtain ⟨w8, hw8⟩ : ∃ w8, w8 = w7.setCell ⟨d, 2, none⟩ (.slice A7 (S.files.length + 1) c7) := ⟨_, rfl⟩; have h8 := H4.out.addFile hk8 (blkD_put BD7.out 2 _ rfl) (blk_far BF7.out (p := ⟨d, 2, none⟩) hbf.symm _) (Nat.le_refl _) (Kd.R_far (Kd.R_mono (Kd.R_bound HR7.out) (ok' := fun k => k ≠ d) (fun k hk e => hNED k hk.2.2.2 e)) (p := ⟨d, 2, none⟩) (fun k hk => hk) _ |> fun z => Kd.R_mono z (fun _ _ => trivial)) hat4; rw [← hw8] at h8 hk8 ⊢; have H8 := Aside0.mk h8; have HK8 := Aside0.mk hk8; clear hk8 hNED hbf hat4 hw8 h8 x2 xz2 c2 z2 HR7 HAT HG7 BD7 BF7 H5 HF5 hN9 hN8 hN7; have hI8 : Inv { T with files := T.files ++ [([], 0)] } := HG.out.1.newFile (by have h1 := HG.out.2.1; have h2 := HG.out.2.2.2.2.2.2 (by first | rfl | trivial); have h3 := HI.out.lenF; rw [h1, h2]; omega); have hns := nameOk_size HR.out.symm; have hub := HI.out.usedB; have hj8 : S.files.length < (T.files ++ [(([] : List Int), (0 : Int))]).length := by rw [HG.out.2.1, List.length_append]; simp
            refine (disk_note.calls H8.out hI8 ⟨#[]⟩ n S.files.length hj8 (by show 0 ≤ 32; omega) hns.2 (.inr (by omega)) (by omega)).mono ?_; rintro x w9 ⟨⟨v9, rfl⟩, hk9, vc9, h9⟩
            have hab : (⟨#[]⟩ : ByteArray) ≠ n := fun e => by
              have h1 := hns.1; rw [← e] at h1; exact absurd h1 (by decide)
            have hus := used_note hI8 hab (S.files.length : Int)
            have hu8 : used { T with files := T.files ++ [([], 0)] } = used S := by
              show usedOf (T.files ++ [([], 0)]) T.dir = usedOf S.files S.dir; rw [HG.out.2.1, HG.out.2.2.1]; exact usedOf_app _ (fun e he => ⟨(HI.out.okD e he).1, (HI.out.okD e he).2.1⟩)
            rw [hu8] at hus; rw [← hus] at h9; have hIC := HI.out.create n
            have hKF : KeptL F w w8 := HK4.out.trans (HK8.out.mono (fun k e => by
              rcases e with e | e
              · rw [e]; exact H.out.foot.1
              · exact H.out.foot.2.2.2.1 k e))
            have hK9 : KeptL F w w9 := ⟨hk9.os.trans hKF.os, hk9.tape.trans hKF.tape, hk9.output.trans hKF.output, Nat.le_trans hKF.size hk9.size, fun b hb hn => (hk9.block b (Nat.lt_of_lt_of_le hb hKF.size) (fun hh => by
              rcases hh with hh | hh
              · exact hn hh
              · have := HK4.out.size; omega)).trans (hKF.block b hb hn)⟩
            have hfin : DskAt w9 (grow F w w9) d (opCreate S n).1 := ⟨hIC, by
              rw [HOP.out]
              exact ⟨md, ms, _, vc9, _, h9.monoF (fun k hk => by
                rcases hk with (hk | hk) | hk
                · exact .inl hk
                · have h1 := HK4.out.size; have h2 := hk9.size; exact .inr ⟨by omega, by omega⟩
                · have h1 := hKF.size; exact .inr ⟨by omega, hk.2⟩) (lt_grow H.out.lt hK9.size)⟩⟩
            have HFIN := Aside0.mk (And.intro hfin hK9); clear hfin hK9 hKF hIC h9 hk9 hus hu8 hab hns hub hj8 hI8; go_wp2_with fail
            go_ret; exact ⟨by rw [HOP.out]; rfl, HFIN.out⟩
          · have bg : (g != 0) = true := bne_iff_ne.mpr hg0; have hOP := HOP.out; rw [if_neg hg0] at hOP; replace HOP := Aside0.mk hOP; have HU : Aside0 (used T = used S) := ⟨by unfold used; rw [HG.out.2.1, HG.out.2.2.1]⟩; clear hOP hg0; go_wp2_with fail
            go_ret; rw [HOP.out]; refine ⟨rfl, ⟨HG.out.1, md, ms, vf, vc, fm, ?_⟩, HK4.out⟩; rw [HU.out]; exact H4.out.monoF (fun k hk => .inl hk) (lt_grow H.out.lt HK4.out.size)
      · have HOP : Aside0 (opCreate S n = (S, 8)) := ⟨by unfold opCreate; rw [HDD.out, ← HR.out, hh]; rfl⟩; clear hh; go_wp2_with fail
        go_ret; rw [HOP.out]; exact ⟨rfl, HA.out.unmoved HB1.out⟩
end Go.Proofs.Ytdekcjopgnfmdaa.Hand
namespace Go.Proofs.Ytdekcjopgnfmdaa.Hand
open Go.RowKit Go.Maps Go.Proofs.YtdekcjopgnfmdaaW.PrintWords Go.Proofs.YtdekcjopgnfmdaaW.PrintLast Go.Proofs.YtdekcjopgnfmdaaW.PrintMore Go.Proofs.Ytdekcjopgnfmdaa.Q
set_option linter.unusedVariables false
set_option linter.unusedSimpArgs false
set_option maxHeartbeats 2000000 in
set_option maxRecDepth 100000 in
theorem disk_Remove.calls {w : World} {F : Nat → Prop} {d : Nat} {S : DS} (h : DskAt w F d S) (n : ByteArray) (hn : n.size ≤ 9223372036854775807) :
    Calls Try.prog 41 #[.pointer (some ⟨d, 0, none⟩), .string n] w fun e w' => e = .returned (.int .i64 (opRemove S n).2) ∧ DskAt w' (grow F w w') d (opRemove S n).1 ∧ KeptL F w w' := by
  have HA := Aside0.mk h; obtain ⟨hI, md, ms, vf, vc, fm, h1⟩ := h; have c8 := (blk_cell h1.blk 8).trans rfl; have HN := Aside0.mk hn; have HI := Aside0.mk hI; have H := Aside0.mk h1
  cases hd : S.dead with
  | true =>
    rw [hd] at c8; have HOP : Aside0 (opRemove S n = (S, 51)) := ⟨by unfold opRemove; rw [hd]; rfl⟩; clear h1 hd hI; go_enter Try.func41, Try.ntmps41
    go_wp2_with fail
    go_ret; rw [HOP.out]; exact ⟨rfl, HA.out.unmoved (Below.refl _ _)⟩
  | false =>
    rw [hd] at c8; have HDD := Aside0.mk hd; clear h1 hd hI; go_enter Try.func41, Try.ntmps41
    go_wp2_with fail
    refine (disk_find.calls H.out (fun e he => ⟨(HI.out.okD e he).1, (HI.out.okD e he).2.1⟩) n HN.out).mono ?_; rintro x w2 ⟨rfl, ⟨hh, rfl⟩ | ⟨en, hh, rfl⟩⟩
    · have HOP : Aside0 (opRemove S n = (S, 7)) := ⟨by unfold opRemove; rw [HDD.out, hh]; rfl⟩; clear hh; go_wp2_with fail
      go_ret; rw [HOP.out]; exact ⟨rfl, HA.out.unmoved (Below.refl _ _)⟩
    · have HH := Aside0.mk hh; have c6 := (blk_cell H.out.blk 6).trans rfl; by_cases ho : S.ops ≥ 1048576
      · have b1 : decide (S.ops ≥ 1048576) = true := decide_eq_true ho; have HOP : Aside0 (opRemove S n = (S, 5)) := ⟨by unfold opRemove; rw [HDD.out, HH.out]; exact if_pos ho⟩; clear hh ho; go_wp2_with fail
        go_ret; rw [HOP.out]; exact ⟨rfl, HA.out.unmoved (Below.refl _ _)⟩
      · have b1 : decide (S.ops ≥ 1048576) = false := decide_eq_false ho; have HOB : Aside0 (0 ≤ S.ops ∧ S.ops < 1048576) := ⟨by have := HI.out.opsB; omega⟩; have HOP : Aside0 (opRemove S n = ifGoes S fun T => note T (n, ByteArray.empty, 0)) := ⟨by unfold opRemove; rw [HDD.out, HH.out]; exact if_neg ho⟩; clear hh ho; go_wp2_with fail
        clear b1 c6; refine (disk_goes.calls H.out HI.out.armB HOB.out).mono ?_; rintro x w4 ⟨rfl, h4, hk4⟩; have H4 := Aside0.mk h4; have HK4 : Aside0 (KeptL F w2 w4) := ⟨(KeptL.refl F w2).trans (hk4.mono (fun k e => by rw [e]; exact H.out.foot.1))⟩; have HG := Aside0.mk (HI.out.goes HOB.out.2); obtain ⟨T, hT⟩ : ∃ T, T = (goes S).1 := ⟨_, rfl⟩; obtain ⟨g, hg⟩ : ∃ g, g = (goes S).2 := ⟨_, rfl⟩; rw [← hT] at H4 HG; rw [← hg] at HG; have hOP := HOP.out; rw [goes_eq, ← hT, ← hg] at hOP; replace HOP := Aside0.mk hOP; rw [← hg]; have HU : Aside0 (used T = used S) := ⟨by unfold used; rw [HG.out.2.1, HG.out.2.2.1]⟩; clear h4 hk4 hT hg hOP; by_cases hg0 : g = 0
        · subst hg0; have hOP := HOP.out; rw [if_pos rfl] at hOP; replace HOP := Aside0.mk hOP; clear hOP; have hen := HI.out.okD en (has_some HH.out).1; rw [(has_some HH.out).2] at hen; have hj0 : 0 < T.files.length := by rw [HG.out.2.1]; omega
          have hub := HI.out.usedB; have hnt := disk_note.calls H4.out HG.out.1 n ⟨#[]⟩ 0 hj0 hen.2.2.2 (by show 0 ≤ 32; omega) (.inl (by omega)) (by omega); rw [show ((0 : Nat) : Int) = 0 from rfl] at hnt
          have hab : n ≠ (⟨#[]⟩ : ByteArray) := fun e => by
            have h1 := hen.2.2.1; rw [e] at h1; exact absurd h1 (by decide)
          have hus := used_note HG.out.1 hab 0; rw [HU.out] at hus; have HUS := Aside0.mk hus; have HNT := Aside0.mk hnt; have HIC := Aside0.mk (HI.out.remove n); clear hen hj0 hub hnt hab hus; go_wp2_with fail
          refine HNT.out.mono ?_; rintro x w9 ⟨⟨v9, rfl⟩, hk9, vc9, h9⟩; rw [← HUS.out] at h9; have hKF := HK4.out; have hK9 : KeptL F w2 w9 := hKF.trans hk9
          have HFIN : Aside0 (DskAt w9 (grow F w2 w9) d (opRemove S n).1 ∧ KeptL F w2 w9) := ⟨⟨HIC.out, by
            rw [HOP.out]
            exact ⟨md, ms, _, vc9, _, h9.monoF (fun k hk => by
              rcases hk with hk | hk
              · exact .inl hk
              · have h1 := hKF.size; exact .inr ⟨by omega, hk.2⟩) (lt_grow H.out.lt hK9.size)⟩⟩, hK9⟩
          clear hK9 hKF h9 hk9; go_wp2_with fail
          go_ret; exact ⟨by rw [HOP.out]; rfl, HFIN.out⟩
        · have bg : (g != 0) = true := bne_iff_ne.mpr hg0; have hOP := HOP.out; rw [if_neg hg0] at hOP; replace HOP := Aside0.mk hOP; clear hOP hg0; go_wp2_with fail
          go_ret; rw [HOP.out]; refine ⟨rfl, ⟨HG.out.1, md, ms, vf, vc, fm, ?_⟩, HK4.out⟩; rw [HU.out]; exact H4.out.monoF (fun k hk => .inl hk) (lt_grow H.out.lt HK4.out.size)
theorem opRename_full {S : DS} {a b : ByteArray} {en : Ent} (hd : S.dead = false) (hh : has S.dir a = some en) (hn : nameOk b = true) (ho : S.ops ≥ 1048576) : opRename S a b = (S, 5) := by
  unfold opRename; rw [hd, if_neg (by decide), hh]; simp only; rw [hn, if_neg (by decide), if_pos ho]
theorem opRename_goes {S : DS} {a b : ByteArray} {en : Ent} (hd : S.dead = false) (hh : has S.dir a = some en) (hn : nameOk b = true) (ho : ¬ S.ops ≥ 1048576) : opRename S a b = ifGoes S fun T => if a = b then T else note T (a, b, en.2) := by
  unfold opRename; rw [hd, if_neg (by decide), hh]; simp only; rw [hn, if_neg (by decide), if_neg ho]
/-- What the directory's map gives of a name. -/
theorem dir_get {w : World} {m : Nat} {l : List Ent} (h : OwnE w m l) (s : ByteArray) (hs : s.size ≤ 9223372036854775807) :
    ∃ i : Int, (Instr.lookup 82 (.map (some m)) (.string s) false).run Try.prog w = .ok (.int .i64 i) w ∧ ∀ e, has l s = some e → i = e.2 := by
  obtain ⟨n, D, hO, hM⟩ := h; obtain ⟨i, hrun, hat, hw⟩ := hO.lookup_int lawS Try.underlying82 Try.underlying3 (Try.zeroValue3 _) (key_of s hs); refine ⟨i, hrun, fun e he => ?_⟩; have hl := hM.look_ s; rw [he] at hl; unfold view at hl
  split at hl
  · have h1 : D.atKey (ks s) (iv 0) = iv e.2 := by simpa using hl
    exact iv_inj (hat.symm.trans h1)
  · cases hl
set_option maxHeartbeats 2000000 in
set_option maxRecDepth 100000 in
theorem disk_Rename.calls {w : World} {F : Nat → Prop} {d : Nat} {S : DS} (h : DskAt w F d S) (a b : ByteArray) (hn : a.size ≤ 9223372036854775807 ∧ b.size ≤ 9223372036854775807) :
    Calls Try.prog 40 #[.pointer (some ⟨d, 0, none⟩), .string a, .string b] w fun e w' => e = .returned (.int .i64 (opRename S a b).2) ∧ DskAt w' (grow F w w') d (opRename S a b).1 ∧ KeptL F w w' := by
  have HA := Aside0.mk h; obtain ⟨hI, md, ms, vf, vc, fm, h1⟩ := h; have c8 := (blk_cell h1.blk 8).trans rfl; have HNN := Aside0.mk hn; obtain ⟨kk, hkk⟩ := (named_ev b hn.2).rounds; have HKK := Aside0.mk hkk; obtain ⟨r, hr⟩ : ∃ r, r = nameOk b := ⟨_, rfl⟩; have HR := Aside0.mk hr; rw [← hr] at HKK; clear hkk hr; have HI := Aside0.mk hI; have H := Aside0.mk h1
  cases hd : S.dead with
  | true =>
    rw [hd] at c8; have HOP : Aside0 (opRename S a b = (S, 51)) := ⟨by unfold opRename; rw [hd]; rfl⟩; clear h1 hd hI; go_enter Try.func40, Try.ntmps40
    go_wp2_with fail
    go_ret; rw [HOP.out]; exact ⟨rfl, HA.out.unmoved (Below.refl _ _)⟩
  | false =>
    rw [hd] at c8; have HDD := Aside0.mk hd; clear h1 hd hI; go_enter Try.func40, Try.ntmps40
    go_wp2_with fail
    refine (disk_find.calls H.out (fun e he => ⟨(HI.out.okD e he).1, (HI.out.okD e he).2.1⟩) a HNN.out.1).mono ?_; rintro x w2 ⟨rfl, ⟨hh, rfl⟩ | ⟨en, hh, rfl⟩⟩
    · have HOP : Aside0 (opRename S a b = (S, 7)) := ⟨by unfold opRename; rw [HDD.out, hh]; rfl⟩; clear hh; go_wp2_with fail
      go_ret; rw [HOP.out]; exact ⟨rfl, HA.out.unmoved (Below.refl _ _)⟩
    · have HH := Aside0.mk hh; go_wp2_with fail
      refine (disk_named.calls kk b r w2 HKK.out).mono ?_; rintro x w1 ⟨rfl, hd1⟩; have hb1 := hd1.below; have H1 := Aside0.mk (H.out.below hb1); have HB1 := Aside0.mk hb1; clear hd1 hb1
      cases r with
      | false =>
        have HOP : Aside0 (opRename S a b = (S, 50)) := ⟨by unfold opRename; rw [HDD.out, HH.out, ← HR.out]; rfl⟩; go_wp2_with fail
        go_ret; rw [HOP.out]; exact ⟨rfl, HA.out.unmoved HB1.out⟩
      | true =>
        have c6 := (blk_cell H1.out.blk 6).trans rfl; by_cases ho : S.ops ≥ 1048576
        · have b1 : decide (S.ops ≥ 1048576) = true := decide_eq_true ho; have HOP : Aside0 (opRename S a b = (S, 5)) := ⟨opRename_full HDD.out HH.out HR.out.symm ho⟩; clear hh ho; go_wp2_with fail
          go_ret; rw [HOP.out]; exact ⟨rfl, HA.out.unmoved HB1.out⟩
        · have b1 : decide (S.ops ≥ 1048576) = false := decide_eq_false ho; have HOB : Aside0 (0 ≤ S.ops ∧ S.ops < 1048576) := ⟨by have := HI.out.opsB; omega⟩; have HOP : Aside0 (opRename S a b = ifGoes S fun T => if a = b then T else note T (a, b, en.2)) := ⟨opRename_goes HDD.out HH.out HR.out.symm ho⟩; clear hh ho; go_wp2_with fail
          clear b1 c6; refine (disk_goes.calls H1.out HI.out.armB HOB.out).mono ?_; rintro x w4 ⟨rfl, h4, hk4⟩; have H4 := Aside0.mk h4; have HK4 : Aside0 (KeptL F w2 w4) := ⟨(KeptL.of_below HB1.out).trans (hk4.mono (fun k e => by rw [e]; exact H.out.foot.1))⟩; have HG := Aside0.mk (HI.out.goes HOB.out.2); obtain ⟨T, hT⟩ : ∃ T, T = (goes S).1 := ⟨_, rfl⟩; obtain ⟨g, hg⟩ : ∃ g, g = (goes S).2 := ⟨_, rfl⟩; rw [← hT] at H4 HG; rw [← hg] at HG; have hOP := HOP.out; rw [goes_eq, ← hT, ← hg] at hOP; replace HOP := Aside0.mk hOP; rw [← hg]; have HU : Aside0 (used T = used S) := ⟨by unfold used; rw [HG.out.2.1, HG.out.2.2.1]⟩; clear h4 hk4 hT hg hOP; by_cases hg0 : g = 0
          · subst hg0; have hOP := HOP.out; rw [if_pos rfl] at hOP; replace HOP := Aside0.mk hOP; clear hOP; have hen := HI.out.okD en (has_some HH.out).1; rw [(has_some HH.out).2] at hen; have hnb := nameOk_size HR.out.symm; have HIC := Aside0.mk (HI.out.rename a b); by_cases eab : a = b
            · have b3 : (a.toList != b.toList) = false := by rw [eab]; simp
              have b4 : (a.toList == b.toList) = true := by rw [eab]; simp
              have HFIN : Aside0 (DskAt w4 (grow F w2 w4) d (opRename S a b).1 ∧ KeptL F w2 w4) := ⟨⟨HIC.out, by
                rw [HOP.out, if_pos eab]; refine ⟨md, ms, vf, vc, fm, ?_⟩; rw [HU.out]; exact H4.out.monoF (fun k hk => .inl hk) (lt_grow H.out.lt HK4.out.size)⟩, HK4.out⟩
              clear hen hnb eab; go_wp2_with fail
              go_ret; exact ⟨by rw [HOP.out]; rfl, HFIN.out⟩
            · have b3 : (a.toList != b.toList) = true := by
                rw [bne_iff_ne]; exact fun e => eab (bytes_eqD.1 e)
              have b4 : (a.toList == b.toList) = false := by rw [beq_eq_false_iff_ne]; exact fun e => eab (bytes_eqD.1 e)
              have hub := HI.out.usedB; obtain ⟨j, hj⟩ : ∃ j : Nat, (j : Int) = en.2 := ⟨en.2.toNat, by omega⟩; have hj0 : j < T.files.length := by rw [HG.out.2.1]; omega
              have hnt := disk_note.calls H4.out HG.out.1 a b j hj0 hen.2.2.2 hnb.2 (.inl (by omega)) (by omega); have hus := used_note HG.out.1 eab (j : Int); rw [HU.out] at hus; have HUS := Aside0.mk hus; have HNT := Aside0.mk hnt; obtain ⟨i3, hl3, hi3⟩ := dir_get H4.out.dir a (by omega); have hi4 : i3 = (j : Int) := by rw [hi3 en (by rw [HG.out.2.2.1]; exact HH.out), hj]
              subst hi4; have c3 := (blk_cell H4.out.blk 3).trans rfl; have hOP := HOP.out; rw [if_neg eab, ← hj] at hOP; replace HOP := Aside0.mk hOP; clear hen hnb hub hnt hus hi3 hj hj0 eab hOP; go_wp2_with fail
              refine HNT.out.mono ?_; rintro x w9 ⟨⟨v9, rfl⟩, hk9, vc9, h9⟩; rw [← HUS.out] at h9; have hKF := HK4.out; have hK9 : KeptL F w2 w9 := hKF.trans hk9
              have HFIN : Aside0 (DskAt w9 (grow F w2 w9) d (opRename S a b).1 ∧ KeptL F w2 w9) := ⟨⟨HIC.out, by
                rw [HOP.out]
                exact ⟨md, ms, _, vc9, _, h9.monoF (fun k hk => by
                  rcases hk with hk | hk
                  · exact .inl hk
                  · have h1 := hKF.size; exact .inr ⟨by omega, hk.2⟩) (lt_grow H.out.lt hK9.size)⟩⟩, hK9⟩
              clear hK9 hKF h9 hk9; go_wp2_with fail
              go_ret; exact ⟨by rw [HOP.out]; rfl, HFIN.out⟩
          · have bg : (g != 0) = true := bne_iff_ne.mpr hg0; have hOP := HOP.out; rw [if_neg hg0] at hOP; replace HOP := Aside0.mk hOP; clear hOP hg0; go_wp2_with fail
            go_ret; rw [HOP.out]; refine ⟨rfl, ⟨HG.out.1, md, ms, vf, vc, fm, ?_⟩, HK4.out⟩; rw [HU.out]; exact H4.out.monoF (fun k hk => .inl hk) (lt_grow H.out.lt HK4.out.size)
end Go.Proofs.Ytdekcjopgnfmdaa.Hand
