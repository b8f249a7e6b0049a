/- Two disks of one story, the program's and the document's, side by side; the calls on each. -/
import Derived.Test.YtdekcjopgnfmdaaDskBH
import Derived.Test.YtdekcjopgnfmdaaDskBC
import Derived.Test.YtdekcjopgnfmdaaDskBE
import Derived.Test.YtdekcjopgnfmdaaDskBF
import Derived.Test.YtdekcjopgnfmdaaDskBG
namespace Go.Proofs.Ytdekcjopgnfmdaa.Hand
open Go.RowKit Go.Maps Go.Proofs.YtdekcjopgnfmdaaW.PrintWords Go.Proofs.YtdekcjopgnfmdaaW.PrintLast Go.Proofs.YtdekcjopgnfmdaaW.PrintMore Go.Proofs.Ytdekcjopgnfmdaa.Q
set_option linter.unusedVariables false
set_option linter.unusedSimpArgs false
/-- The program's disk at d, the document's at r, beside one another and beside the blocks X. -/
def DuoD (w wr : World) (X : Nat → Prop) (d r : Nat) (S T : DS) : Prop := ∃ F G : Nat → Prop, DskAt wr F d S ∧ RskAt wr G r T ∧ (∀ k, F k → w.heap.size ≤ k) ∧ (∀ k, G k → w.heap.size ≤ k) ∧ (∀ k, F k → ¬ G k) ∧ (∀ k, X k → ¬ F k ∧ ¬ G k ∧ k < wr.heap.size ∧ w.heap.size ≤ k) ∧ Below w.heap.size w wr
theorem DuoD.tell {w wr w' : World} {X : Nat → Prop} {d r : Nat} {S T : DS} (h : DuoD w wr X d r S T) (hb : Below wr.heap.size wr w') : DuoD w w' X d r S T := by
  obtain ⟨F, G, h1, h2, h3, h4, h5, h6, h7⟩ := h; exact ⟨F, G, h1.below hb, h2.below hb, h3, h4, h5, fun k hk => ⟨(h6 k hk).1, (h6 k hk).2.1, Nat.lt_of_lt_of_le (h6 k hk).2.2.1 hb.size, (h6 k hk).2.2.2⟩, below_step h7 hb⟩
/-- What has just been made lies beside both. -/
theorem DuoD.made {w wr w' : World} {X : Nat → Prop} {d r : Nat} {S T : DS} (h : DuoD w wr X d r S T) (hb : Below wr.heap.size wr w') : DuoD w w' (fun k => wr.heap.size ≤ k ∧ k < w'.heap.size) d r S T := by
  obtain ⟨F, G, h1, h2, h3, h4, h5, h6, h7⟩ := h; exact ⟨F, G, h1.below hb, h2.below hb, h3, h4, h5, fun k hk => ⟨fun hf => by have := h1.lt k hf; omega, fun hf => by have := h2.lt k hf; omega, hk.2, Nat.le_trans h7.size hk.1⟩, below_step h7 hb⟩
theorem DuoD.free {w wr : World} {X : Nat → Prop} {d r : Nat} {S T : DS} (h : DuoD w wr X d r S T) : DuoD w wr (fun _ => False) d r S T := by
  obtain ⟨F, G, h1, h2, h3, h4, h5, h6, h7⟩ := h; exact ⟨F, G, h1, h2, h3, h4, h5, fun _ h => h.elim, h7⟩
theorem DuoD.below {w wr : World} {X : Nat → Prop} {d r : Nat} {S T : DS} (h : DuoD w wr X d r S T) : Below w.heap.size w wr := by
  obtain ⟨F, G, h1, h2, h3, h4, h5, h6, h7⟩ := h; exact h7
theorem DuoD.ownD {w wr : World} {X : Nat → Prop} {d r : Nat} {S T : DS} (h : DuoD w wr X d r S T) : OwnD w wr d S := by
  obtain ⟨F, G, h1, h2, h3, h4, h5, h6, h7⟩ := h; exact ⟨F, h1, h3, h7⟩
theorem DuoD.refAt {w wr : World} {X : Nat → Prop} {d r : Nat} {S T : DS} (h : DuoD w wr X d r S T) : ∃ G, RskAt wr G r T := by
  obtain ⟨F, G, h1, h2, h3, h4, h5, h6, h7⟩ := h; exact ⟨G, h2⟩
/-- Blocks beside both are written. -/
theorem DuoD.write {w wr w' : World} {X : Nat → Prop} {d r : Nat} {S T : DS} (h : DuoD w wr X d r S T) (hk : KeptL X wr w') : DuoD w w' X d r S T := by
  obtain ⟨F, G, h1, h2, h3, h4, h5, h6, h7⟩ := h; exact ⟨F, G, h1.kept hk (fun k hf hx => (h6 k hx).1 hf), h2.kept hk (fun k hf hx => (h6 k hx).2.1 hf), h3, h4, h5, fun k hx => ⟨(h6 k hx).1, (h6 k hx).2.1, Nat.lt_of_lt_of_le (h6 k hx).2.2.1 hk.size, (h6 k hx).2.2.2⟩, h7.trans (hk.below h7.size (fun k hx => (h6 k hx).2.2.2))⟩
theorem DuoD.stepD {w wr w' : World} {X F G : Nat → Prop} {d r : Nat} {S S' T : DS} (h1 : DskAt wr F d S) (h2 : RskAt wr G r T) (h3 : ∀ k, F k → w.heap.size ≤ k) (h4 : ∀ k, G k → w.heap.size ≤ k) (h5 : ∀ k, F k → ¬ G k) (h6 : ∀ k, X k → ¬ F k ∧ ¬ G k ∧ k < wr.heap.size ∧ w.heap.size ≤ k) (h7 : Below w.heap.size w wr) {F' : Nat → Prop} (k1 : DskAt w' F' d S') (hF : ∀ k, F' k → F k ∨ wr.heap.size ≤ k) (k3 : KeptL F wr w') : DuoD w w' X d r S' T ∧ ∀ k, X k → w'.heap[k]? = wr.heap[k]? := by
  refine ⟨⟨F', G, k1, h2.kept k3 (fun k hg hf => h5 k hf hg), fun k hk => ?_, h4, fun k hf hg => ?_, fun k hk => ⟨fun hf => ?_, (h6 k hk).2.1, Nat.lt_of_lt_of_le (h6 k hk).2.2.1 k3.size, (h6 k hk).2.2.2⟩, h7.trans (k3.below h7.size h3)⟩, fun k hk => k3.block k (h6 k hk).2.2.1 (h6 k hk).1⟩
  · rcases hF k hk with h | h
    · exact h3 k h
    · exact Nat.le_trans h7.size h
  · rcases hF k hf with h | h
    · exact h5 k h hg
    · have := h2.lt k hg; omega
  · rcases hF k hf with h | h
    · exact (h6 k hk).1 h
    · have := (h6 k hk).2.2.1; omega
theorem DuoD.stepR {w wr w' : World} {X F G : Nat → Prop} {d r : Nat} {S T T' : DS} (h1 : DskAt wr F d S) (h2 : RskAt wr G r T) (h3 : ∀ k, F k → w.heap.size ≤ k) (h4 : ∀ k, G k → w.heap.size ≤ k) (h5 : ∀ k, F k → ¬ G k) (h6 : ∀ k, X k → ¬ F k ∧ ¬ G k ∧ k < wr.heap.size ∧ w.heap.size ≤ k) (h7 : Below w.heap.size w wr) {G' : Nat → Prop} (k1 : RskAt w' G' r T') (hG : ∀ k, G' k → G k ∨ wr.heap.size ≤ k) (k3 : KeptL G wr w') : DuoD w w' X d r S T' ∧ ∀ k, X k → w'.heap[k]? = wr.heap[k]? := by
  refine ⟨⟨F, G', h1.kept k3 (fun k hf hg => h5 k hf hg), k1, h3, fun k hk => ?_, fun k hf hg => ?_, fun k hk => ⟨(h6 k hk).1, fun hf => ?_, Nat.lt_of_lt_of_le (h6 k hk).2.2.1 k3.size, (h6 k hk).2.2.2⟩, h7.trans (k3.below h7.size h4)⟩, fun k hk => k3.block k (h6 k hk).2.2.1 (h6 k hk).2.1⟩
  · rcases hG k hk with h | h
    · exact h4 k h
    · exact Nat.le_trans h7.size h
  · rcases hG k hg with h | h
    · exact h5 k hf h
    · have := h1.lt k hf; omega
  · rcases hG k hf with h | h
    · exact (h6 k hk).2.1 h
    · have := (h6 k hk).2.2.1; omega
theorem disk_Create.duo {w wr : World} {X : Nat → Prop} {d r : Nat} {S T : DS} (h : DuoD w wr X d r S T) (n : ByteArray) (hn : n.size ≤ 9223372036854775807) :
    Calls Try.prog 38 #[.pointer (some ⟨d, 0, none⟩), .string n] wr fun e w' => e = .returned (.int .i64 (opCreate S n).2) ∧ DuoD w w' X d r (opCreate S n).1 T ∧ ∀ k, X k → w'.heap[k]? = wr.heap[k]? := by
  obtain ⟨F, G, h1, h2, h3, h4, h5, h6, h7⟩ := h; refine (disk_Create.calls h1 n hn).mono ?_; rintro e w' ⟨rfl, k1, hk⟩; exact ⟨rfl, DuoD.stepD h1 h2 h3 h4 h5 h6 h7 k1 (fun k hk => hk.imp id (fun h => h.1)) hk⟩
theorem ref_Create.duo {w wr : World} {X : Nat → Prop} {d r : Nat} {S T : DS} (h : DuoD w wr X d r S T) (n : ByteArray) (hn : n.size ≤ 9223372036854775807) :
    Calls Try.prog 55 #[.pointer (some ⟨r, 0, none⟩), .string n] wr fun e w' => e = .returned (.int .i64 (opCreate T n).2) ∧ DuoD w w' X d r S (opCreate T n).1 ∧ ∀ k, X k → w'.heap[k]? = wr.heap[k]? := by
  obtain ⟨F, G, h1, h2, h3, h4, h5, h6, h7⟩ := h; refine (ref_Create.calls h2 n hn).mono ?_; rintro e w' ⟨rfl, k1, hk⟩; exact ⟨rfl, DuoD.stepR h1 h2 h3 h4 h5 h6 h7 k1 (fun k hk => hk.imp id (fun h => h.1)) hk⟩
theorem disk_Remove.duo {w wr : World} {X : Nat → Prop} {d r : Nat} {S T : DS} (h : DuoD w wr X d r S T) (n : ByteArray) (hn : n.size ≤ 9223372036854775807) :
    Calls Try.prog 41 #[.pointer (some ⟨d, 0, none⟩), .string n] wr fun e w' => e = .returned (.int .i64 (opRemove S n).2) ∧ DuoD w w' X d r (opRemove S n).1 T ∧ ∀ k, X k → w'.heap[k]? = wr.heap[k]? := by
  obtain ⟨F, G, h1, h2, h3, h4, h5, h6, h7⟩ := h; refine (disk_Remove.calls h1 n hn).mono ?_; rintro e w' ⟨rfl, k1, hk⟩; exact ⟨rfl, DuoD.stepD h1 h2 h3 h4 h5 h6 h7 k1 (fun k hk => hk.imp id (fun h => h.1)) hk⟩
theorem ref_Remove.duo {w wr : World} {X : Nat → Prop} {d r : Nat} {S T : DS} (h : DuoD w wr X d r S T) (n : ByteArray) (hn : n.size ≤ 9223372036854775807) :
    Calls Try.prog 59 #[.pointer (some ⟨r, 0, none⟩), .string n] wr fun e w' => e = .returned (.int .i64 (opRemove T n).2) ∧ DuoD w w' X d r S (opRemove T n).1 ∧ ∀ k, X k → w'.heap[k]? = wr.heap[k]? := by
  obtain ⟨F, G, h1, h2, h3, h4, h5, h6, h7⟩ := h; refine (ref_Remove.calls h2 n hn).mono ?_; rintro e w' ⟨rfl, k1, hk⟩; exact ⟨rfl, DuoD.stepR h1 h2 h3 h4 h5 h6 h7 k1 (fun k hk => hk.imp id (fun h => h.1)) hk⟩
theorem disk_Sync.duo {w wr : World} {X : Nat → Prop} {d r : Nat} {S T : DS} (h : DuoD w wr X d r S T) (n : ByteArray) (hn : n.size ≤ 9223372036854775807) :
    Calls Try.prog 32 #[.pointer (some ⟨d, 0, none⟩), .string n] wr fun e w' => e = .returned (.int .i64 (opSync S n).2) ∧ DuoD w w' X d r (opSync S n).1 T ∧ ∀ k, X k → w'.heap[k]? = wr.heap[k]? := by
  obtain ⟨F, G, h1, h2, h3, h4, h5, h6, h7⟩ := h; refine (disk_Sync.calls h1 n hn).mono ?_; rintro e w' ⟨rfl, k1, hk⟩; exact ⟨rfl, DuoD.stepD h1 h2 h3 h4 h5 h6 h7 k1 (fun k hk => hk.imp id (fun h => h.1)) hk⟩
theorem ref_Sync.duo {w wr : World} {X : Nat → Prop} {d r : Nat} {S T : DS} (h : DuoD w wr X d r S T) (n : ByteArray) (hn : n.size ≤ 9223372036854775807) :
    Calls Try.prog 57 #[.pointer (some ⟨r, 0, none⟩), .string n] wr fun e w' => e = .returned (.int .i64 (opSync T n).2) ∧ DuoD w w' X d r S (opSync T n).1 ∧ ∀ k, X k → w'.heap[k]? = wr.heap[k]? := by
  obtain ⟨F, G, h1, h2, h3, h4, h5, h6, h7⟩ := h; refine (ref_Sync.calls h2 n hn).mono ?_; rintro e w' ⟨rfl, k1, hk⟩; exact ⟨rfl, DuoD.stepR h1 h2 h3 h4 h5 h6 h7 k1 (fun k hk => hk.imp id (fun h => h.1)) hk⟩
theorem disk_Rename.duo {w wr : World} {X : Nat → Prop} {d r : Nat} {S T : DS} (h : DuoD w wr X d r S T) (a b : ByteArray) (hn : a.size ≤ 9223372036854775807 ∧ b.size ≤ 9223372036854775807) :
    Calls Try.prog 40 #[.pointer (some ⟨d, 0, none⟩), .string a, .string b] wr fun e w' => e = .returned (.int .i64 (opRename S a b).2) ∧ DuoD w w' X d r (opRename S a b).1 T ∧ ∀ k, X k → w'.heap[k]? = wr.heap[k]? := by
  obtain ⟨F, G, h1, h2, h3, h4, h5, h6, h7⟩ := h; refine (disk_Rename.calls h1 a b hn).mono ?_; rintro e w' ⟨rfl, k1, hk⟩; exact ⟨rfl, DuoD.stepD h1 h2 h3 h4 h5 h6 h7 k1 (fun k hk => hk.imp id (fun h => h.1)) hk⟩
theorem ref_Rename.duo {w wr : World} {X : Nat → Prop} {d r : Nat} {S T : DS} (h : DuoD w wr X d r S T) (a b : ByteArray) (hn : a.size ≤ 9223372036854775807 ∧ b.size ≤ 9223372036854775807) :
    Calls Try.prog 58 #[.pointer (some ⟨r, 0, none⟩), .string a, .string b] wr fun e w' => e = .returned (.int .i64 (opRename T a b).2) ∧ DuoD w w' X d r S (opRename T a b).1 ∧ ∀ k, X k → w'.heap[k]? = wr.heap[k]? := by
  obtain ⟨F, G, h1, h2, h3, h4, h5, h6, h7⟩ := h; refine (ref_Rename.calls h2 a b hn).mono ?_; rintro e w' ⟨rfl, k1, hk⟩; exact ⟨rfl, DuoD.stepR h1 h2 h3 h4 h5 h6 h7 k1 (fun k hk => hk.imp id (fun h => h.1)) hk⟩
theorem disk_SyncDir.duo {w wr : World} {X : Nat → Prop} {d r : Nat} {S T : DS} (h : DuoD w wr X d r S T)  :
    Calls Try.prog 29 #[.pointer (some ⟨d, 0, none⟩)] wr fun e w' => e = .returned (.int .i64 (opSyncDir S).2) ∧ DuoD w w' X d r (opSyncDir S).1 T ∧ ∀ k, X k → w'.heap[k]? = wr.heap[k]? := by
  obtain ⟨F, G, h1, h2, h3, h4, h5, h6, h7⟩ := h; refine (disk_SyncDir.calls h1 ).mono ?_; rintro e w' ⟨rfl, k1, hk⟩; exact ⟨rfl, DuoD.stepD h1 h2 h3 h4 h5 h6 h7 k1 (fun k hk => hk.imp id (fun h => h.1)) hk⟩
theorem ref_SyncDir.duo {w wr : World} {X : Nat → Prop} {d r : Nat} {S T : DS} (h : DuoD w wr X d r S T)  :
    Calls Try.prog 60 #[.pointer (some ⟨r, 0, none⟩)] wr fun e w' => e = .returned (.int .i64 (opSyncDir T).2) ∧ DuoD w w' X d r S (opSyncDir T).1 ∧ ∀ k, X k → w'.heap[k]? = wr.heap[k]? := by
  obtain ⟨F, G, h1, h2, h3, h4, h5, h6, h7⟩ := h; refine (ref_SyncDir.calls h2 ).mono ?_; rintro e w' ⟨rfl, k1, hk⟩; exact ⟨rfl, DuoD.stepR h1 h2 h3 h4 h5 h6 h7 k1 (fun k hk => hk.imp id (fun h => h.1)) hk⟩
theorem disk_Append.duo {w wr : World} {X : Nat → Prop} {d r : Nat} {S T : DS} (h : DuoD w wr X d r S T) (n : ByteArray) (hn : n.size ≤ 9223372036854775807) (A : Option Addr) (c : Nat) (p : List Int) (hC : Kd.C kB wr A p.length p) (hpb : ∀ x, x ∈ p → 0 ≤ x ∧ x ≤ 255) (hpl : (p.length : Int) ≤ 1073741824) (hnf : ∀ ad, A = some ad → 0 < p.length → ad.block < w.heap.size ∨ X ad.block) :
    Calls Try.prog 39 #[.pointer (some ⟨d, 0, none⟩), .string n, .slice A p.length c] wr fun e w' => e = .returned (.int .i64 (opAppend S n p).2) ∧ DuoD w w' X d r (opAppend S n p).1 T ∧ ∀ k, X k → w'.heap[k]? = wr.heap[k]? := by
  obtain ⟨F, G, h1, h2, h3, h4, h5, h6, h7⟩ := h
  refine (disk_Append.calls h1 n hn A c p hC hpb hpl (fun ad e hp hF => by
    rcases hnf ad e hp with h8 | h8
    · have := h3 ad.block hF; omega
    · exact (h6 _ h8).1 hF)).mono ?_
  rintro e w' ⟨rfl, k1, hk⟩; exact ⟨rfl, DuoD.stepD h1 h2 h3 h4 h5 h6 h7 k1 (fun k hk => hk.imp id (fun h => h.1)) hk⟩
theorem ref_Append.duo {w wr : World} {X : Nat → Prop} {d r : Nat} {S T : DS} (h : DuoD w wr X d r S T) (n : ByteArray) (hn : n.size ≤ 9223372036854775807) (A : Option Addr) (c : Nat) (p : List Int) (hC : Kd.C kB wr A p.length p) (hpb : ∀ x, x ∈ p → 0 ≤ x ∧ x ≤ 255) (hpl : (p.length : Int) ≤ 1073741824) (hnf : ∀ ad, A = some ad → 0 < p.length → ad.block < w.heap.size ∨ X ad.block) :
    Calls Try.prog 56 #[.pointer (some ⟨r, 0, none⟩), .string n, .slice A p.length c] wr fun e w' => e = .returned (.int .i64 (opAppend T n p).2) ∧ DuoD w w' X d r S (opAppend T n p).1 ∧ ∀ k, X k → w'.heap[k]? = wr.heap[k]? := by
  obtain ⟨F, G, h1, h2, h3, h4, h5, h6, h7⟩ := h
  refine (ref_Append.calls h2 n hn A c p hC hpl hpb (fun ad e hp hF => by
    rcases hnf ad e hp with h8 | h8
    · have := h4 ad.block hF; omega
    · exact (h6 _ h8).2.1 hF)).mono ?_
  rintro e w' ⟨rfl, k1, hk⟩; exact ⟨rfl, DuoD.stepR h1 h2 h3 h4 h5 h6 h7 k1 (fun k hk => hk.imp id (fun h => h.1)) hk⟩
theorem disk_Arm.duo {w wr : World} {X : Nat → Prop} {d r : Nat} {S T : DS} (h : DuoD w wr X d r S T) (n : Int) (hn : -9223372036854775808 ≤ n ∧ n ≤ 9223372036854775807) :
    Calls Try.prog 27 #[.pointer (some ⟨d, 0, none⟩), .int .i64 n] wr fun e w' => (∃ v, e = .returned v) ∧ DuoD w w' X d r (opArm S n) T ∧ ∀ k, X k → w'.heap[k]? = wr.heap[k]? := by
  obtain ⟨F, G, h1, h2, h3, h4, h5, h6, h7⟩ := h; refine (disk_Arm.calls h1 n hn).mono ?_; rintro e w' ⟨hv, k1, hk⟩; exact ⟨hv, DuoD.stepD h1 h2 h3 h4 h5 h6 h7 k1 (fun _ h => .inl h) hk⟩
theorem ref_Arm.duo {w wr : World} {X : Nat → Prop} {d r : Nat} {S T : DS} (h : DuoD w wr X d r S T) (n : Int) (hn : -9223372036854775808 ≤ n ∧ n ≤ 9223372036854775807) :
    Calls Try.prog 61 #[.pointer (some ⟨r, 0, none⟩), .int .i64 n] wr fun e w' => (∃ v, e = .returned v) ∧ DuoD w w' X d r S (opArm T n) ∧ ∀ k, X k → w'.heap[k]? = wr.heap[k]? := by
  obtain ⟨F, G, h1, h2, h3, h4, h5, h6, h7⟩ := h; refine (ref_Arm.calls h2 n hn).mono ?_; rintro e w' ⟨hv, k1, hk⟩; exact ⟨hv, DuoD.stepR h1 h2 h3 h4 h5 h6 h7 k1 (fun _ h => .inl h) hk⟩
end Go.Proofs.Ytdekcjopgnfmdaa.Hand
