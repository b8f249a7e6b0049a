/- Disk: a disk that is wholly made behind a world; the calls on it. -/
import Derived.Test.YthmkdmdfahhpmaaDskS
namespace Go.Proofs.Ythmkdmdfahhpmaa.Hand
open Go.RowKit Go.Maps Go.Proofs.YthmkdmdfahhpmaaW.PrintWords Go.Proofs.YthmkdmdfahhpmaaW.PrintLast Go.Proofs.YthmkdmdfahhpmaaW.PrintMore Go.Proofs.Ythmkdmdfahhpmaa.Q
set_option linter.unusedVariables false
set_option linter.unusedSimpArgs false
/-- The disk at d, all of whose blocks were made behind w. -/
def OwnD (w wr : World) (d : Nat) (S : DS) : Prop := ∃ F : Nat → Prop, DskAt wr F d S ∧ (∀ k, F k → w.heap.size ≤ k) ∧ Below w.heap.size w wr
theorem OwnD.step {w wr w' : World} {F : Nat → Prop} {d : Nat} {S : DS} (hF : ∀ k, F k → w.heap.size ≤ k) (hB : Below w.heap.size w wr) (h : DskAt w' (grow F wr w') d S) (hk : KeptL F wr w') : OwnD w w' d S :=
  ⟨_, h, fun k hh => by
    rcases hh with hh | hh
    · exact hF k hh
    · exact Nat.le_trans hB.size hh.1, hB.trans (hk.below hB.size hF)⟩
theorem OwnD.tell {w wr w' : World} {d : Nat} {S : DS} (h : OwnD w wr d S) (hb : Below wr.heap.size wr w') : OwnD w w' d S := by
  obtain ⟨F, h1, h2, h3⟩ := h
  exact ⟨F, h1.below hb, h2, below_step h3 hb⟩
theorem OwnD.below {w wr : World} {d : Nat} {S : DS} (h : OwnD w wr d S) : Below w.heap.size w wr := by
  obtain ⟨F, h1, h2, h3⟩ := h
  exact h3
theorem OwnD.inv {w wr : World} {d : Nat} {S : DS} (h : OwnD w wr d S) : Inv S := by
  obtain ⟨F, h1, h2, h3⟩ := h
  exact h1.1
/-- What lies below w stays beside the disk's calls; what was made behind wr stays, too, where it is none of the disk's. -/
theorem OwnD.from {w0 w wr : World} {d : Nat} {S : DS} (h : OwnD w wr d S) (hb : Below w0.heap.size w0 w) (hs : w0.heap.size ≤ w.heap.size) : OwnD w0 wr d S := by
  obtain ⟨F, h1, h2, h3⟩ := h
  exact ⟨F, h1, fun k hk => Nat.le_trans hs (h2 k hk), hb.trans (h3.mono hs)⟩
theorem disk_New.own (room : Int) (hr : room ≤ 9223372036854775807) (A : Option Addr) (c : Nat) (fs : List FilD) (w : World) (hC : Kd.C kF w A fs.length fs) (hc : fs.length ≤ c) (hok : ∀ f, f ∈ fs → FilOk f) :
    Calls Try.prog 17 #[.slice A fs.length c, .int .i64 room] w fun e w' => Below w.heap.size w w' ∧ (((newOf room fs).2 = 0 ∧ ∃ d, e = .returned (.tuple #[.pointer (some ⟨d, 0, none⟩), .int .i64 0]) ∧ OwnD w w' d (newOf room fs).1) ∨ ((newOf room fs).2 ≠ 0 ∧ e = .returned (.tuple #[.pointer none, .int .i64 (newOf room fs).2]))) := by
  refine (disk_New.calls room hr A c fs w hC hc hok).mono ?_
  rintro e w' ⟨⟨h0, d, rfl, h1⟩ | ⟨h0, rfl⟩, hb⟩
  · exact ⟨hb, .inl ⟨h0, d, rfl, _, h1, fun k hk => hk.1, hb⟩⟩
  · exact ⟨hb, .inr ⟨h0, rfl⟩⟩
theorem disk_Create.own {w wr : World} {d : Nat} {S : DS} (h : OwnD w wr d S) (n : ByteArray) (hn : n.size ≤ 9223372036854775807) :
    Calls Try.prog 37 #[.pointer (some ⟨d, 0, none⟩), .string n] wr fun e w' => e = .returned (.int .i64 (opCreate S n).2) ∧ OwnD w w' d (opCreate S n).1 := by
  obtain ⟨F, h1, h2, h3⟩ := h
  refine (disk_Create.calls h1 n hn).mono ?_
  rintro e w' ⟨rfl, h4, hk⟩
  exact ⟨rfl, OwnD.step h2 h3 h4 hk⟩
theorem disk_Remove.own {w wr : World} {d : Nat} {S : DS} (h : OwnD w wr d S) (n : ByteArray) (hn : n.size ≤ 9223372036854775807) :
    Calls Try.prog 40 #[.pointer (some ⟨d, 0, none⟩), .string n] wr fun e w' => e = .returned (.int .i64 (opRemove S n).2) ∧ OwnD w w' d (opRemove S n).1 := by
  obtain ⟨F, h1, h2, h3⟩ := h
  refine (disk_Remove.calls h1 n hn).mono ?_
  rintro e w' ⟨rfl, h4, hk⟩
  exact ⟨rfl, OwnD.step h2 h3 h4 hk⟩
theorem disk_Sync.own {w wr : World} {d : Nat} {S : DS} (h : OwnD w wr d S) (n : ByteArray) (hn : n.size ≤ 9223372036854775807) :
    Calls Try.prog 31 #[.pointer (some ⟨d, 0, none⟩), .string n] wr fun e w' => e = .returned (.int .i64 (opSync S n).2) ∧ OwnD w w' d (opSync S n).1 := by
  obtain ⟨F, h1, h2, h3⟩ := h
  refine (disk_Sync.calls h1 n hn).mono ?_
  rintro e w' ⟨rfl, h4, hk⟩
  exact ⟨rfl, OwnD.step h2 h3 h4 hk⟩
theorem disk_Rename.own {w wr : World} {d : Nat} {S : DS} (h : OwnD w wr d S) (a b : ByteArray) (hn : a.size ≤ 9223372036854775807 ∧ b.size ≤ 9223372036854775807) :
    Calls Try.prog 39 #[.pointer (some ⟨d, 0, none⟩), .string a, .string b] wr fun e w' => e = .returned (.int .i64 (opRename S a b).2) ∧ OwnD w w' d (opRename S a b).1 := by
  obtain ⟨F, h1, h2, h3⟩ := h
  refine (disk_Rename.calls h1 a b hn).mono ?_
  rintro e w' ⟨rfl, h4, hk⟩
  exact ⟨rfl, OwnD.step h2 h3 h4 hk⟩
theorem disk_SyncDir.own {w wr : World} {d : Nat} {S : DS} (h : OwnD w wr d S) :
    Calls Try.prog 28 #[.pointer (some ⟨d, 0, none⟩)] wr fun e w' => e = .returned (.int .i64 (opSyncDir S).2) ∧ OwnD w w' d (opSyncDir S).1 := by
  obtain ⟨F, h1, h2, h3⟩ := h
  refine (disk_SyncDir.calls h1).mono ?_
  rintro e w' ⟨rfl, h4, hk⟩
  exact ⟨rfl, OwnD.step h2 h3 h4 hk⟩
/-- Append: the bytes lie below w, or were made behind wr. -/
theorem disk_Append.own {w w0 wr : World} {d : Nat} {S : DS} (h : OwnD w w0 d S) (hb0 : Below w0.heap.size w0 wr) (n : ByteArray) (hn : n.size ≤ 9223372036854775807) (A : Option Addr) (c : Nat) (p : List Int) (hC : Kd.C kB wr A p.length p) (hpb : ∀ x, x ∈ p → 0 ≤ x ∧ x ≤ 255) (hpl : (p.length : Int) ≤ 1073741824) (hnf : ∀ ad, A = some ad → 0 < p.length → ad.block < w.heap.size ∨ w0.heap.size ≤ ad.block) :
    Calls Try.prog 38 #[.pointer (some ⟨d, 0, none⟩), .string n, .slice A p.length c] wr fun e w' => e = .returned (.int .i64 (opAppend S n p).2) ∧ OwnD w w' d (opAppend S n p).1 := by
  obtain ⟨F, h1, h2, h3⟩ := h
  refine (disk_Append.calls (h1.below hb0) n hn A c p hC hpb hpl (fun ad e hp hF => ?_)).mono ?_
  · have h4 := h2 _ hF
    have h5 := h1.lt _ hF
    rcases hnf ad e hp with h6 | h6 <;> omega
  · rintro e w' ⟨rfl, h4, hk⟩
    exact ⟨rfl, OwnD.step h2 (below_step h3 hb0) h4 hk⟩
theorem disk_Arm.own {w wr : World} {d : Nat} {S : DS} (h : OwnD w wr d S) (n : Int) (hn : -9223372036854775808 ≤ n ∧ n ≤ 9223372036854775807) :
    Calls Try.prog 26 #[.pointer (some ⟨d, 0, none⟩), .int .i64 n] wr fun e w' => (∃ v, e = .returned v) ∧ OwnD w w' d (opArm S n) := by
  obtain ⟨F, h1, h2, h3⟩ := h
  refine (disk_Arm.calls h1 n hn).mono ?_
  rintro e w' ⟨hv, h4, hk⟩
  exact ⟨hv, F, h4, h2, h3.trans (hk.below h3.size h2)⟩
theorem disk_Count.own {w wr : World} {d : Nat} {S : DS} (h : OwnD w wr d S) : Calls Try.prog 20 #[.pointer (some ⟨d, 0, none⟩)] wr fun e w' => e = .returned (.int .i64 S.ops) ∧ w' = wr := by
  obtain ⟨F, h1, h2, h3⟩ := h
  exact disk_Count.calls h1
theorem disk_Dead.own {w wr : World} {d : Nat} {S : DS} (h : OwnD w wr d S) : Calls Try.prog 21 #[.pointer (some ⟨d, 0, none⟩)] wr fun e w' => e = .returned (.bool S.dead) ∧ w' = wr := by
  obtain ⟨F, h1, h2, h3⟩ := h
  exact disk_Dead.calls h1
theorem disk_Read.own {w wr : World} {d : Nat} {S : DS} (h : OwnD w wr d S) (n : ByteArray) (hn : n.size ≤ 9223372036854775807) :
    Calls Try.prog 32 #[.pointer (some ⟨d, 0, none⟩), .string n] wr fun e w' => ∃ v, e = .returned (.tuple #[v, .int .i64 (rdFile S n).2]) ∧ Kd.R kB 5 w' wr.heap.size (fun _ => True) v (rdFile S n).1 ∧ Below wr.heap.size wr w' ∧ OwnD w w' d S := by
  have hh := h
  obtain ⟨F, h1, h2, h3⟩ := h
  refine (disk_Read.calls h1 n hn).mono ?_
  rintro e w' ⟨v, rfl, h4, hb⟩
  exact ⟨v, rfl, h4, hb, hh.tell hb⟩
theorem disk_List.own {w wr : World} {d : Nat} {S : DS} (h : OwnD w wr d S) :
    Calls Try.prog 25 #[.pointer (some ⟨d, 0, none⟩)] wr fun e w' => ∃ v, e = .returned v ∧ Kd.R Kd.string 9 w' wr.heap.size (fun _ => True) v (lstOf S) ∧ Below wr.heap.size wr w' ∧ OwnD w w' d S := by
  have hh := h
  obtain ⟨F, h1, h2, h3⟩ := h
  refine (disk_List.calls h1).mono ?_
  rintro e w' ⟨v, rfl, h4, hb⟩
  exact ⟨v, rfl, h4, hb, hh.tell hb⟩
theorem disk_Durable.own {w wr : World} {d : Nat} {S : DS} (h : OwnD w wr d S) :
    Calls Try.prog 24 #[.pointer (some ⟨d, 0, none⟩)] wr fun e w' => ∃ v, e = .returned v ∧ Kd.R kF 65 w' wr.heap.size (fun _ => True) v ((leftOf S 0 []).map mkF) ∧ Below wr.heap.size wr w' ∧ OwnD w w' d S := by
  have hh := h
  obtain ⟨F, h1, h2, h3⟩ := h
  refine (disk_Durable.calls h1).mono ?_
  rintro e w' ⟨v, rfl, h4, hb⟩
  exact ⟨v, rfl, h4, hb, hh.tell hb⟩
theorem disk_Left.own {w wr : World} {d : Nat} {S : DS} (h : OwnD w wr d S) (dN : Int) (hdN : -9223372036854775808 ≤ dN ∧ dN ≤ 9223372036854775807) (At : Option Addr) (ct : Nat) (ts : List Int) (hCt : Kd.C (Kd.int .i64) wr At ts.length ts) (hct : ts.length ≤ ct) (hts : ∀ x, x ∈ ts → -9223372036854775808 ≤ x ∧ x ≤ 9223372036854775807) :
    Calls Try.prog 15 #[.pointer (some ⟨d, 0, none⟩), .agg #[.int .i64 dN, .slice At ts.length ct]] wr fun e w' => ∃ v, e = .returned v ∧ Kd.R kF 65 w' wr.heap.size (fun _ => True) v ((leftOf S dN ts).map mkF) ∧ Below wr.heap.size wr w' ∧ OwnD w w' d S := by
  have hh := h
  obtain ⟨F, h1, h2, h3⟩ := h
  refine (disk_Left.calls h1 dN hdN At ct ts hCt hct hts).mono ?_
  rintro e w' ⟨v, rfl, h4, hb⟩
  exact ⟨v, rfl, h4, hb, hh.tell hb⟩
end Go.Proofs.Ythmkdmdfahhpmaa.Hand
