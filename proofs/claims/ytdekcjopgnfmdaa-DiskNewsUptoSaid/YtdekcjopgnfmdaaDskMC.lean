/- Disk: the law's arguments taken apart. Disk: what the law's plain functions answer: copied, ours, files, names, full, begins, same. Disk: stories that come in, taken apart; one call that changes. Disk: what a story leaves of a disk. Disk: one call that changes; a story played on the program's disk. Disk: plain laws of what is played: how many files, what is left with everything kept. Disk: plain laws of DiskSafe: every file synced, the directory synced: nothing is lost. Disk: plain laws of DiskAnew: what is left is a disk's files, and nothing is lost of it. Disk: plain laws of DiskDies: an armed disk beside one that never was. -/
import Derived.Test.YtdekcjopgnfmdaaDskMB
import Derived.Test.YtdekcjopgnfmdaaHOpens
import Derived.Test.YtdekcjopgnfmdaaDskO
namespace Go.Proofs.Ytdekcjopgnfmdaa.Hand
open Go.RowKit Go.Maps Go.Proofs.YtdekcjopgnfmdaaW.PrintWords Go.Proofs.YtdekcjopgnfmdaaW.PrintLast Go.Proofs.YtdekcjopgnfmdaaW.PrintMore Go.Proofs.Ytdekcjopgnfmdaa.Q
set_option linter.unusedVariables false
set_option linter.unusedSimpArgs false
/-- What a failure leaves. -/
abbrev CrD := Int × List Int
abbrev kCr : Kd CrD := Kd.iso (Kd.pair (Kd.int .i64) (Kd.slice 3 (Kd.int .i64))) (fun x => x)
structure ActD where
  kind : Int
  name : ByteArray
  dest : ByteArray
  p : List Int
  n : Int
  c : CrD
abbrev kAct : Kd ActD := Kd.iso (Kd.pair (Kd.int .i64) (Kd.pair Kd.string (Kd.pair Kd.string (Kd.pair (Kd.slice 5 (Kd.int .u8)) (Kd.pair (Kd.int .i64) kCr))))) (fun x : ActD => (x.kind, x.name, x.dest, x.p, x.n, x.c))
abbrev i64ok (n : Int) : Prop := (Lit.int .i64 n).wf = true
theorem crash_f {d : Int} {l : List Int} (h : l.length * 8 ≤ 140737488351232) : wicketlaw05_crash.f d l = some (d, l) := by
  unfold wicketlaw05_crash.f; rw [Option.bind_some, if_pos (by rw [List.length_nil]; omega)]; rfl
theorem kCr_open {w : World} {x : CrD} {cs : List Value} (h : kCr.K w x cs) : ∃ A c, cs = [.int .i64 x.1, .slice A x.2.length c] ∧ x.2.length ≤ c ∧ Kd.C (Kd.int .i64) w A x.2.length x.2 := by
  obtain ⟨p1, p2, e1, h1, A, c, h2, h3, h4⟩ := h; exact ⟨A, c, by rw [e1, h1, h2]; rfl, h3, h4⟩
theorem kAct_open {w : World} {x : ActD} {cs : List Value} (h : kAct.K w x cs) : ∃ A c A2 c2, cs = [.int .i64 x.kind, .string x.name, .string x.dest, .slice A x.p.length c, .int .i64 x.n, .int .i64 x.c.1, .slice A2 x.c.2.length c2] ∧ x.p.length ≤ c ∧ Kd.C kB w A x.p.length x.p ∧ x.c.2.length ≤ c2 ∧ Kd.C (Kd.int .i64) w A2 x.c.2.length x.c.2 := by
  obtain ⟨p1, q1, e1, h1, p2, q2, e2, h2, p3, q3, e3, h3, p4, q4, e4, ⟨A, c, h4, h5, h6⟩, p5, q5, e5, h7, h8⟩ := h; obtain ⟨A2, c2, h9, h10, h11⟩ := kCr_open h8; exact ⟨A, c, A2, c2, by rw [e1, h1, e2, h2, e3, h3, e4, h4, e5, h7, h9]; rfl, h5, h6, h10, h11⟩
end Go.Proofs.Ytdekcjopgnfmdaa.Hand
namespace Go.Proofs.Ytdekcjopgnfmdaa.Hand
open Go.RowKit Go.Maps Go.Proofs.YtdekcjopgnfmdaaW.PrintWords Go.Proofs.YtdekcjopgnfmdaaW.PrintLast Go.Proofs.YtdekcjopgnfmdaaW.PrintMore Go.Proofs.Ytdekcjopgnfmdaa.Q
set_option linter.unusedVariables false
set_option linter.unusedSimpArgs false
abbrev RefF := S101
abbrev kRF : Kd RefF := k101
def toR (x : FilD) : RefF := ⟨x.f0, x.f1⟩
/-- Files that may be copied. -/
def FsB (l : List FilD) : Prop := l.length < 1073741824 ∧ ∀ f, f ∈ l → f.f1.length < 1073741824
theorem rdF {l : List FilD} {i : Nat} (h : i < l.length) : rd_T65 l (i : Int) = l[i] := by
  unfold rd_T65; rw [Int.toNat_natCast, List.getD_eq_getElem?_getD, List.getElem?_eq_getElem h]; rfl
theorem rdRF {l : List FilD} {i : Nat} (h : i < l.length) : rd_T101 (l.map toR) (i : Int) = toR l[i] := by
  unfold rd_T101; rw [Int.toNat_natCast, List.getD_eq_getElem?_getD, List.getElem?_eq_getElem (by rw [List.length_map]; exact h), List.getElem_map]; rfl
theorem copied_from {l : List FilD} (hB : FsB l) (d : Nat) : ∀ i : Nat, i + d = l.length → Ev (fun k => wicketlaw05_copied.l0 k l (l.take i) (i : Int)) l := by
  have hB1 := hB.1
  induction d with
  | zero =>
    intro i hi; rw [List.take_of_length_le (by omega)]; refine Ev.step (f := fun _ => some l) (fun k => ?_) (Ev.now _); rw [wicketlaw05_copied.l0, if_neg (by omega)]
  | succ d ih =>
    intro i hi; have hlt : i < l.length := by omega
    have hn : wrap64 ((i : Int) + 1) = ((i + 1 : Nat) : Int) := by rw [w64D (by omega) (by omega)]; omega
    have hf := hB.2 _ (List.getElem_mem hlt); have hi2 := ih (i + 1) (by omega); rw [List.take_succ_eq_append_getElem hlt] at hi2; refine Ev.step (fun k => ?_) hi2; rw [wicketlaw05_copied.l0, if_pos (by omega), if_pos (by omega), Option.bind_some, rdF hlt, if_pos (by rw [List.length_nil]; omega), if_pos (by rw [List.length_take]; omega), hn]; rfl
theorem copied_ev {l : List FilD} (hB : FsB l) : Ev (fun k => wicketlaw05_copied.f k l) l := copied_from hB l.length 0 (by omega)
theorem ours_from {l : List FilD} (hB : FsB l) (d : Nat) : ∀ i : Nat, i + d = l.length → Ev (fun k => wicketlaw05_ours.l0 k l ((l.take i).map toR) (i : Int)) (l.map toR) := by
  have hB1 := hB.1
  induction d with
  | zero =>
    intro i hi; rw [List.take_of_length_le (by omega)]; refine Ev.step (f := fun _ => some (l.map toR)) (fun k => ?_) (Ev.now _); rw [wicketlaw05_ours.l0, if_neg (by omega)]
  | succ d ih =>
    intro i hi; have hlt : i < l.length := by omega
    have hn : wrap64 ((i : Int) + 1) = ((i + 1 : Nat) : Int) := by rw [w64D (by omega) (by omega)]; omega
    have hf := hB.2 _ (List.getElem_mem hlt); have hi2 := ih (i + 1) (by omega); rw [List.take_succ_eq_append_getElem hlt, List.map_append] at hi2; refine Ev.step (fun k => ?_) hi2; rw [wicketlaw05_ours.l0, if_pos (by omega), if_pos (by omega), Option.bind_some, rdF hlt, if_pos (by rw [List.length_nil]; omega), if_pos (by rw [List.length_map, List.length_take]; omega), hn]; rfl
theorem ours_ev {l : List FilD} (hB : FsB l) : Ev (fun k => wicketlaw05_ours.f k l) (l.map toR) := ours_from hB l.length 0 (by omega)
theorem files_from {l : List FilD} (hl : l.length < 1073741824) (d : Nat) : ∀ i : Nat, i + d = l.length → Ev (fun k => wicketlaw05_files.l0 k l (l.map toR) (i : Int)) true := by
  induction d with
  | zero =>
    intro i hi; refine Ev.step (f := fun _ => some true) (fun k => ?_) (Ev.now _); rw [wicketlaw05_files.l0, if_neg (by omega)]
  | succ d ih =>
    intro i hi; have hlt : i < l.length := by omega
    have hn : wrap64 ((i : Int) + 1) = ((i + 1 : Nat) : Int) := by rw [w64D (by omega) (by omega)]; omega
    refine Ev.step (fun k => ?_) (ih (i + 1) (by omega)); rw [wicketlaw05_files.l0, if_pos (by omega), if_pos (by omega), if_pos (by rw [List.length_map]; omega), rdF hlt, rdRF hlt, if_pos (show l[i].f0.toList = (toR l[i]).f0.toList from rfl), if_pos (show (strOfNums l[i].f1).toList = (strOfNums (toR l[i]).f1).toList from rfl), hn]
theorem files_ev {l : List FilD} (hl : l.length < 1073741824) : Ev (fun k => wicketlaw05_files.f k l (l.map toR)) true :=
  Ev.congr (f := fun k => wicketlaw05_files.l0 k l (l.map toR) 0) (fun k => by show wicketlaw05_files.f k l (l.map toR) = _; rw [wicketlaw05_files.f, List.length_map, if_pos rfl]) (files_from hl l.length 0 (by omega))
theorem names_from {l : List ByteArray} (hl : l.length < 1073741824) (d : Nat) : ∀ i : Nat, i + d = l.length → Ev (fun k => wicketlaw05_names.l0 k l l (i : Int)) true := by
  induction d with
  | zero =>
    intro i hi; refine Ev.step (f := fun _ => some true) (fun k => ?_) (Ev.now _); rw [wicketlaw05_names.l0, if_neg (by omega)]
  | succ d ih =>
    intro i hi; have hn : wrap64 ((i : Int) + 1) = ((i + 1 : Nat) : Int) := by rw [w64D (by omega) (by omega)]; omega
    refine Ev.step (fun k => ?_) (ih (i + 1) (by omega)); rw [wicketlaw05_names.l0, if_pos (by omega), if_pos (by omega), if_pos (by omega), if_pos rfl, hn]
theorem names_ev {l : List ByteArray} (hl : l.length < 1073741824) : Ev (fun k => wicketlaw05_names.f k l l) true :=
  Ev.congr (f := fun k => wicketlaw05_names.l0 k l l 0) (fun k => by show wicketlaw05_names.f k l l = _; rw [wicketlaw05_names.f, if_pos rfl]) (names_from hl l.length 0 (by omega))
theorem ints_from {l : List Int} (hl : l.length < 1073741824) (d : Nat) : ∀ i : Nat, i + d = l.length → Ev (fun k => wicketlaw05_ints.l0 k l l (i : Int)) true := by
  induction d with
  | zero =>
    intro i hi; refine Ev.step (f := fun _ => some true) (fun k => ?_) (Ev.now _); rw [wicketlaw05_ints.l0, if_neg (by omega)]
  | succ d ih =>
    intro i hi; have hn : wrap64 ((i : Int) + 1) = ((i + 1 : Nat) : Int) := by rw [w64D (by omega) (by omega)]; omega
    refine Ev.step (fun k => ?_) (ih (i + 1) (by omega)); rw [wicketlaw05_ints.l0, if_pos (by omega), if_pos (by omega), if_pos (by omega), if_pos rfl, hn]
theorem ints_ev {l : List Int} (hl : l.length < 1073741824) : Ev (fun k => wicketlaw05_ints.f k l l) true :=
  Ev.congr (f := fun k => wicketlaw05_ints.l0 k l l 0) (fun k => by show wicketlaw05_ints.f k l l = _; rw [wicketlaw05_ints.f, if_pos rfl]) (ints_from hl l.length 0 (by omega))
theorem full_from {n : Nat} (hl : n < 1073741824) (d : Nat) : ∀ i : Nat, i + d = n → Ev (fun k => wicketlaw05_full.l0 k (n : Int) (List.replicate i 1099511627776) (i : Int)) (List.replicate n 1099511627776) := by
  induction d with
  | zero =>
    intro i hi; rw [show i = n by omega]; refine Ev.step (f := fun _ => some (List.replicate n 1099511627776)) (fun k => ?_) (Ev.now _); rw [wicketlaw05_full.l0, if_neg (by omega)]
  | succ d ih =>
    intro i hi; have hn : wrap64 ((i : Int) + 1) = ((i + 1 : Nat) : Int) := by rw [w64D (by omega) (by omega)]; omega
    have hi2 := ih (i + 1) (by omega); rw [List.replicate_succ'] at hi2; refine Ev.step (fun k => ?_) hi2; rw [wicketlaw05_full.l0, if_pos (by omega), if_pos (by rw [List.length_replicate]; omega), hn]
theorem full_ev {n : Nat} (hl : n < 1073741824) : Ev (fun k => wicketlaw05_full.f k (n : Int)) (List.replicate n 1099511627776) := full_from hl n 0 (by omega)
end Go.Proofs.Ytdekcjopgnfmdaa.Hand
namespace Go.Proofs.Ytdekcjopgnfmdaa.Hand
open Go.RowKit Go.Maps Go.Proofs.YtdekcjopgnfmdaaW.PrintWords Go.Proofs.YtdekcjopgnfmdaaW.PrintLast Go.Proofs.YtdekcjopgnfmdaaW.PrintMore Go.Proofs.Ytdekcjopgnfmdaa.Q
set_option linter.unusedVariables false
set_option linter.unusedSimpArgs false
structure StD where
  files : List FilD
  room : Int
  acts : List ActD
abbrev kStory : Kd StD := Kd.iso (Kd.pair (Kd.slice 65 kF) (Kd.pair (Kd.int .i64) (Kd.slice 55 kAct))) (fun x : StD => (x.files, x.room, x.acts))
abbrev FilW (x : FilD) : Prop := x.f0.size ≤ 9223372036854775807 ∧ ∀ t ∈ x.f1, (Lit.int .u8 t).wf = true
abbrev CrW (x : CrD) : Prop := i64ok x.1 ∧ ∀ t ∈ x.2, i64ok t
abbrev ActW (x : ActD) : Prop := i64ok x.kind ∧ x.name.size ≤ 9223372036854775807 ∧ x.dest.size ≤ 9223372036854775807 ∧ (∀ t ∈ x.p, (Lit.int .u8 t).wf = true) ∧ i64ok x.n ∧ CrW x.c
abbrev StW (x : StD) : Prop := (∀ f ∈ x.files, FilW f) ∧ i64ok x.room ∧ ∀ a ∈ x.acts, ActW a
abbrev bInts (l : List Int) : Nat := (l.map fun _ => 1).sum + 1
abbrev bFil (x : FilD) : Nat := ((x.f0.size + 1) + bInts x.f1) + 1
abbrev bCr (x : CrD) : Nat := (1 + bInts x.2) + 1
abbrev bAct (x : ActD) : Nat := (1 + ((x.name.size + 1) + ((x.dest.size + 1) + (bInts x.p + (1 + bCr x.c))))) + 1
abbrev bSt (x : StD) : Nat := (((x.files.map bFil).sum + 1) + (1 + ((x.acts.map bAct).sum + 1))) + 1
set_option maxRecDepth 100000 in
theorem fil_opens : Opens Try.prog 65 kF FilW bFil :=
  Opens.struct (total := 2) (fun x : FilD => (x.f0, x.f1)) (fun x => ⟨x.1, x.2⟩) (fun _ => rfl) Try.underlying65 (by kernel_rfl) (OpensFs.cons rfl (by kernel_rfl) (Opens.str Try.underlying9) (OpensFs.last rfl (by kernel_rfl) (by kernel_rfl) (Opens.slice Try.underlying53 (by kernel_rfl) (Opens.int .u8 Try.underlying5))))
set_option maxRecDepth 100000 in
theorem cr_opens : Opens Try.prog 37 kCr CrW bCr :=
  Opens.struct (total := 2) (fun x => x) (fun x => x) (fun _ => rfl) Try.underlying37 (by kernel_rfl) (OpensFs.cons rfl (by kernel_rfl) (Opens.int .i64 Try.underlying3) (OpensFs.last rfl (by kernel_rfl) (by kernel_rfl) (Opens.slice Try.underlying35 (by kernel_rfl) (Opens.int .i64 Try.underlying3))))
set_option maxRecDepth 100000 in
theorem act_opens : Opens Try.prog 55 kAct ActW bAct :=
  Opens.struct (total := 7) (fun x : ActD => (x.kind, x.name, x.dest, x.p, x.n, x.c)) (fun x => ⟨x.1, x.2.1, x.2.2.1, x.2.2.2.1, x.2.2.2.2.1, x.2.2.2.2.2⟩) (fun _ => rfl) Try.underlying55 (by kernel_rfl)
    (OpensFs.cons rfl (by kernel_rfl) (Opens.int .i64 Try.underlying3) (OpensFs.cons rfl (by kernel_rfl) (Opens.str Try.underlying9) (OpensFs.cons rfl (by kernel_rfl) (Opens.str Try.underlying9)
    (OpensFs.cons rfl (by kernel_rfl) (Opens.slice Try.underlying53 (by kernel_rfl) (Opens.int .u8 Try.underlying5)) (OpensFs.cons rfl (by kernel_rfl) (Opens.int .i64 Try.underlying3) (OpensFs.last rfl (by kernel_rfl) (by kernel_rfl) cr_opens))))))
set_option maxRecDepth 100000 in
theorem story_opens : Opens Try.prog 28 kStory StW bSt :=
  Opens.struct (total := 3) (fun x : StD => (x.files, x.room, x.acts)) (fun x => ⟨x.1, x.2.1, x.2.2⟩) (fun _ => rfl) Try.underlying28 (by kernel_rfl)
    (OpensFs.cons rfl (by kernel_rfl) (Opens.slice Try.underlying25 (by kernel_rfl) fil_opens) (OpensFs.cons rfl (by kernel_rfl) (Opens.int .i64 Try.underlying3) (OpensFs.last rfl (by kernel_rfl) (by kernel_rfl) (Opens.slice Try.underlying26 (by kernel_rfl) act_opens))))
theorem mem_sumL {α : Type} (f : α → Nat) : ∀ {l : List α} {x : α}, x ∈ l → f x ≤ (l.map f).sum
  | y :: l, x, h => by
    rw [List.map_cons, List.sum_cons]; rcases List.mem_cons.1 h with rfl | h
    · omega
    · have := mem_sumL f h; omega
theorem len_sumL {α : Type} (f : α → Nat) (hf : ∀ x, 1 ≤ f x) : ∀ l : List α, l.length ≤ (l.map f).sum
  | [] => Nat.le_refl _
  | y :: l => by
    rw [List.map_cons, List.sum_cons, List.length_cons]; have := len_sumL f hf l; have := hf y; omega
theorem bounds_i64 {x : Int} (h : (Lit.int .i64 x).wf = true) : -9223372036854775808 ≤ x ∧ x ≤ 9223372036854775807 := by
  simp only [Lit.wf, Bool.and_eq_true, decide_eq_true_eq, show IntKind.i64.min = -9223372036854775808 by decide, show IntKind.i64.max = 9223372036854775807 by decide] at h; exact h
theorem bounds_u8 {x : Int} (h : (Lit.int .u8 x).wf = true) : 0 ≤ x ∧ x ≤ 255 := by
  simp only [Lit.wf, Bool.and_eq_true, decide_eq_true_eq, show IntKind.u8.min = 0 by decide, show IntKind.u8.max = 255 by decide] at h; exact h
/-- What the walks ask of a failure, an act, a story. -/
structure CrB (x : CrD) : Prop where
  d : -9223372036854775808 ≤ x.1 ∧ x.1 ≤ 9223372036854775807
  t : ∀ t, t ∈ x.2 → -9223372036854775808 ≤ t ∧ t ≤ 9223372036854775807
  l : x.2.length ≤ 1048576
structure ActB (x : ActD) : Prop where
  name : x.name.size ≤ 9223372036854775807
  dest : x.dest.size ≤ 9223372036854775807
  p : ∀ t, t ∈ x.p → 0 ≤ t ∧ t ≤ 255
  pl : x.p.length ≤ 1048576
  n : -9223372036854775808 ≤ x.n ∧ x.n ≤ 9223372036854775807
  c : CrB x.c
structure StB (x : StD) : Prop where
  fl : x.files.length ≤ 1048576
  f : ∀ f, f ∈ x.files → FilOk f ∧ f.f1.length ≤ 1048576
  room : -9223372036854775808 ≤ x.room ∧ x.room ≤ 9223372036854775807
  al : x.acts.length ≤ 1048576
  a : ∀ a, a ∈ x.acts → ActB a
theorem CrB.of {x : CrD} (hw : CrW x) (hb : bCr x ≤ 1048576) : CrB x :=
  ⟨bounds_i64 hw.1, fun t ht => bounds_i64 (hw.2 t ht), by have := len_sumL (fun _ : Int => 1) (fun _ => Nat.le_refl _) x.2; unfold bCr bInts at hb; omega⟩
theorem ActB.of {x : ActD} (hw : ActW x) (hb : bAct x ≤ 1048576) : ActB x :=
  ⟨hw.2.1, hw.2.2.1, fun t ht => bounds_u8 (hw.2.2.2.1 t ht), by have := len_sumL (fun _ : Int => 1) (fun _ => Nat.le_refl _) x.p; unfold bAct bInts at hb; omega, bounds_i64 hw.2.2.2.2.1, CrB.of hw.2.2.2.2.2 (by unfold bAct at hb; omega)⟩
theorem StB.of {x : StD} (hw : StW x) (hb : bSt x ≤ 1048576) : StB x where
  fl := by have := len_sumL bFil (fun _ => by unfold bFil; omega) x.files; unfold bSt at hb; omega
  f := fun f hf => ⟨⟨(hw.1 f hf).1, fun t ht => bounds_u8 ((hw.1 f hf).2 t ht)⟩, by have := mem_sumL bFil hf; have := len_sumL (fun _ : Int => 1) (fun _ => Nat.le_refl _) f.f1; unfold bSt at hb; unfold bFil bInts at *; omega⟩
  room := bounds_i64 hw.2.1
  al := by have := len_sumL bAct (fun _ => by unfold bAct; omega) x.acts; unfold bSt at hb; omega
  a := fun a ha => ActB.of (hw.2.2 a ha) (by have := mem_sumL bAct ha; unfold bSt at hb; omega)
theorem StB.fsB {x : StD} (h : StB x) : FsB x.files := ⟨by have := h.fl; omega, fun f hf => by have := (h.f f hf).2; omega⟩
theorem kStory_open {w : World} {x : StD} {cs : List Value} (h : kStory.K w x cs) : ∃ A c A2 c2, cs = [.slice A x.files.length c, .int .i64 x.room, .slice A2 x.acts.length c2] ∧ x.files.length ≤ c ∧ Kd.C kF w A x.files.length x.files ∧ x.acts.length ≤ c2 ∧ Kd.C kAct w A2 x.acts.length x.acts := by
  obtain ⟨p1, q1, e1, ⟨A, c, h1, h2, h3⟩, p2, q2, e2, h4, A2, c2, h5, h6, h7⟩ := h; exact ⟨A, c, A2, c2, by rw [e1, h1, e2, h4, h5]; rfl, h2, h3, h6, h7⟩
def actz : ActD := ⟨0, ByteArray.empty, ByteArray.empty, [], 0, 0, []⟩
def actN (xs : List ActD) (i : Nat) : ActD := xs.getD i actz
theorem actN_mem {xs : List ActD} {i : Nat} (h : i < xs.length) : actN xs i ∈ xs := getD_mem h
/-- An act's seven cells. -/
abbrev actCells (x : ActD) (A : Option Addr) (c : Nat) (A2 : Option Addr) (c2 : Nat) : Array Value := #[.int .i64 x.kind, .string x.name, .string x.dest, .slice A x.p.length c, .int .i64 x.n, .int .i64 x.c.1, .slice A2 x.c.2.length c2]
theorem act_at {w : World} {A : Option Addr} {n : Nat} {xs : List ActD} (h : kAct.C w A n xs) (i : Nat) (h1 : i < n) : ∃ ad Ap cp Ac cc, A = some ad ∧ (actN xs i).p.length ≤ cp ∧ Kd.C kB w Ap (actN xs i).p.length (actN xs i).p ∧ (actN xs i).c.2.length ≤ cc ∧ Kd.C (Kd.int .i64) w Ac (actN xs i).c.2.length (actN xs i).c.2 ∧
    w.cell? (ad.add (i * 7)) = some (.int .i64 (actN xs i).kind) ∧ w.cell? ⟨(ad.add (i * 7)).block, (ad.add (i * 7)).off + 1, none⟩ = some (.string (actN xs i).name) ∧ w.cell? ⟨(ad.add (i * 7)).block, (ad.add (i * 7)).off + 2, none⟩ = some (.string (actN xs i).dest) ∧ w.cell? ⟨(ad.add (i * 7)).block, (ad.add (i * 7)).off + 3, none⟩ = some (.slice Ap (actN xs i).p.length cp) ∧ w.cell? ⟨(ad.add (i * 7)).block, (ad.add (i * 7)).off + 4, none⟩ = some (.int .i64 (actN xs i).n) ∧ w.cell? ⟨(ad.add (i * 7)).block, (ad.add (i * 7)).off + 5, none⟩ = some (.int .i64 (actN xs i).c.1) ∧ w.cell? ⟨(ad.add (i * 7)).block, (ad.add (i * 7)).off + 6, none⟩ = some (.slice Ac (actN xs i).c.2.length cc) := by
  obtain ⟨ad, c, e, _, hK, hc0⟩ := Kd.C_get h actz (i : Int) (by omega) (by omega); rw [Int.toNat_natCast] at hK hc0; have hc : ∀ j u, c[j]? = some u → w.cell? (ad.add (i * 7 + j)) = some u := hc0; obtain ⟨Ap, cp, Ac, cc, rfl, h2, h3, h4, h5⟩ := kAct_open hK; refine ⟨ad, Ap, cp, Ac, cc, e, h2, h3, h4, h5, hc 0 _ rfl, ?_, ?_, ?_, ?_, ?_, ?_⟩
  · rw [← add_field _ _ 1 (by omega)]; exact hc 1 _ rfl
  · rw [← add_field _ _ 2 (by omega)]; exact hc 2 _ rfl
  · rw [← add_field _ _ 3 (by omega)]; exact hc 3 _ rfl
  · rw [← add_field _ _ 4 (by omega)]; exact hc 4 _ rfl
  · rw [← add_field _ _ 5 (by omega)]; exact hc 5 _ rfl
  · rw [← add_field _ _ 6 (by omega)]; exact hc 6 _ rfl
/-- What an act does to a disk, and what it answers. -/
def oneS (S : DS) (a : ActD) : DS × Int :=
  if a.kind = 1 then opCreate S a.name else if a.kind = 2 then opAppend S a.name a.p else if a.kind = 3 then opSync S a.name else if a.kind = 4 then opRename S a.name a.dest else if a.kind = 5 then opRemove S a.name else opSyncDir S
def actS (S : DS) (a : ActD) : DS := if a.kind = 10 then opArm S a.n else if 1 ≤ a.kind ∧ a.kind ≤ 6 then (oneS S a).1 else S
end Go.Proofs.Ytdekcjopgnfmdaa.Hand
namespace Go.Proofs.Ytdekcjopgnfmdaa.Hand
open Go.RowKit Go.Maps Go.Proofs.YtdekcjopgnfmdaaW.PrintWords Go.Proofs.YtdekcjopgnfmdaaW.PrintLast Go.Proofs.YtdekcjopgnfmdaaW.PrintMore Go.Proofs.Ytdekcjopgnfmdaa.Q
set_option linter.unusedVariables false
set_option linter.unusedSimpArgs false
theorem R_base {α : Type} {d : Kd α} {e base n c : Nat} {w : World} {ok : Nat → Prop} {ad : Addr} {xs : List α} (h : Kd.R d e w base ok (.slice (some ad) n c) xs) : base ≤ ad.block := by
  obtain ⟨_, inner, ho, _⟩ := h; rcases ho.2 with h2 | ⟨g, cap, cur, hv, hg, _⟩
  · cases h2.1
  · cases hv; exact hg
def playN (x : StD) (i : Nat) : DS := (x.acts.take i).foldl actS (newOf x.room x.files).1
theorem playN_next (x : StD) (i : Nat) (h : i < x.acts.length) : playN x (i + 1) = actS (playN x i) (actN x.acts i) := by
  unfold playN; rw [List.take_succ_eq_append_getElem h, List.foldl_append]; unfold actN; rw [List.getD_eq_getElem?_getD, List.getElem?_eq_getElem h]; rfl
end Go.Proofs.Ytdekcjopgnfmdaa.Hand
namespace Go.Proofs.Ytdekcjopgnfmdaa.Hand
open Go.RowKit Go.Maps Go.Proofs.YtdekcjopgnfmdaaW.PrintWords Go.Proofs.YtdekcjopgnfmdaaW.PrintLast Go.Proofs.YtdekcjopgnfmdaaW.PrintMore Go.Proofs.Ytdekcjopgnfmdaa.Q
set_option linter.unusedVariables false
set_option linter.unusedSimpArgs false
/-! play -/
end Go.Proofs.Ytdekcjopgnfmdaa.Hand
namespace Go.Proofs.Ytdekcjopgnfmdaa.Hand
open Go.RowKit Go.Maps Go.Proofs.YtdekcjopgnfmdaaW.PrintWords Go.Proofs.YtdekcjopgnfmdaaW.PrintLast Go.Proofs.YtdekcjopgnfmdaaW.PrintMore Go.Proofs.Ytdekcjopgnfmdaa.Q
set_option linter.unusedVariables false
set_option linter.unusedSimpArgs false
theorem boxed (w : World) (o : Obj) : ∃ w1 B, w1 = w.alloc o ∧ B = w.heap.size ∧ w1.heap[B]? = some o ∧ Below w.heap.size w w1 ∧ w1.heap.size = w.heap.size + 1 := ⟨_, _, rfl, rfl, blk_new w o, below_alloc (Below.refl _ _) _, by simp⟩
theorem CrB.len8 {x : CrD} (h : CrB x) : x.2.length * 8 ≤ 140737488351232 := by have := h.l; omega
theorem leftOf_len (S : DS) (d : Int) (t : List Int) : (leftOf S d t).length = (leftD S d).length := by unfold leftOf; rw [List.length_map]
theorem lst_alive {S : DS} (h : S.dead = false) : lstOf S = S.dir.map (·.1) := by unfold lstOf; rw [h]; rfl
theorem conv_str {w : World} {A : Option Addr} {n c : Nat} {bs : List Int} (h : Kd.C kB w A n bs) : (convert 53 9 (.slice A n c)).run Try.prog w = .ok (.string (strOfNums bs)) w :=
  Kd.C_string (P := Try.prog) (c := c) Try.underlying53 Try.underlying5 Try.underlying9 h
end Go.Proofs.Ytdekcjopgnfmdaa.Hand
namespace Go.Proofs.Ytdekcjopgnfmdaa.Hand
open Go.RowKit Go.Maps Go.Proofs.YtdekcjopgnfmdaaW.PrintWords Go.Proofs.YtdekcjopgnfmdaaW.PrintLast Go.Proofs.YtdekcjopgnfmdaaW.PrintMore Go.Proofs.Ytdekcjopgnfmdaa.Q
set_option linter.unusedVariables false
set_option linter.unusedSimpArgs false
end Go.Proofs.Ytdekcjopgnfmdaa.Hand
namespace Go.Proofs.Ytdekcjopgnfmdaa.Hand
open Go.RowKit Go.Maps Go.Proofs.YtdekcjopgnfmdaaW.PrintWords Go.Proofs.YtdekcjopgnfmdaaW.PrintLast Go.Proofs.YtdekcjopgnfmdaaW.PrintMore Go.Proofs.Ytdekcjopgnfmdaa.Q
set_option linter.unusedVariables false
set_option linter.unusedSimpArgs false
end Go.Proofs.Ytdekcjopgnfmdaa.Hand
namespace Go.Proofs.Ytdekcjopgnfmdaa.Hand
open Go.RowKit Go.Maps Go.Proofs.YtdekcjopgnfmdaaW.PrintWords Go.Proofs.YtdekcjopgnfmdaaW.PrintLast Go.Proofs.YtdekcjopgnfmdaaW.PrintMore Go.Proofs.Ytdekcjopgnfmdaa.Q
set_option linter.unusedVariables false
set_option linter.unusedSimpArgs false
theorem Inv.fsB {S : DS} (hS : Inv S) (d : Int) (t : List Int) : FsB ((leftOf S d t).map mkF) := by
  have hk := leftD_ok hS (partI d S.chg.length).toNat; refine ⟨by rw [List.length_map, leftOf_len]; have := hk.2.1; show ((S.chg.take (partI d S.chg.length).toNat).foldl turn S.safe).length < _; omega, fun f hf => ?_⟩; obtain ⟨e, he, rfl⟩ := List.mem_map.1 hf; obtain ⟨z, hz, rfl⟩ := List.mem_map.1 he; have h1 := hk.2.2 z hz; have h2 := (hS.fil _ (fileOf_mem h1.1 h1.2.1)).1; show (List.take _ _).length < _; rw [List.length_take]; omega
end Go.Proofs.Ytdekcjopgnfmdaa.Hand
