/- Disk: the law's arguments taken apart. Disk: what the law's plain functions answer: copied, ours, files, names, full, begins, same. Disk: stories that come in, taken apart; one call that changes. Disk: what a story leaves of a disk. Disk: plain laws of what is played: how many files, what is left with everything kept. -/
import Derived.Test.YthmkdmdfahhpmaaDskMB
import Derived.Test.YthmkdmdfahhpmaaHOpens
import Derived.Test.YthmkdmdfahhpmaaDskO
namespace Go.Proofs.Ythmkdmdfahhpmaa.Hand
open Go.RowKit Go.Maps Go.Proofs.YthmkdmdfahhpmaaW.PrintWords Go.Proofs.YthmkdmdfahhpmaaW.PrintLast Go.Proofs.YthmkdmdfahhpmaaW.PrintMore Go.Proofs.Ythmkdmdfahhpmaa.Q
set_option linter.unusedVariables false
set_option linter.unusedSimpArgs false
/-- What a failure leaves. -/
abbrev CrD := Int × List Int
abbrev kCr : Kd CrD := Kd.iso (Kd.pair (Kd.int .i64) (Kd.slice 3 (Kd.int .i64))) (fun x => x)
structure ActD where
  kind : Int
  name : ByteArray
  dest : ByteArray
  p : List Int
  n : Int
  c : CrD
abbrev kAct : Kd ActD := Kd.iso (Kd.pair (Kd.int .i64) (Kd.pair Kd.string (Kd.pair Kd.string (Kd.pair (Kd.slice 5 (Kd.int .u8)) (Kd.pair (Kd.int .i64) kCr))))) (fun x : ActD => (x.kind, x.name, x.dest, x.p, x.n, x.c))
abbrev i64ok (n : Int) : Prop := (Lit.int .i64 n).wf = true
theorem crash_f {d : Int} {l : List Int} (h : l.length * 8 ≤ 140737488351232) : wicketlaw05_crash.f d l = some (d, l) := by
  unfold wicketlaw05_crash.f
  rw [Option.bind_some, if_pos (by rw [List.length_nil]; omega)]
  rfl
theorem num_f (n : Int) : wicketlaw05_num.f n = some n := rfl
theorem kCr_open {w : World} {x : CrD} {cs : List Value} (h : kCr.K w x cs) : ∃ A c, cs = [.int .i64 x.1, .slice A x.2.length c] ∧ x.2.length ≤ c ∧ Kd.C (Kd.int .i64) w A x.2.length x.2 := by
  obtain ⟨p1, p2, e1, h1, A, c, h2, h3, h4⟩ := h
  exact ⟨A, c, by rw [e1, h1, h2]; rfl, h3, h4⟩
theorem kAct_open {w : World} {x : ActD} {cs : List Value} (h : kAct.K w x cs) : ∃ A c A2 c2, cs = [.int .i64 x.kind, .string x.name, .string x.dest, .slice A x.p.length c, .int .i64 x.n, .int .i64 x.c.1, .slice A2 x.c.2.length c2] ∧ x.p.length ≤ c ∧ Kd.C kB w A x.p.length x.p ∧ x.c.2.length ≤ c2 ∧ Kd.C (Kd.int .i64) w A2 x.c.2.length x.c.2 := by
  obtain ⟨p1, q1, e1, h1, p2, q2, e2, h2, p3, q3, e3, h3, p4, q4, e4, ⟨A, c, h4, h5, h6⟩, p5, q5, e5, h7, h8⟩ := h
  obtain ⟨A2, c2, h9, h10, h11⟩ := kCr_open h8
  exact ⟨A, c, A2, c2, by rw [e1, h1, e2, h2, e3, h3, e4, h4, e5, h7, h9]; rfl, h5, h6, h10, h11⟩
end Go.Proofs.Ythmkdmdfahhpmaa.Hand
namespace Go.Proofs.Ythmkdmdfahhpmaa.Hand
open Go.RowKit Go.Maps Go.Proofs.YthmkdmdfahhpmaaW.PrintWords Go.Proofs.YthmkdmdfahhpmaaW.PrintLast Go.Proofs.YthmkdmdfahhpmaaW.PrintMore Go.Proofs.Ythmkdmdfahhpmaa.Q
set_option linter.unusedVariables false
set_option linter.unusedSimpArgs false
abbrev RefF := S101
abbrev kRF : Kd RefF := k101
def toR (x : FilD) : RefF := ⟨x.f0, x.f1⟩
/-- Files that may be copied. -/
def FsB (l : List FilD) : Prop := l.length < 1073741824 ∧ ∀ f, f ∈ l → f.f1.length < 1073741824
theorem rdF {l : List FilD} {i : Nat} (h : i < l.length) : rd_T65 l (i : Int) = l[i] := by
  unfold rd_T65
  rw [Int.toNat_natCast, List.getD_eq_getElem?_getD, List.getElem?_eq_getElem h]
  rfl
theorem rdRF {l : List FilD} {i : Nat} (h : i < l.length) : rd_T101 (l.map toR) (i : Int) = toR l[i] := by
  unfold rd_T101
  rw [Int.toNat_natCast, List.getD_eq_getElem?_getD, List.getElem?_eq_getElem (by rw [List.length_map]; exact h), List.getElem_map]
  rfl
theorem copied_from {l : List FilD} (hB : FsB l) (d : Nat) : ∀ i : Nat, i + d = l.length → Ev (fun k => wicketlaw05_copied.l0 k l (l.take i) (i : Int)) l := by
  have hB1 := hB.1
  induction d with
  | zero =>
    intro i hi
    rw [List.take_of_length_le (by omega)]
    refine Ev.step (f := fun _ => some l) (fun k => ?_) (Ev.now _)
    rw [wicketlaw05_copied.l0, if_neg (by omega)]
  | succ d ih =>
    intro i hi
    have hlt : i < l.length := by omega
    have hn : wrap64 ((i : Int) + 1) = ((i + 1 : Nat) : Int) := by rw [w64D (by omega) (by omega)]; omega
    have hf := hB.2 _ (List.getElem_mem hlt)
    have hi2 := ih (i + 1) (by omega)
    rw [List.take_succ_eq_append_getElem hlt] at hi2
    refine Ev.step (fun k => ?_) hi2
    rw [wicketlaw05_copied.l0, if_pos (by omega), if_pos (by omega), Option.bind_some, rdF hlt, if_pos (by rw [List.length_nil]; omega), if_pos (by rw [List.length_take]; omega), hn]
    rfl
theorem copied_ev {l : List FilD} (hB : FsB l) : Ev (fun k => wicketlaw05_copied.f k l) l := copied_from hB l.length 0 (by omega)
theorem ours_from {l : List FilD} (hB : FsB l) (d : Nat) : ∀ i : Nat, i + d = l.length → Ev (fun k => wicketlaw05_ours.l0 k l ((l.take i).map toR) (i : Int)) (l.map toR) := by
  have hB1 := hB.1
  induction d with
  | zero =>
    intro i hi
    rw [List.take_of_length_le (by omega)]
    refine Ev.step (f := fun _ => some (l.map toR)) (fun k => ?_) (Ev.now _)
    rw [wicketlaw05_ours.l0, if_neg (by omega)]
  | succ d ih =>
    intro i hi
    have hlt : i < l.length := by omega
    have hn : wrap64 ((i : Int) + 1) = ((i + 1 : Nat) : Int) := by rw [w64D (by omega) (by omega)]; omega
    have hf := hB.2 _ (List.getElem_mem hlt)
    have hi2 := ih (i + 1) (by omega)
    rw [List.take_succ_eq_append_getElem hlt, List.map_append] at hi2
    refine Ev.step (fun k => ?_) hi2
    rw [wicketlaw05_ours.l0, if_pos (by omega), if_pos (by omega), Option.bind_some, rdF hlt, if_pos (by rw [List.length_nil]; omega), if_pos (by rw [List.length_map, List.length_take]; omega), hn]
    rfl
theorem ours_ev {l : List FilD} (hB : FsB l) : Ev (fun k => wicketlaw05_ours.f k l) (l.map toR) := ours_from hB l.length 0 (by omega)
theorem files_from {l : List FilD} (hl : l.length < 1073741824) (d : Nat) : ∀ i : Nat, i + d = l.length → Ev (fun k => wicketlaw05_files.l0 k l (l.map toR) (i : Int)) true := by
  induction d with
  | zero =>
    intro i hi
    refine Ev.step (f := fun _ => some true) (fun k => ?_) (Ev.now _)
    rw [wicketlaw05_files.l0, if_neg (by omega)]
  | succ d ih =>
    intro i hi
    have hlt : i < l.length := by omega
    have hn : wrap64 ((i : Int) + 1) = ((i + 1 : Nat) : Int) := by rw [w64D (by omega) (by omega)]; omega
    refine Ev.step (fun k => ?_) (ih (i + 1) (by omega))
    rw [wicketlaw05_files.l0, if_pos (by omega), if_pos (by omega), if_pos (by rw [List.length_map]; omega), rdF hlt, rdRF hlt, if_pos (show l[i].f0.toList = (toR l[i]).f0.toList from rfl), if_pos (show (strOfNums l[i].f1).toList = (strOfNums (toR l[i]).f1).toList from rfl), hn]
theorem files_ev {l : List FilD} (hl : l.length < 1073741824) : Ev (fun k => wicketlaw05_files.f k l (l.map toR)) true :=
  Ev.congr (f := fun k => wicketlaw05_files.l0 k l (l.map toR) 0) (fun k => by show wicketlaw05_files.f k l (l.map toR) = _; rw [wicketlaw05_files.f, List.length_map, if_pos rfl]) (files_from hl l.length 0 (by omega))
theorem names_from {l : List ByteArray} (hl : l.length < 1073741824) (d : Nat) : ∀ i : Nat, i + d = l.length → Ev (fun k => wicketlaw05_names.l0 k l l (i : Int)) true := by
  induction d with
  | zero =>
    intro i hi
    refine Ev.step (f := fun _ => some true) (fun k => ?_) (Ev.now _)
    rw [wicketlaw05_names.l0, if_neg (by omega)]
  | succ d ih =>
    intro i hi
    have hn : wrap64 ((i : Int) + 1) = ((i + 1 : Nat) : Int) := by rw [w64D (by omega) (by omega)]; omega
    refine Ev.step (fun k => ?_) (ih (i + 1) (by omega))
    rw [wicketlaw05_names.l0, if_pos (by omega), if_pos (by omega), if_pos (by omega), if_pos rfl, hn]
theorem names_ev {l : List ByteArray} (hl : l.length < 1073741824) : Ev (fun k => wicketlaw05_names.f k l l) true :=
  Ev.congr (f := fun k => wicketlaw05_names.l0 k l l 0) (fun k => by show wicketlaw05_names.f k l l = _; rw [wicketlaw05_names.f, if_pos rfl]) (names_from hl l.length 0 (by omega))
theorem ints_from {l : List Int} (hl : l.length < 1073741824) (d : Nat) : ∀ i : Nat, i + d = l.length → Ev (fun k => wicketlaw05_ints.l0 k l l (i : Int)) true := by
  induction d with
  | zero =>
    intro i hi
    refine Ev.step (f := fun _ => some true) (fun k => ?_) (Ev.now _)
    rw [wicketlaw05_ints.l0, if_neg (by omega)]
  | succ d ih =>
    intro i hi
    have hn : wrap64 ((i : Int) + 1) = ((i + 1 : Nat) : Int) := by rw [w64D (by omega) (by omega)]; omega
    refine Ev.step (fun k => ?_) (ih (i + 1) (by omega))
    rw [wicketlaw05_ints.l0, if_pos (by omega), if_pos (by omega), if_pos (by omega), if_pos rfl, hn]
theorem ints_ev {l : List Int} (hl : l.length < 1073741824) : Ev (fun k => wicketlaw05_ints.f k l l) true :=
  Ev.congr (f := fun k => wicketlaw05_ints.l0 k l l 0) (fun k => by show wicketlaw05_ints.f k l l = _; rw [wicketlaw05_ints.f, if_pos rfl]) (ints_from hl l.length 0 (by omega))
theorem same_ev {l : List FilD} (hB : FsB l) : Ev (fun k => wicketlaw05_same.f k l l) true := by
  obtain ⟨K, h⟩ := ours_ev hB
  obtain ⟨K2, h2⟩ := files_ev hB.1
  exact ⟨max K K2, fun k hk => by
    show wicketlaw05_same.f k l l = _
    rw [wicketlaw05_same.f]
    have h3 := h k (by omega)
    have h4 := h2 k (by omega)
    simp only at h3 h4
    rw [h3, Option.bind_some, h4]
    rfl⟩
theorem full_from {n : Nat} (hl : n < 1073741824) (d : Nat) : ∀ i : Nat, i + d = n → Ev (fun k => wicketlaw05_full.l0 k (n : Int) (List.replicate i 1099511627776) (i : Int)) (List.replicate n 1099511627776) := by
  induction d with
  | zero =>
    intro i hi
    rw [show i = n by omega]
    refine Ev.step (f := fun _ => some (List.replicate n 1099511627776)) (fun k => ?_) (Ev.now _)
    rw [wicketlaw05_full.l0, if_neg (by omega)]
  | succ d ih =>
    intro i hi
    have hn : wrap64 ((i : Int) + 1) = ((i + 1 : Nat) : Int) := by rw [w64D (by omega) (by omega)]; omega
    have hi2 := ih (i + 1) (by omega)
    rw [List.replicate_succ'] at hi2
    refine Ev.step (fun k => ?_) hi2
    rw [wicketlaw05_full.l0, if_pos (by omega), if_pos (by rw [List.length_replicate]; omega), hn]
theorem full_ev {n : Nat} (hl : n < 1073741824) : Ev (fun k => wicketlaw05_full.f k (n : Int)) (List.replicate n 1099511627776) := full_from hl n 0 (by omega)
theorem begins_f {a b : List Int} {m : Nat} (h : a = b.take m) (hm : m ≤ b.length) : wicketlaw05_begins.f a b = some true := by
  subst h
  have h2 : (b.take m).length = m := by rw [List.length_take]; omega
  rw [wicketlaw05_begins.f, if_pos (by omega), if_pos (by omega), Int.toNat_natCast, h2, beq_self_eq_true]
end Go.Proofs.Ythmkdmdfahhpmaa.Hand
namespace Go.Proofs.Ythmkdmdfahhpmaa.Hand
open Go.RowKit Go.Maps Go.Proofs.YthmkdmdfahhpmaaW.PrintWords Go.Proofs.YthmkdmdfahhpmaaW.PrintLast Go.Proofs.YthmkdmdfahhpmaaW.PrintMore Go.Proofs.Ythmkdmdfahhpmaa.Q
set_option linter.unusedVariables false
set_option linter.unusedSimpArgs false
structure StD where
  files : List FilD
  room : Int
  acts : List ActD
abbrev kStory : Kd StD := Kd.iso (Kd.pair (Kd.slice 65 kF) (Kd.pair (Kd.int .i64) (Kd.slice 55 kAct))) (fun x : StD => (x.files, x.room, x.acts))
abbrev FilW (x : FilD) : Prop := x.f0.size ≤ 9223372036854775807 ∧ ∀ t ∈ x.f1, (Lit.int .u8 t).wf = true
abbrev CrW (x : CrD) : Prop := i64ok x.1 ∧ ∀ t ∈ x.2, i64ok t
abbrev ActW (x : ActD) : Prop := i64ok x.kind ∧ x.name.size ≤ 9223372036854775807 ∧ x.dest.size ≤ 9223372036854775807 ∧ (∀ t ∈ x.p, (Lit.int .u8 t).wf = true) ∧ i64ok x.n ∧ CrW x.c
abbrev StW (x : StD) : Prop := (∀ f ∈ x.files, FilW f) ∧ i64ok x.room ∧ ∀ a ∈ x.acts, ActW a
abbrev bInts (l : List Int) : Nat := (l.map fun _ => 1).sum + 1
abbrev bFil (x : FilD) : Nat := ((x.f0.size + 1) + bInts x.f1) + 1
abbrev bCr (x : CrD) : Nat := (1 + bInts x.2) + 1
abbrev bAct (x : ActD) : Nat := (1 + ((x.name.size + 1) + ((x.dest.size + 1) + (bInts x.p + (1 + bCr x.c))))) + 1
abbrev bSt (x : StD) : Nat := (((x.files.map bFil).sum + 1) + (1 + ((x.acts.map bAct).sum + 1))) + 1
set_option maxRecDepth 100000 in
theorem fil_opens : Opens Try.prog 65 kF FilW bFil :=
  Opens.struct (total := 2) (fun x : FilD => (x.f0, x.f1)) (fun x => ⟨x.1, x.2⟩) (fun _ => rfl) Try.underlying65 (by kernel_rfl) (OpensFs.cons rfl (by kernel_rfl) (Opens.str Try.underlying9) (OpensFs.last rfl (by kernel_rfl) (by kernel_rfl) (Opens.slice Try.underlying53 (by kernel_rfl) (Opens.int .u8 Try.underlying5))))
set_option maxRecDepth 100000 in
theorem cr_opens : Opens Try.prog 35 kCr CrW bCr :=
  Opens.struct (total := 2) (fun x => x) (fun x => x) (fun _ => rfl) Try.underlying35 (by kernel_rfl) (OpensFs.cons rfl (by kernel_rfl) (Opens.int .i64 Try.underlying3) (OpensFs.last rfl (by kernel_rfl) (by kernel_rfl) (Opens.slice Try.underlying33 (by kernel_rfl) (Opens.int .i64 Try.underlying3))))
set_option maxRecDepth 100000 in
theorem act_opens : Opens Try.prog 55 kAct ActW bAct :=
  Opens.struct (total := 7) (fun x : ActD => (x.kind, x.name, x.dest, x.p, x.n, x.c)) (fun x => ⟨x.1, x.2.1, x.2.2.1, x.2.2.2.1, x.2.2.2.2.1, x.2.2.2.2.2⟩) (fun _ => rfl) Try.underlying55 (by kernel_rfl)
    (OpensFs.cons rfl (by kernel_rfl) (Opens.int .i64 Try.underlying3) (OpensFs.cons rfl (by kernel_rfl) (Opens.str Try.underlying9) (OpensFs.cons rfl (by kernel_rfl) (Opens.str Try.underlying9)
    (OpensFs.cons rfl (by kernel_rfl) (Opens.slice Try.underlying53 (by kernel_rfl) (Opens.int .u8 Try.underlying5)) (OpensFs.cons rfl (by kernel_rfl) (Opens.int .i64 Try.underlying3) (OpensFs.last rfl (by kernel_rfl) (by kernel_rfl) cr_opens))))))
set_option maxRecDepth 100000 in
theorem story_opens : Opens Try.prog 25 kStory StW bSt :=
  Opens.struct (total := 3) (fun x : StD => (x.files, x.room, x.acts)) (fun x => ⟨x.1, x.2.1, x.2.2⟩) (fun _ => rfl) Try.underlying25 (by kernel_rfl)
    (OpensFs.cons rfl (by kernel_rfl) (Opens.slice Try.underlying22 (by kernel_rfl) fil_opens) (OpensFs.cons rfl (by kernel_rfl) (Opens.int .i64 Try.underlying3) (OpensFs.last rfl (by kernel_rfl) (by kernel_rfl) (Opens.slice Try.underlying23 (by kernel_rfl) act_opens))))
theorem mem_sumL {α : Type} (f : α → Nat) : ∀ {l : List α} {x : α}, x ∈ l → f x ≤ (l.map f).sum
  | y :: l, x, h => by
    rw [List.map_cons, List.sum_cons]
    rcases List.mem_cons.1 h with rfl | h
    · omega
    · have := mem_sumL f h; omega
theorem len_sumL {α : Type} (f : α → Nat) (hf : ∀ x, 1 ≤ f x) : ∀ l : List α, l.length ≤ (l.map f).sum
  | [] => Nat.le_refl _
  | y :: l => by
    rw [List.map_cons, List.sum_cons, List.length_cons]
    have := len_sumL f hf l
    have := hf y
    omega
theorem bounds_i64 {x : Int} (h : (Lit.int .i64 x).wf = true) : -9223372036854775808 ≤ x ∧ x ≤ 9223372036854775807 := by
  simp only [Lit.wf, Bool.and_eq_true, decide_eq_true_eq, show IntKind.i64.min = -9223372036854775808 by decide, show IntKind.i64.max = 9223372036854775807 by decide] at h
  exact h
theorem bounds_u8 {x : Int} (h : (Lit.int .u8 x).wf = true) : 0 ≤ x ∧ x ≤ 255 := by
  simp only [Lit.wf, Bool.and_eq_true, decide_eq_true_eq, show IntKind.u8.min = 0 by decide, show IntKind.u8.max = 255 by decide] at h
  exact h
/-- What the walks ask of a failure, an act, a story. -/
structure CrB (x : CrD) : Prop where
  d : -9223372036854775808 ≤ x.1 ∧ x.1 ≤ 9223372036854775807
  t : ∀ t, t ∈ x.2 → -9223372036854775808 ≤ t ∧ t ≤ 9223372036854775807
  l : x.2.length ≤ 1048576
structure ActB (x : ActD) : Prop where
  name : x.name.size ≤ 9223372036854775807
  dest : x.dest.size ≤ 9223372036854775807
  p : ∀ t, t ∈ x.p → 0 ≤ t ∧ t ≤ 255
  pl : x.p.length ≤ 1048576
  n : -9223372036854775808 ≤ x.n ∧ x.n ≤ 9223372036854775807
  c : CrB x.c
structure StB (x : StD) : Prop where
  fl : x.files.length ≤ 1048576
  f : ∀ f, f ∈ x.files → FilOk f ∧ f.f1.length ≤ 1048576
  room : -9223372036854775808 ≤ x.room ∧ x.room ≤ 9223372036854775807
  al : x.acts.length ≤ 1048576
  a : ∀ a, a ∈ x.acts → ActB a
theorem CrB.of {x : CrD} (hw : CrW x) (hb : bCr x ≤ 1048576) : CrB x :=
  ⟨bounds_i64 hw.1, fun t ht => bounds_i64 (hw.2 t ht), by have := len_sumL (fun _ : Int => 1) (fun _ => Nat.le_refl _) x.2; unfold bCr bInts at hb; omega⟩
theorem ActB.of {x : ActD} (hw : ActW x) (hb : bAct x ≤ 1048576) : ActB x :=
  ⟨hw.2.1, hw.2.2.1, fun t ht => bounds_u8 (hw.2.2.2.1 t ht), by have := len_sumL (fun _ : Int => 1) (fun _ => Nat.le_refl _) x.p; unfold bAct bInts at hb; omega, bounds_i64 hw.2.2.2.2.1, CrB.of hw.2.2.2.2.2 (by unfold bAct at hb; omega)⟩
theorem StB.of {x : StD} (hw : StW x) (hb : bSt x ≤ 1048576) : StB x where
  fl := by have := len_sumL bFil (fun _ => by unfold bFil; omega) x.files; unfold bSt at hb; omega
  f := fun f hf => ⟨⟨(hw.1 f hf).1, fun t ht => bounds_u8 ((hw.1 f hf).2 t ht)⟩, by have := mem_sumL bFil hf; have := len_sumL (fun _ : Int => 1) (fun _ => Nat.le_refl _) f.f1; unfold bSt at hb; unfold bFil bInts at *; omega⟩
  room := bounds_i64 hw.2.1
  al := by have := len_sumL bAct (fun _ => by unfold bAct; omega) x.acts; unfold bSt at hb; omega
  a := fun a ha => ActB.of (hw.2.2 a ha) (by have := mem_sumL bAct ha; unfold bSt at hb; omega)
theorem StB.fsB {x : StD} (h : StB x) : FsB x.files := ⟨by have := h.fl; omega, fun f hf => by have := (h.f f hf).2; omega⟩
theorem kStory_open {w : World} {x : StD} {cs : List Value} (h : kStory.K w x cs) : ∃ A c A2 c2, cs = [.slice A x.files.length c, .int .i64 x.room, .slice A2 x.acts.length c2] ∧ x.files.length ≤ c ∧ Kd.C kF w A x.files.length x.files ∧ x.acts.length ≤ c2 ∧ Kd.C kAct w A2 x.acts.length x.acts := by
  obtain ⟨p1, q1, e1, ⟨A, c, h1, h2, h3⟩, p2, q2, e2, h4, A2, c2, h5, h6, h7⟩ := h
  exact ⟨A, c, A2, c2, by rw [e1, h1, e2, h4, h5]; rfl, h2, h3, h6, h7⟩
def actz : ActD := ⟨0, ByteArray.empty, ByteArray.empty, [], 0, 0, []⟩
def actN (xs : List ActD) (i : Nat) : ActD := xs.getD i actz
theorem actN_mem {xs : List ActD} {i : Nat} (h : i < xs.length) : actN xs i ∈ xs := getD_mem h
/-- An act's seven cells. -/
abbrev actCells (x : ActD) (A : Option Addr) (c : Nat) (A2 : Option Addr) (c2 : Nat) : Array Value := #[.int .i64 x.kind, .string x.name, .string x.dest, .slice A x.p.length c, .int .i64 x.n, .int .i64 x.c.1, .slice A2 x.c.2.length c2]
theorem act_at {w : World} {A : Option Addr} {n : Nat} {xs : List ActD} (h : kAct.C w A n xs) (i : Nat) (h1 : i < n) : ∃ ad Ap cp Ac cc, A = some ad ∧ (actN xs i).p.length ≤ cp ∧ Kd.C kB w Ap (actN xs i).p.length (actN xs i).p ∧ (actN xs i).c.2.length ≤ cc ∧ Kd.C (Kd.int .i64) w Ac (actN xs i).c.2.length (actN xs i).c.2 ∧
    w.cell? (ad.add (i * 7)) = some (.int .i64 (actN xs i).kind) ∧ w.cell? ⟨(ad.add (i * 7)).block, (ad.add (i * 7)).off + 1, none⟩ = some (.string (actN xs i).name) ∧ w.cell? ⟨(ad.add (i * 7)).block, (ad.add (i * 7)).off + 2, none⟩ = some (.string (actN xs i).dest) ∧ w.cell? ⟨(ad.add (i * 7)).block, (ad.add (i * 7)).off + 3, none⟩ = some (.slice Ap (actN xs i).p.length cp) ∧ w.cell? ⟨(ad.add (i * 7)).block, (ad.add (i * 7)).off + 4, none⟩ = some (.int .i64 (actN xs i).n) ∧ w.cell? ⟨(ad.add (i * 7)).block, (ad.add (i * 7)).off + 5, none⟩ = some (.int .i64 (actN xs i).c.1) ∧ w.cell? ⟨(ad.add (i * 7)).block, (ad.add (i * 7)).off + 6, none⟩ = some (.slice Ac (actN xs i).c.2.length cc) := by
  obtain ⟨ad, c, e, _, hK, hc0⟩ := Kd.C_get h actz (i : Int) (by omega) (by omega)
  rw [Int.toNat_natCast] at hK hc0
  have hc : ∀ j u, c[j]? = some u → w.cell? (ad.add (i * 7 + j)) = some u := hc0
  obtain ⟨Ap, cp, Ac, cc, rfl, h2, h3, h4, h5⟩ := kAct_open hK
  refine ⟨ad, Ap, cp, Ac, cc, e, h2, h3, h4, h5, hc 0 _ rfl, ?_, ?_, ?_, ?_, ?_, ?_⟩
  · rw [← add_field _ _ 1 (by omega)]; exact hc 1 _ rfl
  · rw [← add_field _ _ 2 (by omega)]; exact hc 2 _ rfl
  · rw [← add_field _ _ 3 (by omega)]; exact hc 3 _ rfl
  · rw [← add_field _ _ 4 (by omega)]; exact hc 4 _ rfl
  · rw [← add_field _ _ 5 (by omega)]; exact hc 5 _ rfl
  · rw [← add_field _ _ 6 (by omega)]; exact hc 6 _ rfl
/-- What an act does to a disk, and what it answers. -/
def oneS (S : DS) (a : ActD) : DS × Int :=
  if a.kind = 1 then opCreate S a.name else if a.kind = 2 then opAppend S a.name a.p else if a.kind = 3 then opSync S a.name else if a.kind = 4 then opRename S a.name a.dest else if a.kind = 5 then opRemove S a.name else opSyncDir S
def actS (S : DS) (a : ActD) : DS := if a.kind = 10 then opArm S a.n else if 1 ≤ a.kind ∧ a.kind ≤ 6 then (oneS S a).1 else S
end Go.Proofs.Ythmkdmdfahhpmaa.Hand
namespace Go.Proofs.Ythmkdmdfahhpmaa.Hand
open Go.RowKit Go.Maps Go.Proofs.YthmkdmdfahhpmaaW.PrintWords Go.Proofs.YthmkdmdfahhpmaaW.PrintLast Go.Proofs.YthmkdmdfahhpmaaW.PrintMore Go.Proofs.Ythmkdmdfahhpmaa.Q
set_option linter.unusedVariables false
set_option linter.unusedSimpArgs false
theorem R_base {α : Type} {d : Kd α} {e base n c : Nat} {w : World} {ok : Nat → Prop} {ad : Addr} {xs : List α} (h : Kd.R d e w base ok (.slice (some ad) n c) xs) : base ≤ ad.block := by
  obtain ⟨_, inner, ho, _⟩ := h
  rcases ho.2 with h2 | ⟨g, cap, cur, hv, hg, _⟩
  · cases h2.1
  · cases hv; exact hg
def playS (x : StD) : DS := x.acts.foldl actS (newOf x.room x.files).1
def playN (x : StD) (i : Nat) : DS := (x.acts.take i).foldl actS (newOf x.room x.files).1
theorem playN_next (x : StD) (i : Nat) (h : i < x.acts.length) : playN x (i + 1) = actS (playN x i) (actN x.acts i) := by
  unfold playN
  rw [List.take_succ_eq_append_getElem h, List.foldl_append]
  unfold actN
  rw [List.getD_eq_getElem?_getD, List.getElem?_eq_getElem h]
  rfl
theorem playN_all (x : StD) : playN x x.acts.length = playS x := by unfold playN; rw [List.take_length]; rfl
end Go.Proofs.Ythmkdmdfahhpmaa.Hand
namespace Go.Proofs.Ythmkdmdfahhpmaa.Hand
open Go.RowKit Go.Maps Go.Proofs.YthmkdmdfahhpmaaW.PrintWords Go.Proofs.YthmkdmdfahhpmaaW.PrintLast Go.Proofs.YthmkdmdfahhpmaaW.PrintMore Go.Proofs.Ythmkdmdfahhpmaa.Q
set_option linter.unusedVariables false
set_option linter.unusedSimpArgs false
theorem boxed (w : World) (o : Obj) : ∃ w1 B, w1 = w.alloc o ∧ B = w.heap.size ∧ w1.heap[B]? = some o ∧ Below w.heap.size w w1 ∧ w1.heap.size = w.heap.size + 1 := ⟨_, _, rfl, rfl, blk_new w o, below_alloc (Below.refl _ _) _, by simp⟩
theorem CrB.len8 {x : CrD} (h : CrB x) : x.2.length * 8 ≤ 140737488351232 := by have := h.l; omega
theorem goes_files (S : DS) : (goes S).1.files = S.files := by rcases goes_cases S with ⟨_, _, e⟩ | ⟨_, _, e⟩ | ⟨_, e⟩ <;> rw [e]
theorem ifGoes_files {S : DS} {k : DS → DS} {n : Nat} (hk : (k (goes S).1).files.length ≤ (goes S).1.files.length + n) : (ifGoes S k).1.files.length ≤ S.files.length + n := by
  unfold ifGoes
  rw [← goes_files S]
  split
  · exact hk
  · exact Nat.le_add_right _ _
theorem setFil_len (S : DS) (i : Int) (f : Fil) : (setFil S i f).files.length = S.files.length := List.length_set
theorem oneS_files (S : DS) (a : ActD) : (oneS S a).1.files.length ≤ S.files.length + 1 := by
  have hr : S.files.length ≤ S.files.length + 1 := Nat.le_succ _
  unfold oneS
  split
  · unfold opCreate
    repeat' split
    all_goals first | exact hr | skip
    exact ifGoes_files (by show ((goes S).1.files ++ [_]).length ≤ _; rw [List.length_append]; exact Nat.le_refl _)
  split
  · unfold opAppend
    repeat' split
    all_goals first | exact hr | skip
    exact ifGoes_files (by rw [setFil_len]; omega)
  split
  · unfold opSync
    repeat' split
    all_goals first | exact hr | skip
    exact ifGoes_files (by rw [setFil_len]; omega)
  split
  · unfold opRename
    repeat' split
    all_goals first | exact hr | skip
    all_goals exact ifGoes_files (Nat.le_succ _)
  split
  · unfold opRemove
    repeat' split
    all_goals first | exact hr | skip
    exact ifGoes_files (Nat.le_succ _)
  · unfold opSyncDir
    repeat' split
    all_goals first | exact hr | skip
    exact ifGoes_files (Nat.le_succ _)
theorem actS_files (S : DS) (a : ActD) : (actS S a).files.length ≤ S.files.length + 1 := by
  unfold actS
  split
  · unfold opArm
    split
    · exact Nat.le_succ _
    · exact Nat.le_succ _
  split
  · exact oneS_files S a
  · exact Nat.le_succ _
theorem foldl_files : ∀ (l : List ActD) (S : DS), (l.foldl actS S).files.length ≤ S.files.length + l.length
  | [], S => Nat.le_refl _
  | a :: l, S => by
    have h1 := foldl_files l (actS S a)
    have h2 := actS_files S a
    rw [List.foldl_cons, List.length_cons]
    omega
theorem newGo_files : ∀ (l : List FilD) (S : DS), (newGo S l).1.files.length ≤ S.files.length + l.length
  | [], S => Nat.le_refl _
  | f :: l, S => by
    unfold newGo
    split
    · exact Nat.le_add_right _ _
    · have h1 := newGo_files l (newAdd S f)
      have h2 : (newAdd S f).files.length = S.files.length + 1 := by
        show (S.files ++ [_]).length = _
        rw [List.length_append]; rfl
      rw [List.length_cons]
      omega
theorem newOf_files (room : Int) (l : List FilD) : (newOf room l).1.files.length ≤ l.length := by
  unfold newOf
  split
  · exact Nat.zero_le _
  split
  · exact Nat.zero_le _
  · have h := newGo_files l (ds0 room)
    have h0 : (ds0 room).files.length = 0 := rfl
    unfold newEnd
    split
    · omega
    split
    · show (newGo (ds0 room) l).1.files.length ≤ _; omega
    · show (newGo (ds0 room) l).1.files.length ≤ _; omega
theorem playS_files (x : StD) : (playS x).files.length ≤ x.files.length + x.acts.length := by
  have h1 := foldl_files x.acts (newOf x.room x.files).1
  have h2 := newOf_files x.room x.files
  unfold playS
  omega
theorem Inv.fileB {S : DS} (h : Inv S) {e : Ent} (he : e ∈ S.dir) : (fileOf S e.2).1.length ≤ 4194304 ∧ 0 ≤ (fileOf S e.2).2 ∧ (fileOf S e.2).2 ≤ (fileOf S e.2).1.length ∧ ∀ x, x ∈ (fileOf S e.2).1 → 0 ≤ x ∧ x ≤ 255 := by
  have h1 := h.okD e he
  exact h.fil _ (fileOf_mem h1.1 h1.2.1)
theorem leftD_all {S : DS} (h : Inv S) : leftD S 1099511627776 = S.dir := by
  unfold leftD
  have h1 := h.lenC
  have h2 := h.opsB
  have h3 : partI 1099511627776 (S.chg.length : Int) = (S.chg.length : Int) := by
    unfold partI
    rw [if_neg (by decide), if_pos (by omega)]
  rw [h3, Int.toNat_natCast, List.take_length, h.hist]
theorem leftOf_len (S : DS) (d : Int) (t : List Int) : (leftOf S d t).length = (leftD S d).length := by unfold leftOf; rw [List.length_map]
/-- What is left with all changes, entry by entry. -/
theorem left_at {S : DS} (h : Inv S) (t : List Int) {i : Nat} (hi : i < S.dir.length) : ((leftOf S 1099511627776 t).map mkF).getD i z65 = ⟨S.dir[i].1, (leftF S t S.dir[i]).2⟩ := by
  have h1 : (leftOf S 1099511627776 t).map mkF = S.dir.map fun e => mkF (leftF S t e) := by
    unfold leftOf
    rw [leftD_all h, List.map_map]
    rfl
  rw [h1, List.getD_eq_getElem?_getD, List.getElem?_map, List.getElem?_eq_getElem hi]
  rfl
theorem leftF_all {S : DS} (h : Inv S) {e : Ent} (he : e ∈ S.dir) {n : Nat} (hn : S.files.length ≤ n) : (leftF S (List.replicate n 1099511627776) e).2 = (fileOf S e.2).1 := by
  have h1 := h.okD e he
  have h2 := h.fileB he
  unfold leftF
  dsimp only
  rw [if_pos (by rw [List.length_replicate]; omega)]
  have h3 : (List.replicate n (1099511627776 : Int)).getD e.2.toNat 0 = 1099511627776 := by
    rw [List.getD_eq_getElem?_getD, List.getElem?_eq_getElem (by rw [List.length_replicate]; omega), List.getElem_replicate]
    rfl
  rw [h3]
  have h4 : partI 1099511627776 (((fileOf S e.2).1.length : Int) - (fileOf S e.2).2) = ((fileOf S e.2).1.length : Int) - (fileOf S e.2).2 := by
    unfold partI
    rw [if_neg (by decide), if_pos (by omega)]
  rw [h4, show (fileOf S e.2).2 + (((fileOf S e.2).1.length : Int) - (fileOf S e.2).2) = ((fileOf S e.2).1.length : Int) by omega, Int.toNat_natCast, List.take_length]
/-- What is kept of a file is a beginning, the synced bytes among it. -/
theorem leftF_take {S : DS} (h : Inv S) {e : Ent} (he : e ∈ S.dir) (t : List Int) : ∃ m, (fileOf S e.2).2.toNat ≤ m ∧ m ≤ (fileOf S e.2).1.length ∧ (leftF S t e).2 = (fileOf S e.2).1.take m := by
  have h2 := h.fileB he
  unfold leftF
  dsimp only
  refine ⟨_, ?_, ?_, rfl⟩
  · have : 0 ≤ (if e.2 < (t.length : Int) then partI (t.getD e.2.toNat 0) (((fileOf S e.2).1.length : Int) - (fileOf S e.2).2) else 0) := by
      split
      · unfold partI
        split
        · exact Int.le_refl _
        split <;> omega
      · exact Int.le_refl _
    omega
  · have : (if e.2 < (t.length : Int) then partI (t.getD e.2.toNat 0) (((fileOf S e.2).1.length : Int) - (fileOf S e.2).2) else 0) ≤ ((fileOf S e.2).1.length : Int) - (fileOf S e.2).2 := by
      split
      · unfold partI
        split
        · omega
        split <;> omega
      · omega
    omega
theorem leftF_none {S : DS} (h : Inv S) {e : Ent} (he : e ∈ S.dir) : (leftF S [] e).2 = (fileOf S e.2).1.take (fileOf S e.2).2.toNat := by
  have h1 := h.okD e he
  unfold leftF
  dsimp only
  rw [if_neg (by rw [List.length_nil]; omega), Int.add_zero]
theorem lst_alive {S : DS} (h : S.dead = false) : lstOf S = S.dir.map (·.1) := by unfold lstOf; rw [h]; rfl
theorem rd_at {S : DS} (h : Inv S) (hd : S.dead = false) {i : Nat} (hi : i < S.dir.length) : rdFile S S.dir[i].1 = ((fileOf S S.dir[i].2).1, 0) := by
  unfold rdFile
  rw [hd, has_in h.srtD.nodup (List.getElem_mem hi) rfl]
  rfl
theorem names_at {S : DS} {i : Nat} (hi : i < S.dir.length) : (S.dir.map (·.1)).getD i ⟨#[]⟩ = S.dir[i].1 := by
  rw [List.getD_eq_getElem?_getD, List.getElem?_map, List.getElem?_eq_getElem hi]
  rfl
theorem entry_all {S : DS} (h : Inv S) (hd : S.dead = false) {n i : Nat} (hn : S.files.length ≤ n) (hi : i < S.dir.length) : ∃ nmi bs, (S.dir.map (·.1)).getD i ⟨#[]⟩ = nmi ∧ rdFile S nmi = (bs, 0) ∧ nmi.size ≤ 32 ∧ bs.length ≤ 4194304 ∧ ((leftOf S 1099511627776 (List.replicate n 1099511627776)).map mkF).getD i z65 = ⟨nmi, bs⟩ :=
  ⟨_, _, names_at hi, rd_at h hd hi, (h.okD _ (List.getElem_mem hi)).2.2.2, (h.fileB (List.getElem_mem hi)).1, by rw [left_at h _ hi, leftF_all h (List.getElem_mem hi) hn]⟩
theorem conv_str {w : World} {A : Option Addr} {n c : Nat} {bs : List Int} (h : Kd.C kB w A n bs) : (convert 53 9 (.slice A n c)).run Try.prog w = .ok (.string (strOfNums bs)) w :=
  Kd.C_string (P := Try.prog) (c := c) Try.underlying53 Try.underlying5 Try.underlying9 h
theorem entry_tail {S : DS} (h : Inv S) (t : List Int) {n i : Nat} (hn : S.files.length ≤ n) (hi : i < S.dir.length) : ∃ nmi b0 b1 b2, (S.dir.map (·.1)).getD i ⟨#[]⟩ = nmi ∧ ((leftOf S 1099511627776 []).map mkF).getD i z65 = ⟨nmi, b0⟩ ∧ ((leftOf S 1099511627776 t).map mkF).getD i z65 = ⟨nmi, b1⟩ ∧
    ((leftOf S 1099511627776 (List.replicate n 1099511627776)).map mkF).getD i z65 = ⟨nmi, b2⟩ ∧ wicketlaw05_begins.f b0 b1 = some true ∧ wicketlaw05_begins.f b1 b2 = some true := by
  have he := List.getElem_mem hi
  obtain ⟨m, h1, h2, h3⟩ := leftF_take h he t
  have hb := h.fileB he
  refine ⟨_, _, _, _, names_at hi, left_at h _ hi, left_at h _ hi, left_at h _ hi, ?_, ?_⟩
  · rw [leftF_none h he, h3]
    refine begins_f (m := (fileOf S S.dir[i].2).2.toNat) ?_ ?_
    · rw [List.take_take, Nat.min_eq_left h1]
    · rw [List.length_take]; omega
  · rw [h3, leftF_all h he hn]
    exact begins_f rfl h2
/-- A box of the law's own is written beside the disk. -/
theorem OwnD.put {w wb wr : World} {d : Nat} {S : DS} (h : OwnD wb wr d S) (hwb : Below w.heap.size w wb) (p : Addr) (v : Value) (h1 : w.heap.size ≤ p.block) (h2 : p.block < wb.heap.size) : OwnD w (wr.setCell p v) d S := by
  obtain ⟨F, a, b, c⟩ := h
  have hk := (KeptL.refl (fun k => k = p.block) wr).setCell p v (.inl rfl)
  exact ⟨F, a.kept hk (fun k hk e => by have := b k hk; omega), fun k hk => Nat.le_trans hwb.size (b k hk), (hwb.trans (c.mono hwb.size)).trans (hk.below (Nat.le_trans hwb.size c.size) (fun b hb => by rw [hb]; exact h1))⟩
theorem R_put {α : Type} {d : Kd α} {e base : Nat} {w : World} {v : Value} {xs : List α} (h : Kd.R d e w base (fun _ => True) v xs) (p : Addr) (u : Value) (hp : p.block < base) : Kd.R d e (w.setCell p u) base (fun _ => True) v xs :=
  Kd.R_mono (Kd.R_far (Kd.R_mono (Kd.R_bound h) (ok' := fun k => k ≠ p.block) (fun k hk e => by have := hk.2.1; omega)) (p := p) (fun k hk => hk) u) (fun _ _ => trivial)
/-- A file of a row: its name, its bytes. -/
theorem file_at {w : World} {A : Option Addr} {n : Nat} {xs : List FilD} {x : FilD} (h : Kd.C kF w A n xs) (i : Nat) (h1 : i < xs.length) (hx : xs.getD i z65 = x) : ∃ ad A1 c1, A = some ad ∧ w.cell? (ad.add (i * 2)) = some (.string x.f0) ∧ w.cell? ⟨(ad.add (i * 2)).block, (ad.add (i * 2)).off + 1, none⟩ = some (.slice A1 x.f1.length c1) ∧ x.f1.length ≤ c1 ∧ Kd.C kB w A1 x.f1.length x.f1 := by
  have hn : xs.length = n := h.1
  obtain ⟨ad, A1, c1, h2, h3, h4, h5, h6⟩ := at_T65 h (i : Int) (by omega) (by omega)
  have e : rd_T65 xs (i : Int) = x := by rw [← hx]; rfl
  rw [e, Int.toNat_natCast] at h3 h4
  rw [e] at h5 h6
  exact ⟨ad, A1, c1, h2, h3, h4, h5, h6⟩
end Go.Proofs.Ythmkdmdfahhpmaa.Hand
