/- Disk: the plain model: names, directories, files, changes. -/
import Derived.Test.YtdekcjopgnfmdaaProg
import Derived.WalkKit
import Derived.Sort.Walk0
namespace Go.Proofs.Ytdekcjopgnfmdaa.Hand
set_option linter.unusedVariables false
set_option linter.unusedSimpArgs false
/-- A name's bytes, by which names rise. -/
def nm (b : ByteArray) : List UInt8 := b.toList
theorem bytes_eqD {a b : ByteArray} : a.toList = b.toList ↔ a = b := ⟨fun h => by
    have ha := ByteArray.toList_eq a; have hb := ByteArray.toList_eq b; rw [ha, hb] at h
    cases a; cases b
    simp only at h
    congr 1
    exact Array.ext' h, fun h => by rw [h]⟩
theorem nm_inj {a b : ByteArray} (h : nm a = nm b) : a = b := bytes_eqD.1 h
/-- An entry of a directory: a name, its file's number. -/
abbrev Ent := ByteArray × Int
def has (l : List Ent) (n : ByteArray) : Option Ent := l.find? fun e => decide (e.1 = n)
def without (l : List Ent) (n : ByteArray) : List Ent := l.filter fun e => !decide (e.1 = n)
def ins (n : ByteArray) (f : Int) : List Ent → List Ent
  | [] => [(n, f)]
  | e :: l => if nm n < nm e.1 then (n, f) :: e :: l else e :: ins n f l
def with_ (l : List Ent) (n : ByteArray) (f : Int) : List Ent := ins n f (without l n)
/-- A change: from, to, file. -/
abbrev Chg := ByteArray × ByteArray × Int
def turn1 (l : List Ent) (a : ByteArray) : List Ent := if a.size = 0 then l else without l a
def turn (l : List Ent) (c : Chg) : List Ent := if c.2.1.size = 0 then turn1 l c.1 else with_ (turn1 l c.1) c.2.1 c.2.2
def Srt (l : List Ent) : Prop := l.Pairwise fun a b => nm a.1 < nm b.1
theorem nm_lt_irrefl (a : List UInt8) : ¬ a < a := List.lt_irrefl a
theorem Srt.nodup {l : List Ent} (h : Srt l) : (l.map (·.1)).Nodup := by
  unfold List.Nodup; rw [List.pairwise_map]; exact List.Pairwise.imp (fun h e => by rw [e] at h; exact nm_lt_irrefl _ h) h
theorem has_some {l : List Ent} {n : ByteArray} {e : Ent} (h : has l n = some e) : e ∈ l ∧ e.1 = n := ⟨List.mem_of_find?_eq_some h, by simpa using List.find?_some h⟩
theorem has_none {l : List Ent} {n : ByteArray} : has l n = none ↔ ∀ e, e ∈ l → e.1 ≠ n := by
  unfold has; rw [List.find?_eq_none]
  simp
theorem has_in {l : List Ent} {n : ByteArray} {e : Ent} (hN : (l.map (·.1)).Nodup) (he : e ∈ l) (h1 : e.1 = n) : has l n = some e := by
  induction l with
  | nil => cases he
  | cons x l ih =>
    rw [List.map_cons, List.nodup_cons] at hN; unfold has; rw [List.find?_cons]; rcases List.mem_cons.1 he with rfl | he'
    · rw [h1]; simp
    · have hne : x.1 ≠ n := fun hx => hN.1 (List.mem_map.2 ⟨e, he', h1.trans hx.symm⟩); simp only [hne, decide_false]; exact ih hN.2 he'
theorem without_mem {l : List Ent} {n : ByteArray} {e : Ent} : e ∈ without l n ↔ e ∈ l ∧ e.1 ≠ n := by
  unfold without; rw [List.mem_filter]
  simp
theorem Srt.without {l : List Ent} (h : Srt l) (n : ByteArray) : Srt (without l n) := List.Pairwise.sublist List.filter_sublist h
theorem without_len (l : List Ent) (n : ByteArray) : (without l n).length ≤ l.length := List.length_filter_le _ _
theorem ins_mem {n : ByteArray} {f : Int} {l : List Ent} {e : Ent} : e ∈ ins n f l ↔ e = (n, f) ∨ e ∈ l := by
  induction l with
  | nil => simp [ins]
  | cons x l ih =>
    unfold ins
    split
    · simp
    · rw [List.mem_cons, ih, List.mem_cons]
      constructor
      · rintro (h | h | h) <;> simp [h]
      · rintro (h | h | h) <;> simp [h]
theorem ins_len (n : ByteArray) (f : Int) (l : List Ent) : (ins n f l).length = l.length + 1 := by
  induction l with
  | nil => rfl
  | cons x l ih =>
    unfold ins
    split
    · rfl
    · rw [List.length_cons, ih, List.length_cons]
theorem Srt.ins {l : List Ent} (h : Srt l) {n : ByteArray} (f : Int) (hn : ∀ e, e ∈ l → e.1 ≠ n) : Srt (ins n f l) := by
  induction l with
  | nil => exact List.pairwise_singleton _ _
  | cons x l ih =>
    obtain ⟨h1, h2⟩ := List.pairwise_cons.1 h; unfold Hand.ins
    split
    · rename_i hlt; refine List.pairwise_cons.2 ⟨fun b hb => ?_, h⟩; rcases List.mem_cons.1 hb with rfl | hb
      · exact hlt
      · exact List.lt_trans hlt (h1 b hb)
    · rename_i hge; have hne : nm x.1 ≠ nm n := fun e => hn x List.mem_cons_self (nm_inj e)
      have hlt : nm x.1 < nm n := by
        rcases Decidable.em (nm x.1 < nm n) with h | h
        · exact h
        · exact absurd (List.le_antisymm (List.not_lt.1 hge) (List.not_lt.1 h)) hne
      refine List.pairwise_cons.2 ⟨fun b hb => ?_, ih h2 (fun e he => hn e (List.mem_cons_of_mem _ he))⟩; rcases ins_mem.1 hb with rfl | hb
      · exact hlt
      · exact h1 b hb
theorem Srt.with_ {l : List Ent} (h : Srt l) (n : ByteArray) (f : Int) : Srt (with_ l n f) := (h.without n).ins f (fun e he => (without_mem.1 he).2)
theorem with_mem {l : List Ent} {n : ByteArray} {f : Int} {e : Ent} : e ∈ with_ l n f ↔ e = (n, f) ∨ (e ∈ l ∧ e.1 ≠ n) := by
  unfold with_; rw [ins_mem, without_mem]
theorem with_len (l : List Ent) (n : ByteArray) (f : Int) : (with_ l n f).length ≤ l.length + 1 := by
  unfold with_; rw [ins_len]; have := without_len l n; omega
theorem Srt.turn1 {l : List Ent} (h : Srt l) (a : ByteArray) : Srt (turn1 l a) := by
  unfold Hand.turn1
  split
  · exact h
  · exact h.without a
theorem Srt.turn {l : List Ent} (h : Srt l) (c : Chg) : Srt (turn l c) := by
  unfold Hand.turn
  split
  · exact h.turn1 _
  · exact (h.turn1 _).with_ _ _
theorem turn1_mem {l : List Ent} {a : ByteArray} {e : Ent} (h : e ∈ turn1 l a) : e ∈ l := by
  unfold turn1 at h
  split at h
  · exact h
  · exact (without_mem.1 h).1
theorem turn_mem {l : List Ent} {c : Chg} {e : Ent} (h : e ∈ turn l c) : e ∈ l ∨ (c.2.1.size ≠ 0 ∧ e = (c.2.1, c.2.2)) := by
  unfold turn at h
  split at h
  · exact .inl (turn1_mem h)
  · rename_i h0; rcases with_mem.1 h with rfl | h
    · exact .inr ⟨h0, rfl⟩
    · exact .inl (turn1_mem h.1)
theorem turn_len (l : List Ent) (c : Chg) : (turn l c).length ≤ l.length + 1 := by
  have h1 : (turn1 l c.1).length ≤ l.length := by
    unfold turn1
    split
    · exact Nat.le_refl _
    · exact without_len _ _
  unfold turn
  split
  · omega
  · have := with_len (turn1 l c.1) c.2.1 c.2.2; omega
/-- May a byte stand in a name? -/
def okc (c : Int) : Bool := decide ((97 ≤ c ∧ c ≤ 122) ∨ (48 ≤ c ∧ c ≤ 57) ∨ c = 46 ∨ c = 45 ∨ c = 95)
/-- A file: its bytes, how many of them are synced. -/
abbrev Fil := List Int × Int
/-- A disk. -/
structure DS where
  room : Int
  files : List Fil
  dir : List Ent
  safe : List Ent
  chg : List Chg
  ops : Int
  armed : Int
  dead : Bool
def fileOf (S : DS) (i : Int) : Fil := S.files.getD i.toNat ([], 0)
def usedOf (fs : List Fil) (l : List Ent) : Int := (l.map fun e => ((fs.getD e.2.toNat ([], 0)).1.length : Int)).sum
def used (S : DS) : Int := usedOf S.files S.dir
/-- An operation that nothing else refuses: the power may fail ahead of it. -/
def goes (S : DS) : DS × Int :=
  if S.armed > 0 then (if S.armed - 1 = 0 then ({ S with armed := 0, dead := true }, 51) else ({ S with armed := S.armed - 1, ops := S.ops + 1 }, 0))
  else ({ S with ops := S.ops + 1 }, 0)
def note (S : DS) (c : Chg) : DS := { S with dir := turn S.dir c, chg := S.chg ++ [c] }
def ifGoes (S : DS) (k : DS → DS) : DS × Int := if (goes S).2 = 0 then (k (goes S).1, 0) else ((goes S).1, (goes S).2)
end Go.Proofs.Ytdekcjopgnfmdaa.Hand
