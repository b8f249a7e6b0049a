/- Disk: plain laws of DiskDies: an armed disk beside one that never was. -/
import Derived.Test.YthmkdmdfahhpmaaDskAE
namespace Go.Proofs.Ythmkdmdfahhpmaa.Hand
open Go.RowKit Go.Maps Go.Proofs.YthmkdmdfahhpmaaW.PrintWords Go.Proofs.YthmkdmdfahhpmaaW.PrintLast Go.Proofs.YthmkdmdfahhpmaaW.PrintMore Go.Proofs.Ythmkdmdfahhpmaa.Q
set_option linter.unusedVariables false
set_option linter.unusedSimpArgs false
/-- The same disk, armed. -/
def armS (B : DS) (m : Int) : DS := { B with armed := m }
def deadS (B : DS) : DS := { B with armed := 0, dead := true }
/-- What the disk that was never armed answers, what the armed one does. -/
def DieOut (n : Int) (B : DS) (p q : DS × Int) : Prop :=
  (p.2 ≠ 0 ∧ p.1 = B ∧ q = (armS B (n - B.ops), p.2)) ∨
  (p.2 = 0 ∧ p.1.armed = 0 ∧ p.1.dead = false ∧ p.1.ops = B.ops + 1 ∧ ((B.ops = n - 1 ∧ q = (deadS B, 51)) ∨ (B.ops ≠ n - 1 ∧ q = (armS p.1 (n - p.1.ops), 0))))
structure DieR (n : Int) (B : DS) : Prop where
  armed : B.armed = 0
  dead : B.dead = false
  ops : B.ops ≤ n - 1
theorem DieOut.refuse {n : Int} {B : DS} (c : Int) (hc : c ≠ 0) : DieOut n B (B, c) (armS B (n - B.ops), c) := .inl ⟨hc, rfl, rfl⟩
theorem DieOut.went {n : Int} {B : DS} (h : DieR n B) {k kA : DS → DS} (hkA : kA = k) (hk : ∀ T m, k (armS T m) = armS (k T) m) (hk2 : ∀ T, (k T).armed = T.armed ∧ (k T).dead = T.dead ∧ (k T).ops = T.ops) : DieOut n B (ifGoes B k) (ifGoes (armS B (n - B.ops)) kA) := by
  subst hkA
  rw [ifGoes_free h.armed]
  refine .inr ⟨rfl, (hk2 _).1.trans h.armed, (hk2 _).2.1.trans h.dead, (hk2 _).2.2, ?_⟩
  have ho := h.ops
  have hpos : n - B.ops > 0 := by omega
  by_cases e : B.ops = n - 1
  · left
    refine ⟨e, ?_⟩
    have hg : goes (armS B (n - B.ops)) = (deadS B, 51) := by
      show (if n - B.ops > 0 then (if n - B.ops - 1 = 0 then (deadS B, 51) else _) else _) = _
      rw [if_pos hpos, if_pos (by omega)]
    unfold ifGoes
    rw [hg, if_neg (by show ¬ ((51 : Int) = 0); decide)]
  · right
    refine ⟨e, ?_⟩
    have hg : goes (armS B (n - B.ops)) = (armS { B with ops := B.ops + 1 } (n - (B.ops + 1)), 0) := by
      show (if n - B.ops > 0 then (if n - B.ops - 1 = 0 then _ else (DS.mk B.room B.files B.dir B.safe B.chg (B.ops + 1) (n - B.ops - 1) B.dead, (0 : Int))) else _) = _
      rw [if_pos hpos, if_neg (by omega)]
      unfold armS
      rw [show n - (B.ops + 1) = n - B.ops - 1 by omega]
    unfold ifGoes
    rw [hg, if_pos rfl]
    show (kA (armS _ _), (0 : Int)) = _
    rw [hk, (hk2 _).2.2]
theorem die_create {n : Int} {B : DS} (h : DieR n B) (s : ByteArray) : DieOut n B (opCreate B s) (opCreate (armS B (n - B.ops)) s) := by
  have hd : ¬ B.dead = true := by rw [h.dead]; decide
  unfold opCreate
  rw [if_neg hd]
  show DieOut n B _ (if B.dead = true then _ else if nameOk s = false then (armS B (n - B.ops), 50) else if (has B.dir s).isSome then (armS B (n - B.ops), 8) else if B.dir.length ≥ 64 ∨ B.ops ≥ 1048576 then (armS B (n - B.ops), 5) else _)
  rw [if_neg hd]
  by_cases h1 : nameOk s = false
  · rw [if_pos h1, if_pos h1]; exact .refuse 50 (by decide)
  rw [if_neg h1, if_neg h1]
  by_cases h2 : (has B.dir s).isSome = true
  · rw [if_pos h2, if_pos h2]; exact .refuse 8 (by decide)
  rw [if_neg h2, if_neg h2]
  by_cases h3 : B.dir.length ≥ 64 ∨ B.ops ≥ 1048576
  · rw [if_pos h3, if_pos h3]; exact .refuse 5 (by decide)
  rw [if_neg h3, if_neg h3]
  exact .went h rfl (fun _ _ => rfl) (fun _ => ⟨rfl, rfl, rfl⟩)
theorem die_append {n : Int} {B : DS} (h : DieR n B) (s : ByteArray) (p : List Int) : DieOut n B (opAppend B s p) (opAppend (armS B (n - B.ops)) s p) := by
  have hd : ¬ B.dead = true := by rw [h.dead]; decide
  unfold opAppend
  rw [if_neg hd]
  show DieOut n B _ (if B.dead = true then _ else match has B.dir s with
    | none => (armS B (n - B.ops), 7)
    | some e => if ((fileOf B e.2).1.length : Int) + p.length > 4194304 ∨ (p.length : Int) > B.room - used B ∨ B.ops ≥ 1048576 then (armS B (n - B.ops), 5)
      else ifGoes (armS B (n - B.ops)) fun T => setFil T e.2 ((fileOf B e.2).1 ++ p, (fileOf B e.2).2))
  rw [if_neg hd]
  cases has B.dir s with
  | none => exact .refuse 7 (by decide)
  | some e =>
    dsimp only
    split
    · exact .refuse 5 (by decide)
    · exact .went h rfl (fun _ _ => rfl) (fun _ => ⟨rfl, rfl, rfl⟩)
theorem die_sync {n : Int} {B : DS} (h : DieR n B) (s : ByteArray) : DieOut n B (opSync B s) (opSync (armS B (n - B.ops)) s) := by
  have hd : ¬ B.dead = true := by rw [h.dead]; decide
  unfold opSync
  rw [if_neg hd]
  show DieOut n B _ (if B.dead = true then _ else match has B.dir s with
    | none => (armS B (n - B.ops), 7)
    | some e => if B.ops ≥ 1048576 then (armS B (n - B.ops), 5) else ifGoes (armS B (n - B.ops)) fun T => setFil T e.2 ((fileOf B e.2).1, ((fileOf B e.2).1.length : Int)))
  rw [if_neg hd]
  cases has B.dir s with
  | none => exact .refuse 7 (by decide)
  | some e =>
    dsimp only
    split
    · exact .refuse 5 (by decide)
    · exact .went h rfl (fun _ _ => rfl) (fun _ => ⟨rfl, rfl, rfl⟩)
theorem die_rename {n : Int} {B : DS} (h : DieR n B) (s t : ByteArray) : DieOut n B (opRename B s t) (opRename (armS B (n - B.ops)) s t) := by
  have hd : ¬ B.dead = true := by rw [h.dead]; decide
  unfold opRename
  rw [if_neg hd]
  show DieOut n B _ (if B.dead = true then _ else match has B.dir s with
    | none => (armS B (n - B.ops), 7)
    | some e => if nameOk t = false then (armS B (n - B.ops), 50) else if B.ops ≥ 1048576 then (armS B (n - B.ops), 5) else ifGoes (armS B (n - B.ops)) fun T => if s = t then T else note T (s, t, e.2))
  rw [if_neg hd]
  cases has B.dir s with
  | none => exact .refuse 7 (by decide)
  | some e =>
    dsimp only
    by_cases h1 : nameOk t = false
    · rw [if_pos h1, if_pos h1]; exact .refuse 50 (by decide)
    rw [if_neg h1, if_neg h1]
    by_cases h2 : B.ops ≥ 1048576
    · rw [if_pos h2, if_pos h2]; exact .refuse 5 (by decide)
    rw [if_neg h2, if_neg h2]
    by_cases e : s = t
    · exact .went h rfl (fun _ _ => by rw [if_pos e, if_pos e]) (fun _ => by rw [if_pos e]; exact ⟨rfl, rfl, rfl⟩)
    · exact .went h rfl (fun _ _ => by rw [if_neg e, if_neg e]; rfl) (fun _ => by rw [if_neg e]; exact ⟨rfl, rfl, rfl⟩)
theorem die_remove {n : Int} {B : DS} (h : DieR n B) (s : ByteArray) : DieOut n B (opRemove B s) (opRemove (armS B (n - B.ops)) s) := by
  have hd : ¬ B.dead = true := by rw [h.dead]; decide
  unfold opRemove
  rw [if_neg hd]
  show DieOut n B _ (if B.dead = true then _ else match has B.dir s with
    | none => (armS B (n - B.ops), 7)
    | some e => if B.ops ≥ 1048576 then (armS B (n - B.ops), 5) else ifGoes (armS B (n - B.ops)) fun T => note T (s, ByteArray.empty, 0))
  rw [if_neg hd]
  cases has B.dir s with
  | none => exact .refuse 7 (by decide)
  | some e =>
    dsimp only
    split
    · exact .refuse 5 (by decide)
    · exact .went h rfl (fun _ _ => rfl) (fun _ => ⟨rfl, rfl, rfl⟩)
theorem die_syncDir {n : Int} {B : DS} (h : DieR n B) : DieOut n B (opSyncDir B) (opSyncDir (armS B (n - B.ops))) := by
  have hd : ¬ B.dead = true := by rw [h.dead]; decide
  unfold opSyncDir
  rw [if_neg hd]
  show DieOut n B _ (if B.dead = true then _ else if B.ops ≥ 1048576 then (armS B (n - B.ops), 5) else _)
  rw [if_neg hd]
  by_cases h1 : B.ops ≥ 1048576
  · rw [if_pos h1, if_pos h1]; exact .refuse 5 (by decide)
  rw [if_neg h1, if_neg h1]
  exact .went h rfl (fun _ _ => rfl) (fun _ => ⟨rfl, rfl, rfl⟩)
theorem die_one {n : Int} {B : DS} (h : DieR n B) (a : ActD) : DieOut n B (oneS B a) (oneS (armS B (n - B.ops)) a) := by
  unfold oneS
  by_cases h1 : a.kind = 1
  · rw [if_pos h1, if_pos h1]; exact die_create h _
  rw [if_neg h1, if_neg h1]
  by_cases h2 : a.kind = 2
  · rw [if_pos h2, if_pos h2]; exact die_append h _ _
  rw [if_neg h2, if_neg h2]
  by_cases h3 : a.kind = 3
  · rw [if_pos h3, if_pos h3]; exact die_sync h _
  rw [if_neg h3, if_neg h3]
  by_cases h4 : a.kind = 4
  · rw [if_pos h4, if_pos h4]; exact die_rename h _ _
  rw [if_neg h4, if_neg h4]
  by_cases h5 : a.kind = 5
  · rw [if_pos h5, if_pos h5]; exact die_remove h _
  rw [if_neg h5, if_neg h5]
  exact die_syncDir h
theorem Inv.fsB {S : DS} (hS : Inv S) (d : Int) (t : List Int) : FsB ((leftOf S d t).map mkF) := by
  have hk := leftD_ok hS (partI d S.chg.length).toNat
  refine ⟨by rw [List.length_map, leftOf_len]; have := hk.2.1; show ((S.chg.take (partI d S.chg.length).toNat).foldl turn S.safe).length < _; omega, fun f hf => ?_⟩
  obtain ⟨e, he, rfl⟩ := List.mem_map.1 hf
  obtain ⟨z, hz, rfl⟩ := List.mem_map.1 he
  have h1 := hk.2.2 z hz
  have h2 := (hS.fil _ (fileOf_mem h1.1 h1.2.1)).1
  show (List.take _ _).length < _
  rw [List.length_take]
  omega
end Go.Proofs.Ythmkdmdfahhpmaa.Hand
