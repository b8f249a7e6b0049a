/- Disk: note: a change of the directory is done, and kept. -/
import Derived.Test.YthmkdmdfahhpmaaDskC
import Derived.Laws.StructEq
namespace Go.Proofs.Ythmkdmdfahhpmaa.Hand
open Go.RowKit Go.Maps Go.Proofs.YthmkdmdfahhpmaaW.PrintWords Go.Proofs.YthmkdmdfahhpmaaW.PrintLast Go.Proofs.YthmkdmdfahhpmaaW.PrintMore Go.Proofs.Ythmkdmdfahhpmaa.Q
set_option linter.unusedVariables false
set_option linter.unusedSimpArgs false
theorem own_ne {α β : Type} {d : Kd α} {d' : Kd β} {e e' b b' : Nat} {w : World} {ok ok' : Nat → Prop} {v v' : Value} {xs : List α} {ys : List β} (h : Kd.R d e w b ok v xs) (h' : Kd.R d' e' w b' ok' v' ys) (hne : e ≠ e') {k : Nat} (hk : v.ownBlock = some k) : v'.ownBlock ≠ some k := fun hk' => by
  obtain ⟨c1, h1⟩ := Kd.R_typed h k hk
  obtain ⟨c2, h2⟩ := Kd.R_typed h' k hk'
  exact blk_ne h1 h2 hne rfl
theorem OwnE.ne_own {α : Type} {d : Kd α} {e b : Nat} {w : World} {ok : Nat → Prop} {v : Value} {xs : List α} {m : Nat} {l : List Ent} (h : OwnE w m l) (h' : Kd.R d e w b ok v xs) : v.ownBlock ≠ some m := fun hk => by
  obtain ⟨c1, h1⟩ := Kd.R_typed h' m hk
  exact h.ne h1 rfl
theorem lt_grow {F : Nat → Prop} {w w' : World} (h : ∀ k, F k → k < w.heap.size) (hs : w.heap.size ≤ w'.heap.size) : ∀ k, grow F w w' k → k < w'.heap.size := fun k hk => by
  rcases hk with hk | hk
  · exact Nat.lt_of_lt_of_le (h k hk) hs
  · exact hk.2
/-- The directory's map has turned. -/
theorem DskM.turnDir {w w' : World} {F : Nat → Prop} {d : Nat} {S : DS} {u : Int} {md ms : Nat} {vf vc : Value} {fm : List FM} (h : DskM w F d S u md ms vf vc fm) (hk : KeptL (fun k => k = md) w w') {l : List Ent} (hl : OwnE w' md l) : DskM w' F d { S with dir := l } u md ms vf vc fm := by
  obtain ⟨f1, f2, f3, f4, f5, f6⟩ := h.foot
  have hs : ∀ k, F k → k ≠ md → w'.heap[k]? = w.heap[k]? := fun k hF hne => hk.block k (h.lt k hF) hne
  have ho : ∀ {v : Value}, v.ownBlock ≠ some md → ∀ k, v.ownBlock = some k → k ≠ md := fun hv k hk e => hv (by rw [← e]; exact hk)
  refine { h with blk := (hs d f1 (h.ne_d.1.symm)).trans h.blk, own := R_keepD rfl h.own (fun k hv => hs k (f4 k hv) (ho (h.dir.ne_own h.own) k hv)), at_ := fun i hi => ?_, dir := hl, safe := h.safe.same (hs ms f3 h.apart.symm), chg := R_keepD rfl h.chg (fun k hv => hs k (f5 k hv) (ho (h.dir.ne_own h.chg) k hv)), lt := fun k hF => Nat.lt_of_lt_of_le (h.lt k hF) hk.size }
  have hm := f6 _ (getD_mem (z := fm0) (by rw [h.len]; exact hi : i < fm.length))
  exact (h.at_ i hi).same (hs _ hm.1 (h.dir.ne (h.at_ i hi).1).symm) (fun k hv => hs k (hm.2 k hv) (ho (h.dir.ne_own (h.at_ i hi).2) k hv))
/-- A change is kept. -/
theorem DskM.addChg {w w' : World} {F : Nat → Prop} {d : Nat} {S : DS} {u : Int} {md ms : Nat} {vf vc vc' : Value} {fm : List FM} {c : Chg} (h : DskM w F d S u md ms vf vc fm) (hk : KeptL (fun k => k = d ∨ vc.ownBlock = some k) w w')
    (hb : w'.heap[d]? = some (.cells #[.int .i64 S.room, .int .i64 u, vf, .map (some md), .map (some ms), vc', .int .i64 S.ops, .int .i64 S.armed, .bool S.dead] 87 (0, 0)))
    (hc : Kd.R kC 89 w' 0 (fun _ => True) vc' (S.chg ++ [c])) (hv : vc'.ownBlock = vc.ownBlock ∨ ∃ b, vc'.ownBlock = some b ∧ w.heap.size ≤ b) : DskM w' (grow F w w') d { S with chg := S.chg ++ [c] } u md ms vf vc' fm := by
  obtain ⟨n1, n2, n3, n4, n5⟩ := h.ne_d
  obtain ⟨f1, f2, f3, f4, f5, f6⟩ := h.foot
  have hs : ∀ k, F k → k ≠ d → vc.ownBlock ≠ some k → w'.heap[k]? = w.heap[k]? := fun k hF hne hne2 => hk.block k (h.lt k hF) (fun hh => hh.elim hne hne2)
  refine { blk := hb, own := R_keepD rfl h.own (fun k hv => hs k (f4 k hv) (n3 k hv) (own_ne h.own h.chg (by decide) hv)), len := h.len, at_ := fun i hi => ?_, sep := h.sep, dir := h.dir.same (hs md f2 n1 (h.dir.ne_own h.chg)), safe := h.safe.same (hs ms f3 n2 (h.safe.ne_own h.chg)), apart := h.apart, chg := hc, foot := ?_, lt := lt_grow h.lt hk.size }
  · have hm := f6 _ (getD_mem (z := fm0) (by rw [h.len]; exact hi : i < fm.length))
    refine (h.at_ i hi).same (hs _ hm.1 (n5 i hi).1 (fun hh => ?_)) (fun k hv => hs k (hm.2 k hv) ((n5 i hi).2 k hv) (own_ne (h.at_ i hi).2 h.chg (by decide) hv))
    exact Kd.R_ne h.chg (h.at_ i hi).1 (by decide) hh.symm
  · refine ⟨.inl f1, .inl f2, .inl f3, fun k hv => .inl (f4 k hv), fun k hk2 => ?_, fun a ha => ⟨.inl (f6 a ha).1, fun k hv => .inl ((f6 a ha).2 k hv)⟩⟩
    rcases hv with hv | ⟨b, hv, hb2⟩
    · exact .inl (f5 k (by rw [← hv]; exact hk2))
    · rw [hv] at hk2
      injection hk2 with hk2
      subst hk2
      exact .inr ⟨hb2, Kd.R_lt hc _ hv⟩
def lenN (S : DS) (n : ByteArray) : Int := match has S.dir n with | some e => ((fileOf S e.2).1.length : Int) | none => 0
theorem infoC : (Try.prog.info? 89).map (fun i => (i.zero, i.size, i.bytes)) = some (some (.agg #[.string ⟨#[]⟩, .string ⟨#[]⟩, .int .i64 0]), 3, 40) := by kernel_rfl
theorem kC_M (w : World) (base : Nat) (ok : Nat → Prop) (x : Chg) : kC.M w base ok x [.string x.1, .string x.2.1, .int .i64 x.2.2] := ⟨[.string x.1], [.string x.2.1, .int .i64 x.2.2], rfl, rfl, ⟨[.string x.2.1], [.int .i64 x.2.2], rfl, rfl, rfl⟩⟩
theorem chg_ne (a b : ByteArray) (f : Int) (h : a.size ≠ 0 ∨ b.size ≠ 0) (w : World) : (binOp .eql 89 (.agg #[.string a, .string b, .int .i64 f]) (.agg #[.string ⟨#[]⟩, .string ⟨#[]⟩, .int .i64 0])).run Try.prog w = .ok (.bool false) w := by
  have hS : Try.prog.underlying 89 = some (.struct (Try.prog.fieldsOf 89)) := by kernel_rfl
  have hp : Try.prog.stoodInHeld 89 = false := by kernel_rfl
  have u1 := Try.underlying9
  have a1 := Try.isAgg9
  have z1 := Try.sizeOf9
  have u3 := Try.underlying3
  have a3 := Try.isAgg3
  have z3 := Try.sizeOf3
  rw [run_eql_struct, show (10000 : Nat) = 9999 + 1 from rfl, run_equalIn_agg w 9999 89 _ _ hS hp]
  simp only [Program.fieldsOf, Try.underlying89]
  by_cases ha : a.size = 0
  · have hb := emp_ne (h.resolve_left (fun hh => hh ha))
    have ha2 := emp_eq ha
    go_simp
  · have ha2 := emp_ne ha
    go_simp
end Go.Proofs.Ythmkdmdfahhpmaa.Hand
