/- Wheel: two wheels side by side; arrays of five compared; how the time is cut. -/
import Derived.Test.YtkgdlmgodpgcoaaWhlAB
import Derived.Test.YtkgdlmgodpgcoaaWhlK
namespace Go.Proofs.Ytkgdlmgodpgcoaa.Hand
open Go.RowKit Go.Maps Go.Proofs.YtkgdlmgodpgcoaaW.PrintWords Go.Proofs.YtkgdlmgodpgcoaaW.PrintLast Go.Proofs.YtkgdlmgodpgcoaaW.PrintMore
set_option linter.unusedVariables false
set_option linter.unusedSimpArgs false

theorem equal5 (a0 a1 a2 a3 a4 : Int) (W : World) : (Op.equalIn 10000 40 (.agg #[.int .i64 a0, .int .i64 a1, .int .i64 a2, .int .i64 a3, .int .i64 a4]) (.agg #[.int .i64 a0, .int .i64 a1, .int .i64 a2, .int .i64 a3, .int .i64 a4])).run Try.prog W = .ok true W := by
  have hinf : (Try.prog.info? 3).map (fun i => i.size) = some 1 := by kernel_rfl
  obtain ⟨i, hi, _⟩ := Option.map_eq_some_iff.1 hinf
  have hc : Try.prog.cellsOf 3 = 1 := by kernel_rfl
  have hg : ∀ W, (isAgg 3).run Try.prog W = .ok false W := fun W => by kernel_rfl
  have he : ∀ (x : Int) W, (Op.equalIn 9999 3 (.int .i64 x) (.int .i64 x)).run Try.prog W = .ok true W := fun x W => by
    rw [run_equalIn_int W 9998 3 .i64 .i64 x x Try.underlying3]
    simp
  rw [run_equalIn_array W 9999 _ _ Try.underlying40 hi, hc]
  simp [List.range, List.range.loop, Op.eqItems, part, Sem.run_bind, hg, he]
theorem drawn_belowW {w w' : World} (h : Drawn0 w w') : Below w.heap.size w w' := by
  obtain ⟨n, rfl⟩ := h
  exact pw_below_drewN (Below.refl _ _) n
/-- Two wheels on blocks of their own. -/
structure Two (w0 w : World) (F1 F2 : Nat → Prop) (g m : Nat) (n1 : Int) (L1 : List TimT) (g2 m2 : Nat) (n2 : Int) (L2 : List TimT) : Prop where
  a : Wst w F1 g m n1 L1
  b : Wst w F2 g2 m2 n2 L2
  dis : ∀ k, F1 k → ¬ F2 k
  lowA : ∀ k, F1 k → w0.heap.size ≤ k
  lowB : ∀ k, F2 k → w0.heap.size ≤ k
  bel : Below w0.heap.size w0 w
theorem Two.swap {w0 w : World} {F1 F2 : Nat → Prop} {g m : Nat} {n1 : Int} {L1 : List TimT} {g2 m2 : Nat} {n2 : Int} {L2 : List TimT} (h : Two w0 w F1 F2 g m n1 L1 g2 m2 n2 L2) : Two w0 w F2 F1 g2 m2 n2 L2 g m n1 L1 :=
  ⟨h.b, h.a, fun k h2 h1 => h.dis k h1 h2, h.lowB, h.lowA, h.bel⟩
theorem Two.below {w0 w w' : World} {F1 F2 : Nat → Prop} {g m : Nat} {n1 : Int} {L1 : List TimT} {g2 m2 : Nat} {n2 : Int} {L2 : List TimT} (h : Two w0 w F1 F2 g m n1 L1 g2 m2 n2 L2) (hb : Below w.heap.size w w') : Two w0 w' F1 F2 g m n1 L1 g2 m2 n2 L2 :=
  ⟨h.a.kept (KeptW.of_below (F := fun _ => False) hb) (fun _ _ h => h), h.b.kept (KeptW.of_below (F := fun _ => False) hb) (fun _ _ h => h), h.dis, h.lowA, h.lowB, h.bel.trans (hb.mono h.bel.size)⟩
/-- Another row, of neither, has grown. -/
theorem Two.grown {w0 w w' : World} {F1 F2 : Nat → Prop} {g m : Nat} {n1 : Int} {L1 : List TimT} {g2 m2 : Nat} {n2 : Int} {L2 : List TimT} {row : Option Nat} (h : Two w0 w F1 F2 g m n1 L1 g2 m2 n2 L2) (hg : w.grownBy w' row) (h1 : ∀ k, row = some k → ¬ (F1 k ∨ F2 k)) (h2 : ∀ k, row = some k → w0.heap.size ≤ k) : Two w0 w' F1 F2 g m n1 L1 g2 m2 n2 L2 :=
  ⟨h.a.kept (KeptW.of_grown hg) (fun k hk e => h1 k e (.inl hk)), h.b.kept (KeptW.of_grown hg) (fun k hk e => h1 k e (.inr hk)), h.dis, h.lowA, h.lowB, h.bel.grown hg h.bel.size h2⟩
/-- The first has gone on. -/
theorem Two.first {w0 w w' : World} {F1 F1' F2 : Nat → Prop} {g m : Nat} {n1 n1' : Int} {L1 L1' : List TimT} {g2 m2 : Nat} {n2 : Int} {L2 : List TimT} (h : Two w0 w F1 F2 g m n1 L1 g2 m2 n2 L2) (hw : Wst w' F1' g m n1' L1') (hF : ∀ k, F1' k → F1 k ∨ w.heap.size ≤ k) (hk : KeptW F1 w w') :
    Two w0 w' F1' F2 g m n1' L1' g2 m2 n2 L2 ∧ KeptW (fun k => F1 k ∨ F2 k) w w' ∧ (∀ k, F1' k ∨ F2 k → (F1 k ∨ F2 k) ∨ w.heap.size ≤ k) := by
  refine ⟨⟨hw, h.b.kept hk (fun k h2 h1 => h.dis k h1 h2), fun k h1 h2 => ?_, fun k h1 => ?_, h.lowB, KeptW.belowN h.bel h.bel.size hk h.lowA⟩, hk.mono (fun _ h => .inl h), fun k hk => ?_⟩
  · rcases hF k h1 with h3 | h3
    · exact h.dis k h3 h2
    · have := h.b.lt k h2
      omega
  · rcases hF k h1 with h3 | h3
    · exact h.lowA k h3
    · exact Nat.le_trans h.bel.size h3
  · rcases hk with h3 | h3
    · rcases hF k h3 with h4 | h4
      · exact .inl (.inl h4)
      · exact .inr h4
    · exact .inl (.inr h3)
abbrev UR (w : World) (base : Nat) (ok : Nat → Prop) (v : Value) (l : List Int) : Prop := Kd.R (Kd.int .u64) 22 w base ok v l
theorem stay_stay {L : List TimT} {a b : Int} (h : a ≤ b) : (L.filter (isStay a)).filter (isStay b) = L.filter (isStay b) := by
  rw [List.filter_filter, List.filter_congr (fun t _ => ?_)]
  unfold isStay isOver
  rw [Bool.eq_iff_iff]
  simp
  omega
theorem over_over (L : List TimT) {a b : Int} (h : a ≤ b) : sorted (L.filter (isOver a)) ++ sorted ((L.filter (isStay a)).filter (isOver b)) = sorted (L.filter (isOver b)) := by
  refine (sorted_eq ?_ ?_).symm
  · refine List.Perm.trans ?_ ((sorted_perm _).append (sorted_perm _)).symm
    rw [List.filter_filter]
    refine ((filter_or _ _ L (fun t _ => ?_)).trans ?_).symm
    · unfold isStay isOver
      simp
      intro h1 _
      exact h1
    · rw [List.filter_congr (fun t _ => ?_)]
      unfold isStay isOver
      rw [Bool.eq_iff_iff]
      simp
      constructor
      · rintro (h1 | ⟨h1, _⟩)
        · omega
        · exact h1
      · intro h1
        by_cases e : t.2 ≤ a
        · exact .inl e
        · exact .inr ⟨h1, by omega⟩
  · rw [List.pairwise_append]
    refine ⟨sorted_pair _, sorted_pair _, fun x hx y hy => ?_⟩
    have h1 := (List.mem_filter.1 ((sorted_perm _).mem_iff.1 hx)).2
    have h2 := (List.mem_filter.1 (List.mem_filter.1 ((sorted_perm _).mem_iff.1 hy)).1).2
    unfold isOver at h1
    unfold isStay isOver at h2
    simp at h1 h2
    unfold leT
    omega
theorem byId_srt {l : List TimT} (hN : (l.map (·.1)).Nodup) : Srt (byId l) ∧ (byId l).Perm l := by
  have hle : ∀ x y : Int, (!(ltOf cfA) y x) = true ↔ x ≤ y := fun x y => by rw [ltA]; simp
  have hp : ((l.map (·.1)).mergeSort fun x y => !(ltOf cfA) y x).Perm (l.map (·.1)) := List.mergeSort_perm _ _
  have hpw := List.pairwise_mergeSort (le := fun x y => !(ltOf cfA) y x) (fun a b c h1 h2 => by rw [hle] at *; omega) (fun a b => by
        rw [Bool.or_eq_true, hle, hle]
        omega) (l.map (·.1))
  constructor
  · unfold Srt byId
    rw [List.pairwise_map]
    have hnd : ((l.map (·.1)).mergeSort fun x y => !(ltOf cfA) y x).Nodup := (hp.nodup_iff).2 hN
    refine List.Pairwise.imp₂ (fun a b h1 h2 => ?_) (hpw.imp (fun h => (hle _ _).1 h)) hnd
    show a < b
    omega
  · unfold byId
    have h := hp.map (withAt l)
    rwa [withAt_map hN (fun _ h => h)] at h
theorem wnil_row (w : World) (ok : Nat → Prop) (hok : ok w.heap.size) : UR (w.alloc (.cells #[] 22)) w.heap.size ok (.slice (some ⟨w.heap.size, 0, none⟩) 0 0) [] := by
  refine ⟨fun k hk => ?_, [], ⟨rfl, .inr ⟨w.heap.size, 0, #[], rfl, Nat.le_refl _, blk_new w _, Nat.le_refl _, Nat.zero_le _, rfl, rfl⟩⟩, ⟨rfl, fun j p hj => by simp at hj⟩⟩
  have : w.heap.size = k := by simpa [Value.ownBlock] using hk
  rw [← this]
  exact hok
end Go.Proofs.Ytkgdlmgodpgcoaa.Hand
