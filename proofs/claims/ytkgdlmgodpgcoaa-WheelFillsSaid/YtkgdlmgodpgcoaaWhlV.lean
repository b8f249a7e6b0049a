/- Wheel: the document's wheel in memory; New, find, At. -/
import Derived.Test.YtkgdlmgodpgcoaaWhlP
namespace Go.Proofs.Ytkgdlmgodpgcoaa.Hand
open Go.RowKit Go.Maps Go.Proofs.YtkgdlmgodpgcoaaW.PrintWords Go.Proofs.YtkgdlmgodpgcoaaW.PrintLast Go.Proofs.YtkgdlmgodpgcoaaW.PrintMore
set_option linter.unusedVariables false
set_option linter.unusedSimpArgs false

/-- The document's wheel: its list on a block of its own. -/
structure Rst (w : World) (F : Nat → Prop) (r : Nat) (now : Int) (Ls : List TimT) : Prop where
  out : ∃ v, w.heap[r]? = some (.cells #[v, .int .u64 now] 39 (0, 0)) ∧ RT w 0 F v Ls
  hr : F r
  lt : ∀ k, F k → k < w.heap.size
theorem Rst.kept {w w' : World} {F G : Nat → Prop} {r : Nat} {now : Int} {Ls : List TimT} (h : Rst w F r now Ls) (hk : KeptW G w w') (hd : ∀ k, F k → ¬ G k) : Rst w' F r now Ls := by
  obtain ⟨⟨v, h1, h2⟩, hr, hlt⟩ := h
  exact ⟨⟨v, (hk.same r (hlt r hr) (hd r hr)).trans h1, Kd.R_step h2 (fun k ho hl => hk.same k hl (hd k ho))⟩, hr, fun k h => Nat.lt_of_lt_of_le (hlt k h) hk.bel.size⟩
theorem RT.not_ref {w : World} {base r : Nat} {ok : Nat → Prop} {v : Value} {l : List TimT} {cs : Array Value} (h : RT w base ok v l) (hW : w.heap[r]? = some (.cells cs 39 (0, 0))) : some r ≠ v.ownBlock := fun e => by
  obtain ⟨_, _, _, q, hq, cells, hc⟩ := (Kd.R_bound h).1 r e.symm
  rw [hW] at hc
  injection hc with hc
  injection hc with _ ht _
  rw [← ht] at hq
  revert hq
  decide
/-- What the walks read of it. -/
theorem Rst.view {w : World} {F : Nat → Prop} {r : Nat} {now : Int} {Ls : List TimT} (h : Rst w F r now Ls) : ∃ A c, w.heap[r]? = some (.cells #[.slice A Ls.length c, .int .u64 now] 39 (0, 0)) ∧ CT w A Ls.length Ls ∧ Ls.length ≤ c := by
  obtain ⟨⟨v, h1, h2⟩, _⟩ := h
  obtain ⟨A, c, rfl⟩ := Kd.R_slice h2
  obtain ⟨_, hc, hC⟩ := Kd.R_reads' h2
  exact ⟨A, c, h1, hC, hc⟩
/-- A new list is laid down. -/
theorem Rst.close {w w1 : World} {F : Nat → Prop} {r : Nat} {now : Int} {Ls Ls' : List TimT} {v : Value} (h : Rst w F r now Ls) (hb : Below w.heap.size w w1) (hv : RT w1 w.heap.size (fun _ => True) v Ls') :
    ∃ F', Rst (w1.setCell ⟨r, 0, none⟩ v) F' r now Ls' ∧ (∀ k, F' k → F k ∨ w.heap.size ≤ k) ∧ KeptW F w (w1.setCell ⟨r, 0, none⟩ v) := by
  obtain ⟨⟨u, h1, h2⟩, hr, hlt⟩ := h
  have h3 : w1.heap[r]? = some (.cells #[u, .int .u64 now] 39 (0, 0)) := (hb.block r (hlt r hr)).trans h1
  refine ⟨fun k => k = r ∨ v.ownBlock = some k, ⟨⟨v, blk_put h3 0 v rfl, ?_⟩, .inl rfl, ?_⟩, ?_, ?_⟩
  · have h5 := Kd.R_mono (Kd.R_tight (by rfl) hv) (ok' := fun k => some k = v.ownBlock) (fun k hk => hk)
    refine Kd.R_mono (ok := fun k => some k = v.ownBlock) (Kd.R_lower (Kd.R_step h5 (fun k hk _ => Below.heap_setCell w1 ⟨r, 0, none⟩ v k (fun e => ?_))) (Nat.zero_le _)) (fun k hk => .inr hk.symm)
    exact RT.not_ref hv h3 (by rw [show r = k from e.symm]; exact hk)
  · rintro k (rfl | e)
    · exact blk_lt (blk_put h3 0 v rfl)
    · have := ((Kd.R_bound hv).1 k e).2.2.1
      simpa [World.setCell] using this
  · rintro k (rfl | e)
    · exact .inl hr
    · exact .inr ((Kd.R_bound hv).1 k e).2.1
  · exact (KeptW.of_below hb).trans (KeptW.of_grown (grown_set w1 r 0 v)) (fun k e => by cases e; exact .inl hr)
theorem ref_New.calls (now : Int) (w : World) : Calls Try.prog 17 #[.int .u64 now] w fun e w' => ∃ r F, e = .returned (.pointer (some ⟨r, 0, none⟩)) ∧ Rst w' F r now [] ∧ (∀ k, F k → w.heap.size ≤ k) ∧ Below w.heap.size w w' := by
  go_enter Try.func17, Try.ntmps17
  go_wp2_with fail
  go_ret
  have hb := blk_new w (.cells #[.slice none 0 0, .int .u64 now] 39 (0, 0))
  exact ⟨w.heap.size, fun k => k = w.heap.size, rfl, ⟨⟨_, hb, Kd.R_nil _ _ _ _ _⟩, rfl, fun k e => by rw [e]; simp⟩, fun k e => by rw [e]; exact Nat.le_refl _, below_alloc (Below.refl _ _) _⟩
set_option maxHeartbeats 2000000 in
set_option maxRecDepth 100000 in
theorem ref_find.calls {w : World} {F : Nat → Prop} {r : Nat} {now : Int} {Ls : List TimT} (h : Rst w F r now Ls) (id : Int) :
    Calls Try.prog 39 #[.pointer (some ⟨r, 0, none⟩), .int .u64 id] w fun e w' => (∃ k : Int, e = .returned (.int .i64 k) ∧ ((k = -1 ∧ hasId Ls id = false) ∨ (∃ i : Nat, i < Ls.length ∧ k = i ∧ (timN Ls i).1 = id ∧ ∀ t, t ∈ Ls.take i → t.1 ≠ id))) ∧ w' = w := by
  obtain ⟨A, c, hb, hC, _⟩ := h.view
  obtain ⟨N, hN⟩ : ∃ N, N = Ls.length := ⟨_, rfl⟩
  rw [← hN] at hb hC
  have d0 := (blk_cell hb 0).trans rfl
  have hN2 : (N : Int) ≤ 9223372036854775807 := by have := hC.2.1; omega
  have HC := Aside0.mk hC
  have HN := Aside0.mk hN
  have HI0 : Aside0 (∀ t, t ∈ Ls.take 0 → t.1 ≠ id) := ⟨fun t ht => by simp at ht⟩
  clear h hb hC hN
  go_enter Try.func39, Try.ntmps39
  go_wp2_with fail
  go_loopw [5] (fun v5 wr => ∃ i : Nat, i ≤ N ∧ v5 = .int .i64 i ∧ wr = w ∧ Aside0 (∀ t, t ∈ Ls.take i → t.1 ≠ id)) (fun v5 _ => N - (intOf v5).toNat)
  case atStart => exact ⟨0, Nat.zero_le _, rfl, rfl, HI0⟩
  case round =>
    clear HI0
    obtain ⟨i, hi, rfl, rfl, HI⟩ := hrel
    by_cases hlt : i < N
    · obtain ⟨ad, hA, h0, h1⟩ := tim_at HC.out i hlt
      subst hA
      obtain ⟨⟨ti, ta⟩, htm⟩ : ∃ t, t = timN Ls i := ⟨_, rfl⟩
      rw [← htm] at h0 h1
      simp only at h0 h1
      have HTM := Aside0.mk htm
      clear htm h1
      by_cases he : ti = id
      · have b1 : (ti == id) = true := beq_iff_eq.mpr he
        have HE := Aside0.mk he
        clear he
        go_wp2_with fail
        go_ret
        exact ⟨⟨_, rfl, .inr ⟨i, by have := HN.out; omega, rfl, by rw [← HTM.out]; exact HE.out, HI.out⟩⟩, rfl⟩
      · have b1 : (ti == id) = false := beq_eq_false_iff_ne.mpr he
        have HI2 : Aside0 (∀ t, t ∈ Ls.take (i + 1) → t.1 ≠ id) := ⟨fun t ht => by
          rw [take_succ' Ls i (by have := HN.out; omega), List.mem_append, List.mem_singleton] at ht
          rcases ht with ht | rfl
          · exact HI.out t ht
          · rw [← HTM.out]; exact he⟩
        clear he HI
        go_wp2_with fail
        go_roundw
        case rel => exact ⟨i + 1, by omega, by go_num, trivial, HI2⟩
        case measure => simp [intOf]; omega
    · obtain rfl : i = N := by omega
      go_wp2_with fail
      go_ret
      refine ⟨⟨_, rfl, .inl ⟨rfl, hasId_false.2 (fun t ht => HI.out t ?_)⟩⟩, rfl⟩
      rw [HN.out, List.take_length]
      exact ht
theorem hasId_at {Ls : List TimT} {i : Nat} {id : Int} (hi : i < Ls.length) (e : (timN Ls i).1 = id) : hasId Ls id = true := by
  unfold hasId
  rw [List.any_eq_true]
  exact ⟨_, timN_mem hi, by simpa using e⟩
theorem atOf_none {Ls : List TimT} {id : Int} (h : hasId Ls id = false) : atOf Ls id = 0 := by
  unfold atOf
  rw [List.find?_eq_none.2 (fun t ht => by simpa using hasId_false.1 h t ht)]
  rfl
set_option maxHeartbeats 1000000 in
set_option maxRecDepth 100000 in
theorem ref_At.all {w : World} {F : Nat → Prop} {r : Nat} {now : Int} {Ls : List TimT} (h : Rst w F r now Ls) (hN : (Ls.map (·.1)).Nodup) (id : Int) :
    Calls Try.prog 52 #[.pointer (some ⟨r, 0, none⟩), .int .u64 id] w fun e w' => e = .returned (.tuple #[.int .u64 (atOf Ls id), .bool (hasId Ls id)]) ∧ w' = w := by
  have H := Aside0.mk h
  have HN := Aside0.mk hN
  clear h hN
  go_enter Try.func52, Try.ntmps52
  go_wp2_with fail
  refine (ref_find.calls H.out id).mono ?_
  rintro e w1 ⟨⟨k, rfl, hk⟩, rfl⟩
  rcases hk with ⟨rfl, hno⟩ | ⟨i, hi, rfl, hid, _⟩
  · have HR : Aside0 (atOf Ls id = 0 ∧ hasId Ls id = false) := ⟨atOf_none hno, hno⟩
    clear hno
    go_wp2_with fail
    go_ret2
    exact ⟨by rw [HR.out.1, HR.out.2]; rfl, rfl⟩
  · obtain ⟨A, c, hb, hC, _⟩ := H.out.view
    obtain ⟨N, hN⟩ : ∃ N, N = Ls.length := ⟨_, rfl⟩
    rw [← hN] at hb hC hi
    have d0 := (blk_cell hb 0).trans rfl
    have hN2 : (N : Int) ≤ 9223372036854775807 := by have := hC.2.1; omega
    obtain ⟨ad, hA, h0, h1⟩ := tim_at hC i hi
    subst hA
    have hm := timN_mem (l := Ls) (j := i) (by omega)
    have HR : Aside0 (atOf Ls id = (timN Ls i).2 ∧ hasId Ls id = true) := ⟨by rw [← hid]; exact atOf_mem HN.out hm, hasId_at (by omega) hid⟩
    obtain ⟨⟨ti, ta⟩, htm⟩ : ∃ t, t = timN Ls i := ⟨_, rfl⟩
    rw [← htm] at h0 h1 HR
    simp only at h0 h1
    clear htm hm hid hC hb hN
    go_wp2_with fail
    go_ret2
    exact ⟨by rw [HR.out.1, HR.out.2]; rfl, rfl⟩
end Go.Proofs.Ytkgdlmgodpgcoaa.Hand
