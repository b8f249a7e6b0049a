/- Wheel: every call, told by the list of the timers. -/
import Derived.Test.YtkgdlmgodpgcoaaWhlM
namespace Go.Proofs.Ytkgdlmgodpgcoaa.Hand
open Go.RowKit Go.Maps Go.Proofs.YtkgdlmgodpgcoaaW.PrintWords Go.Proofs.YtkgdlmgodpgcoaaW.PrintLast Go.Proofs.YtkgdlmgodpgcoaaW.PrintMore
set_option linter.unusedVariables false
set_option linter.unusedSimpArgs false

def addE (now : Int) (Ls : List TimT) (id at_ : Int) : Int := if hasId Ls id = true then 8 else if at_ ≤ now then 70 else if 8192 ≤ Ls.length then 5 else 0
def addL (now : Int) (Ls : List TimT) (id at_ : Int) : List TimT := if addE now Ls id at_ = 0 then Ls ++ [(id, at_)] else Ls
theorem addE_zero {now : Int} {Ls : List TimT} {id at_ : Int} (h : addE now Ls id at_ = 0) : hasId Ls id = false ∧ now < at_ ∧ Ls.length < 8192 := by
  unfold addE at h
  by_cases h1 : hasId Ls id = true
  · rw [if_pos h1] at h; cases h
  · rw [if_neg h1] at h
    by_cases h2 : at_ ≤ now
    · rw [if_pos h2] at h; cases h
    · rw [if_neg h2] at h
      by_cases h3 : 8192 ≤ Ls.length
      · rw [if_pos h3] at h; cases h
      · exact ⟨by simpa using h1, by omega, by omega⟩
theorem Facts.add {D : DT} {L : Nat → List TimT} {now : Int} {Ls : List TimT} (h : Facts D L now Ls) {id at_ : Int} (hid : U id) (ha : U at_) (h0 : hasId Ls id = false) (h1 : now < at_) (h2 : Ls.length < 8192) :
    Facts (D.put (.int .u64 id) (.lit (.int .u64 at_))) (fun i => if i = slotD at_ now then L i ++ [(id, at_)] else L i) now (Ls ++ [(id, at_)]) := by
  refine ⟨h.map.put (t := (id, at_)) h0, fun k hk => ?_, fun t ht => ?_, ?_, by rw [List.length_append, List.length_singleton]; omega, h.now_, fun s hs => ?_⟩
  · rw [List.filter_append, List.filter_cons]
    show (if k = slotD at_ now then L k ++ [(id, at_)] else L k).Perm _
    by_cases e : k = slotD at_ now
    · rw [if_pos e, if_pos (by simpa using e.symm)]
      exact (h.slots k hk).append (List.Perm.refl _)
    · rw [if_neg e, if_neg (by simpa using (fun e2 => e (Eq.symm e2))), List.filter_nil, List.append_nil]
      exact h.slots k hk
  · rcases List.mem_append.1 ht with ht | ht
    · exact h.ok t ht
    · rw [List.mem_singleton] at ht
      subst ht
      exact ⟨⟨hid, ha⟩, h1⟩
  · rw [List.map_append, List.nodup_append]
    refine ⟨h.nodup, by simp, fun a ha b hb e => ?_⟩
    obtain ⟨t, ht, rfl⟩ := List.mem_map.1 ha
    have hb2 : b = id := by simpa using hb
    exact hasId_false.1 h0 t ht (e.trans hb2)
  · show (if s = slotD at_ now then L s ++ [(id, at_)] else L s) = []
    rw [if_neg (by have := slotD_lt at_ now; omega)]
    exact h.beyond s hs
set_option maxHeartbeats 1000000 in
theorem wheel_Add.all {w : World} {F : Nat → Prop} {g m : Nat} {now : Int} {Ls : List TimT} (h : Wst w F g m now Ls) (id at_ : Int) (hid : U id) (ha : U at_) :
    Calls Try.prog 18 #[.pointer (some ⟨g, 0, none⟩), .int .u64 id, .int .u64 at_] w fun e w' => e = .returned (.int .i64 (addE now Ls id at_)) ∧ ∃ F', Wst w' F' g m now (addL now Ls id at_) ∧ (∀ k, F' k → F k ∨ w.heap.size ≤ k) ∧ KeptW F w w' := by
  obtain ⟨D, R, f, L, hS, hF⟩ := h.open_
  have bad : ∀ e : Int, addE now Ls id at_ = e → e ≠ 0 → ((Maps.has D (.int .u64 id) = true ∧ e = 8) ∨ (Maps.has D (.int .u64 id) = false ∧ at_ ≤ now ∧ e = 70) ∨ (Maps.has D (.int .u64 id) = false ∧ now < at_ ∧ 8192 ≤ Maps.size D ∧ e = 5)) →
      Calls Try.prog 18 #[.pointer (some ⟨g, 0, none⟩), .int .u64 id, .int .u64 at_] w fun e w' => e = .returned (.int .i64 (addE now Ls id at_)) ∧ ∃ F', Wst w' F' g m now (addL now Ls id at_) ∧ (∀ k, F' k → F k ∨ w.heap.size ≤ k) ∧ KeptW F w w' := fun e he hne hc => by
    refine (wheel_Add.bad g m _ now id at_ D R w hS.whl hS.due hid e hc).mono ?_
    rintro x w' ⟨rfl, rfl⟩
    refine ⟨by rw [he], F, ?_, fun k hk => .inl hk, KeptW.refl _ _⟩
    unfold addL
    rw [he, if_neg hne]
    exact h
  have hh := hF.map.has_ id
  have hz := hF.map.size
  by_cases h1 : hasId Ls id = true
  · exact bad 8 (by unfold addE; rw [if_pos h1]) (by decide) (.inl ⟨hh.trans h1, rfl⟩)
  · have h1' : hasId Ls id = false := by simpa using h1
    by_cases h2 : at_ ≤ now
    · exact bad 70 (by unfold addE; rw [if_neg h1, if_pos h2]) (by decide) (.inr (.inl ⟨hh.trans h1', h2, rfl⟩))
    · by_cases h3 : 8192 ≤ Ls.length
      · exact bad 5 (by unfold addE; rw [if_neg h1, if_neg h2, if_pos h3]) (by decide) (.inr (.inr ⟨hh.trans h1', by omega, by omega, rfl⟩))
      · have h0 : addE now Ls id at_ = 0 := by unfold addE; rw [if_neg h1, if_neg h2, if_neg h3]
        refine (wheel_Add.good w 0 _ g m _ now id at_ (xr at_ now) D R f L w hS rfl (xr_nonneg ha.1 ha.2 hF.now_.1 hF.now_.2) ha (wf_u64 hid.1 hid.2) (wf_u64 ha.1 ha.2) (hh.trans h1') (by omega) (by omega) (by omega) (fun i => Nat.le_trans (hF.each_le i) (by omega))).mono ?_
        rintro e w' ⟨rfl, R', f', hS'⟩
        rw [slot_xr ha hF.now_] at hS'
        refine ⟨by rw [h0], ?_⟩
        unfold addL
        rw [if_pos h0]
        exact Wst.close hS' (hF.add hid ha h1' (by omega) (by omega))
def remE (Ls : List TimT) (id : Int) : Int := if hasId Ls id = true then 0 else 7
theorem without_self {Ls : List TimT} {id : Int} (h : hasId Ls id = false) : without Ls id = Ls := by
  unfold without
  rw [List.filter_eq_self]
  intro t ht
  simpa using hasId_false.1 h t ht
theorem Facts.rem {D : DT} {L : Nat → List TimT} {now : Int} {Ls : List TimT} (h : Facts D L now Ls) {t : TimT} (ht : t ∈ Ls) :
    Facts (D.del (.int .u64 t.1)) (fun i => if i = slotD t.2 now then without (L i) t.1 else L i) now (without Ls t.1) := by
  refine ⟨h.map.del t.1, fun k hk => ?_, fun u hu => h.ok u (List.mem_filter.1 hu).1, h.nodup.sublist (List.Sublist.map _ (List.filter_sublist)), Nat.le_trans (List.length_filter_le _ _) h.len, h.now_, fun s hs => ?_⟩
  · show (if k = slotD t.2 now then without (L k) t.1 else L k).Perm _
    unfold without
    rw [List.filter_filter]
    by_cases e : k = slotD t.2 now
    · rw [if_pos e]
      refine ((h.slots k hk).filter _).trans ?_
      rw [List.filter_filter, List.filter_congr (fun u _ => Bool.and_comm _ _)]
    · rw [if_neg e]
      refine (h.slots k hk).trans ?_
      rw [List.filter_congr (fun u hu => ?_)]
      rw [Bool.eq_iff_iff]
      simp
      intro h1 h2
      have := nodup_eq h.nodup hu ht h2
      rw [this] at h1
      exact e h1.symm
  · show (if s = slotD t.2 now then without (L s) t.1 else L s) = []
    rw [if_neg (by have := slotD_lt t.2 now; omega)]
    exact h.beyond s hs
set_option maxHeartbeats 1000000 in
theorem wheel_Remove.all {w : World} {F : Nat → Prop} {g m : Nat} {now : Int} {Ls : List TimT} (h : Wst w F g m now Ls) (id : Int) (hid : U id) :
    Calls Try.prog 27 #[.pointer (some ⟨g, 0, none⟩), .int .u64 id] w fun e w' => e = .returned (.int .i64 (remE Ls id)) ∧ ∃ F', Wst w' F' g m now (without Ls id) ∧ (∀ k, F' k → F k ∨ w.heap.size ≤ k) ∧ KeptW F w w' := by
  obtain ⟨D, R, f, L, hS, hF⟩ := h.open_
  have hh := hF.map.has_ id
  by_cases h1 : hasId Ls id = true
  · obtain ⟨t, ht, rfl⟩ := hasId_mem h1
    obtain ⟨hok, hlt⟩ := hF.ok t ht
    have hmem : t ∈ L (slotD t.2 now) := (hF.slots _ (slotD_lt _ _)).mem_iff.2 (List.mem_filter.2 ⟨ht, by simp⟩)
    refine (wheel_Remove.good w 0 _ g m _ now t.1 t.2 D R f L w hS hid (hh.trans h1) (hF.map.at_ hF.nodup ht _) hok.2 hF.now_ (fun i => Nat.le_trans (hF.each_le i) (by omega)) (fun e => by rw [e] at hmem; cases hmem)).mono ?_
    rintro e w' ⟨rfl, R', hS'⟩
    exact ⟨by unfold remE; rw [if_pos h1], Wst.close hS' (hF.rem ht)⟩
  · have h1' : hasId Ls id = false := by simpa using h1
    refine (wheel_Remove.none_ g m _ now id D R w hS.whl hS.due hid (hh.trans h1')).mono ?_
    rintro e w' ⟨rfl, hb⟩
    have hk := KeptW.of_below (F := F) hb
    refine ⟨by unfold remE; rw [if_neg h1], F, ?_, fun k hk => .inl hk, hk⟩
    rw [without_self h1']
    exact h.kept (KeptW.of_below (F := fun _ => False) hb) (fun _ _ h => h)
theorem sorted_congr {l l' : List TimT} (h : l.Perm l') : sorted l = sorted l' := sorted_eq (h.trans (sorted_perm l').symm) (sorted_pair l')
theorem Facts.advance {D : DT} {L : Nat → List TimT} {now tz : Int} {Ls ts : List TimT} (h : Facts D L now Ls) (hz : U tz) (hle : now ≤ tz) (hts : ts.Perm (Ls.filter (isOver tz))) :
    Facts (dels D ts) (relo tz (gone L (endD tz now)) (allT (isStay tz) L (endD tz now))) tz (Ls.filter (isStay tz)) := by
  have hS := h.slots.advance h.now_.1 hz hle (fun t ht => (h.ok t ht).2) (fun t ht => (h.ok t ht).1.2)
  refine ⟨?_, hS, fun t ht => ?_, h.nodup.sublist (List.Sublist.map _ (List.filter_sublist)), Nat.le_trans (List.length_filter_le _ _) h.len, hz, fun s hs => ?_⟩
  · have h2 := h.map.dels (ts := ts)
    rw [List.filter_congr (q := isStay tz) (fun t ht => ?_)] at h2
    · exact h2
    · rw [Bool.eq_iff_iff]
      unfold isStay
      simp only [Bool.not_eq_true']
      rw [hasId_false]
      constructor
      · intro h3
        cases ho : isOver tz t with
        | false => rfl
        | true => exact absurd rfl (h3 t (hts.mem_iff.2 (List.mem_filter.2 ⟨ht, ho⟩)))
      · intro h3 u hu e
        obtain ⟨hu1, hu2⟩ := List.mem_filter.1 (hts.mem_iff.1 hu)
        rw [nodup_eq h.nodup hu1 ht e, h3] at hu2
        cases hu2
  · obtain ⟨h1, h2⟩ := List.mem_filter.1 ht
    refine ⟨(h.ok t h1).1, ?_⟩
    unfold isStay isOver at h2
    simpa using h2
  · have hp := allT_slots h.slots (isStay tz) (endD tz now) (by unfold endD; rcases ringD_cases tz now with ⟨e, _⟩ | ⟨e, _⟩ | ⟨e, _⟩ | ⟨e, _⟩ | ⟨e, _⟩ <;> rw [e] <;> simp)
    rw [relo_at tz s hz _ _ (fun t ht => (h.ok t (List.mem_filter.1 (hp.mem_iff.1 ht)).1).1.2)]
    rw [List.filter_eq_nil_iff.2 (fun t _ => by have := slotD_lt t.2 tz; simp; omega), List.append_nil]
    unfold gone
    split
    · rfl
    · exact h.beyond s hs
theorem wheel_Advance.gone (g m : Nat) (now tz : Int) (R : Nat → Value) (w : World) (hW : WhlAt w g m now R) (hlt : tz < now) :
    Calls Try.prog 23 #[.pointer (some ⟨g, 0, none⟩), .int .u64 tz] w fun e w' => e = .returned (.tuple #[.slice none 0 0, .int .i64 70]) ∧ w' = w := by
  have c0 := hW.now_
  have b1 : decide (tz < now) = true := decide_eq_true hlt
  clear hW hlt
  go_enter Try.func23, Try.ntmps23
  go_wp2_with fail
  go_ret2
  exact ⟨rfl, rfl⟩
/-- A row of numbers of its own, on blocks that are ok. -/
abbrev NR (w : World) (ok : Nat → Prop) (v : Value) (l : List Int) : Prop := Kd.R (Kd.int .u64) 22 w 0 ok v l
set_option maxHeartbeats 1000000 in
theorem wheel_Advance.all {w : World} {F : Nat → Prop} {g m : Nat} {now : Int} {Ls : List TimT} (h : Wst w F g m now Ls) (tz : Int) (hz : U tz) (hle : now ≤ tz) :
    Calls Try.prog 23 #[.pointer (some ⟨g, 0, none⟩), .int .u64 tz] w fun e w' => ∃ v F', e = .returned (.tuple #[v, .int .i64 0]) ∧ Wst w' F' g m tz (Ls.filter (isStay tz)) ∧ (∀ k, F' k → F k ∨ w.heap.size ≤ k) ∧ KeptW F w w' ∧ NR w' (fun k => (F k ∨ w.heap.size ≤ k) ∧ ¬ F' k) v ((sorted (Ls.filter (isOver tz))).map (·.1)) := by
  obtain ⟨D, R, f, L, hS, hF⟩ := h.open_
  have hen : endOf (xr tz now) = endD tz now := end_xr hz hF.now_
  have hov := hF.slots.over (tz := tz) hF.now_.1 (fun t ht => (hF.ok t ht).2)
  refine (wheel_Advance.good w 0 _ g m _ now tz (xr tz now) D R f L w hS rfl (xr_nonneg hz.1 hz.2 hF.now_.1 hF.now_.2) hle hF.now_.1 hz.2 (fun k hk t ht => (hF.ok t (hF.mem hk ht)).1) (Nat.le_trans hF.tot_le (by omega)) (fun s hs => by rw [hF.beyond s hs]; exact Nat.zero_le _)).mono ?_
  rintro e w' ⟨R', f', v, rfl, hS', hI⟩
  rw [hen] at hS' hI
  rw [sorted_congr hov] at hS' hI
  have hF' := hF.advance hz hle (sorted_perm (Ls.filter (isOver tz)))
  refine ⟨v, fun k => k = g ∨ k = m ∨ ∃ i, i < 257 ∧ (R' i).ownBlock = some k, rfl, ⟨⟨_, R', _, hS'.whl, hS'.due.resize, fun i hi => ?_, ?_, hF'⟩, .inl rfl, .inr (.inl rfl), ?_⟩, ?_, ⟨hS'.bel, fun k hk hn => hS'.keep k ⟨hk, hn⟩⟩, ?_⟩
  · exact Kd.R_mono (Kd.R_tight (by rfl) (hS'.row i hi)) (fun k hk => .inr (.inr ⟨i, hi, hk.symm⟩))
  · intro i j hi hj k e1 e2
    exact ((hS'.row i hi).1 k e1).symm.trans ((hS'.row j hj).1 k e2)
  · rintro k (rfl | rfl | ⟨i, hi, e⟩)
    · exact hS'.whl.lt
    · exact World.ownsMap.lt hS'.due
    · exact ((Kd.R_bound (hS'.row i hi)).1 k e).2.2.1
  · intro k hk
    by_cases h1 : F k
    · exact .inl h1
    · rcases Nat.lt_or_ge k w.heap.size with h2 | h2
      · obtain ⟨_, h3, h4, h5⟩ := hS'.prot k ⟨h2, h1⟩
        rcases hk with rfl | rfl | ⟨i, hi, e⟩
        · exact absurd rfl h4
        · exact absurd rfl h5
        · have h6 : f' k = i := (hS'.row i hi).1 k e
          omega
      · exact .inr h2
  · refine Kd.R_mono (Kd.R_tight2 (by rfl) hI) (fun k hk => ⟨?_, ?_⟩)
    · by_cases h1 : F k
      · exact .inl h1
      · rcases Nat.lt_or_ge k w.heap.size with h2 | h2
        · obtain ⟨_, h3, _⟩ := hS'.prot k ⟨h2, h1⟩
          have := hk.2
          omega
        · exact .inr h2
    · rintro (rfl | rfl | ⟨i, hi, e⟩)
      · exact KR.not_wheel hI (by decide) hS'.whl hk.1
      · exact KR.not_map hI hS'.due hk.1
      · have h6 : f' k = i := (hS'.row i hi).1 k e
        have := hk.2
        omega
theorem wheel_Advance.back {w : World} {F : Nat → Prop} {g m : Nat} {now : Int} {Ls : List TimT} (h : Wst w F g m now Ls) (tz : Int) (hlt : tz < now) :
    Calls Try.prog 23 #[.pointer (some ⟨g, 0, none⟩), .int .u64 tz] w fun e w' => e = .returned (.tuple #[.slice none 0 0, .int .i64 70]) ∧ w' = w := by
  obtain ⟨D, R, f, L, hS, hF⟩ := h.open_
  exact wheel_Advance.gone g m now tz R w hS.whl hlt
theorem wheel_Len.all {w : World} {F : Nat → Prop} {g m : Nat} {now : Int} {Ls : List TimT} (h : Wst w F g m now Ls) : Calls Try.prog 20 #[.pointer (some ⟨g, 0, none⟩)] w fun e w' => e = .returned (.int .i64 Ls.length) ∧ w' = w := by
  obtain ⟨D, R, f, L, hS, hF⟩ := h.open_
  have := wheel_Len.calls g m _ now R D w hS.whl hS.due
  rwa [hF.map.size] at this
theorem wheel_Now.all {w : World} {F : Nat → Prop} {g m : Nat} {now : Int} {Ls : List TimT} (h : Wst w F g m now Ls) : Calls Try.prog 30 #[.pointer (some ⟨g, 0, none⟩)] w fun e w' => e = .returned (.int .u64 now) ∧ w' = w := by
  obtain ⟨D, R, f, L, hS, hF⟩ := h.open_
  exact wheel_Now.calls g m now R w hS.whl
def atOf (Ls : List TimT) (id : Int) : Int := ((Ls.find? fun t => decide (t.1 = id)).map (·.2)).getD 0
theorem atOf_mem {Ls : List TimT} (hN : (Ls.map (·.1)).Nodup) {t : TimT} (ht : t ∈ Ls) : atOf Ls t.1 = t.2 := by
  unfold atOf
  cases hf : Ls.find? (fun u => decide (u.1 = t.1)) with
  | none => exact absurd (List.find?_eq_none.1 hf t ht) (by simp)
  | some u =>
    have h1 := List.mem_of_find?_eq_some hf
    have h2 := List.find?_some hf
    rw [nodup_eq hN h1 ht (by simpa using h2)]
    rfl
theorem wheel_At.all {w : World} {F : Nat → Prop} {g m : Nat} {now : Int} {Ls : List TimT} (h : Wst w F g m now Ls) (id : Int) (hid : U id) : Calls Try.prog 31 #[.pointer (some ⟨g, 0, none⟩), .int .u64 id] w fun e w' => e = .returned (.tuple #[.int .u64 (atOf Ls id), .bool (hasId Ls id)]) ∧ w' = w := by
  obtain ⟨D, R, f, L, hS, hF⟩ := h.open_
  refine (wheel_At.calls g m _ now id D R w hS.whl hS.due hid).mono ?_
  rintro e w' ⟨u, rfl, hu, rfl⟩
  rw [hF.map.has_]
  refine ⟨?_, rfl⟩
  congr 4
  by_cases h1 : hasId Ls id = true
  · obtain ⟨t, ht, rfl⟩ := hasId_mem h1
    rw [hF.map.at_ hF.nodup ht] at hu
    rw [atOf_mem hF.nodup ht]
    injection hu with hu
    injection hu with _ hu
    rw [hu]
  · have h2 := (hF.map.has_ id).trans (by simpa using h1 : hasId Ls id = false)
    rw [Maps.atKey_of_not_has h2] at hu
    injection hu with hu
    injection hu with _ hu
    unfold atOf
    rw [List.find?_eq_none.2 (fun t ht => by simpa using hasId_false.1 (by simpa using h1) t ht), ← hu]
    rfl
end Go.Proofs.Ytkgdlmgodpgcoaa.Hand
