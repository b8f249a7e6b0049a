/- Disk: a change of a directory. -/
import Derived.Test.YthmkdmdfahhpmaaDskB
namespace Go.Proofs.Ythmkdmdfahhpmaa.Hand
open Go.RowKit Go.Maps Go.Proofs.YthmkdmdfahhpmaaW.PrintWords Go.Proofs.YthmkdmdfahhpmaaW.PrintLast Go.Proofs.YthmkdmdfahhpmaaW.PrintMore Go.Proofs.Ythmkdmdfahhpmaa.Q
set_option linter.unusedVariables false
set_option linter.unusedSimpArgs false
theorem key_of (s : ByteArray) (hs : s.size ≤ 9223372036854775807) : keyOf Try.prog 9 (.string s) = some (ks s) := WideMaps.keyOf_string_mk (P := Try.prog) Try.underlying9 (s := s) (by unfold maxLen; omega)
theorem emp_ne {s : ByteArray} (h : s.size ≠ 0) : (s.toList == ([] : List UInt8)) = false := by
  cases e : (s.toList == ([] : List UInt8)) with
  | false => rfl
  | true =>
    have h2 : s.toList = [] := by simpa using e
    rw [ByteArray.toList_eq] at h2
    exact absurd (by rw [← ByteArray.size_data]; have := congrArg List.length h2; simpa using this) h
theorem emp_eq {s : ByteArray} (h : s.size = 0) : (s.toList == ([] : List UInt8)) = true := by
  have : s.toList = [] := by
    rw [ByteArray.toList_eq]
    refine List.length_eq_zero_iff.1 ?_
    rw [Array.length_toList]
    exact h
  rw [this]
  rfl
set_option maxHeartbeats 2000000 in
theorem disk_turn.calls {w : World} {m : Nat} {l : List Ent} (h : OwnE w m l) (hS : Srt l) (hl : l.length ≤ 2097152) (a b : ByteArray) (f : Int) (ha : a.size ≤ 32) (hb : b.size ≤ 32) (hf : 0 ≤ f ∧ f ≤ 9223372036854775807) :
    Calls Try.prog 48 #[.map (some m), .agg #[.string a, .string b, .int .i64 f]] w fun e w' => (∃ v, e = .returned v) ∧ OwnE w' m (turn l (a, b, f)) ∧ KeptL (fun k => k = m) w w' := by
  obtain ⟨D, hO, hM, hT, hsz⟩ := h.tight hS
  have hmw := h.lt
  have HN := Aside0.mk hS
  have HL := Aside0.mk hl
  obtain ⟨B, hB⟩ : ∃ B, B = w.heap.size := ⟨_, rfl⟩
  have hx := blk_new w (.cells #[.string a, .string b, .int .i64 f] 89 (0, 0))
  have d0 := (blk_cell hx 0).trans rfl
  have d1 := (blk_cell hx 1).trans rfl
  have d2 := (blk_cell hx 2).trans rfl
  have HOA := Aside0.mk (hO.alloc (.cells #[.string a, .string b, .int .i64 f] 89))
  have HM := Aside0.mk hM
  have HT := Aside0.mk hT
  have HX := Aside0.mk hx
  have HK := Aside0.mk ((KeptL.refl (fun k => k = m) w).alloc (.cells #[.string a, .string b, .int .i64 f] 89))
  have HKA := Aside0.mk (key_of a (by omega))
  have HKB := Aside0.mk (key_of b (by omega))
  have HFW := Aside0.mk (intElem_mk (wf_i64 (x := f) (by omega) hf.2))
  have HMB : Aside0 (m ≠ w.heap.size) := ⟨by omega⟩
  by_cases ea : a.size = 0
  · have t0 := emp_eq ea
    by_cases eb : b.size = 0
    · have t1 := emp_eq eb
      have HR : Aside0 (turn l (a, b, f) = l) := ⟨by unfold turn turn1; rw [if_pos eb, if_pos ea]⟩
      clear h hO hM hT hx hS hl ea eb hB
      go_enter Try.func48, Try.ntmps48
      go_wp2_with fail
      go_end0
      exact ⟨⟨_, rfl⟩, by rw [HR.out]; exact ⟨_, _, HOA.out, HM.out⟩, HK.out⟩
    · have t1 := emp_ne eb
      have HR : Aside0 (turn l (a, b, f) = with_ l b f) := ⟨by unfold turn turn1; rw [if_neg eb, if_pos ea]⟩
      obtain ⟨w3, hst, hO3, htu⟩ := World.ownsMap.store HOA.out lawS Try.underlying82 (by unfold maxLen; omega) HKB.out HFW.out
      have HO3 := Aside0.mk hO3
      have HK3 := Aside0.mk (HK.out.grown htu.grown (fun k e => by cases e; exact .inl rfl))
      clear h hO hM hT hx hS hl ea eb hB hO3 htu
      go_enter Try.func48, Try.ntmps48
      go_wp2_with fail
      go_end0
      exact ⟨⟨_, rfl⟩, by rw [HR.out]; exact ⟨_, _, HO3.out, HM.out.put HT.out.isMap f⟩, HK3.out⟩
  · have t0 := emp_ne ea
    by_cases eb : b.size = 0
    · have t1 := emp_eq eb
      have HR : Aside0 (turn l (a, b, f) = without l a) := ⟨by unfold turn turn1; rw [if_pos eb, if_neg ea]⟩
      clear h hO hM hT hS hl ea eb hB
      go_enter Try.func48, Try.ntmps48
      go_wp2_with (first
        | (at_delete; refine wpList_delete_own _ rfl _ _ 82 9 rfl 3 lawS Try.underlying82 intElem m _ D rfl HOA.out _ _ rfl HKA.out ?_; intro w6 ho6 hturn; have HO6 := Aside0.mk ho6; have hx6 := blk_grown hx hturn.grown (fun e => HMB.out (Option.some.inj e).symm); have q1 := (blk_cell hx6 1).trans rfl; have HK6 := Aside0.mk (HK.out.grown hturn.grown (fun k e => by cases e; exact .inl rfl)); clear ho6 hturn hx hx6)
        | fail)
      go_end0
      exact ⟨⟨_, rfl⟩, by rw [HR.out]; exact ⟨_, _, HO6.out, HM.out.del⟩, HK6.out⟩
    · have t1 := emp_ne eb
      have HR : Aside0 (turn l (a, b, f) = with_ (without l a) b f) := ⟨by unfold turn turn1; rw [if_neg eb, if_neg ea]⟩
      clear h hO hM hT hS hl ea eb hB
      go_enter Try.func48, Try.ntmps48
      go_wp2_with (first
        | (at_delete; refine wpList_delete_own _ rfl _ _ 82 9 rfl 3 lawS Try.underlying82 intElem m _ D rfl HOA.out _ _ rfl HKA.out ?_; intro w6 ho6 hturn; have HM6 := HM.out.del (s := a); have hO6' : OwnE w6 m (without l a) := ⟨_, _, ho6, HM6⟩; obtain ⟨D6, hO7, hM7, hT7, hz7⟩ := hO6'.tight (HN.out.without a); obtain ⟨w3, hst, hO3, htu⟩ := World.ownsMap.store hO7 lawS Try.underlying82 (by have h1 := without_len l a; have h2 := HL.out; unfold maxLen; omega) HKB.out HFW.out; have HO3 := Aside0.mk hO3; have HM7 := Aside0.mk hM7; have HT7 := Aside0.mk hT7; have hx6 := blk_grown hx hturn.grown (fun e => HMB.out (Option.some.inj e).symm); have q1 := (blk_cell hx6 1).trans rfl; have q2 := (blk_cell hx6 2).trans rfl; have HK6 := Aside0.mk (HK.out.grown hturn.grown (fun k e => by cases e; exact .inl rfl)); have HK3 := Aside0.mk (HK6.out.grown htu.grown (fun k e => by cases e; exact .inl rfl)); clear ho6 hturn hx hx6 HM6 hO6' hO7 hM7 hT7 hz7 hO3 htu)
        | fail)
      go_end0
      exact ⟨⟨_, rfl⟩, by rw [HR.out]; exact ⟨_, _, HO3.out, HM7.out.put HT7.out.isMap f⟩, HK3.out⟩
end Go.Proofs.Ythmkdmdfahhpmaa.Hand
