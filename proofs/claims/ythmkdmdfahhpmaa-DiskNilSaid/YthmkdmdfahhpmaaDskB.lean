/- Disk: the program's small functions: find, goes, Count, Dead, Free, Arm. -/
import Derived.Test.YthmkdmdfahhpmaaDskA
namespace Go.Proofs.Ythmkdmdfahhpmaa.Hand
open Go.RowKit Go.Maps Go.Proofs.YthmkdmdfahhpmaaW.PrintWords Go.Proofs.YthmkdmdfahhpmaaW.PrintLast Go.Proofs.YthmkdmdfahhpmaaW.PrintMore Go.Proofs.Ythmkdmdfahhpmaa.Q
set_option linter.unusedVariables false
set_option linter.unusedSimpArgs false
theorem ptr_at {w : World} {A : Option Addr} {n : Nat} {xs : List Nat} (h : Kd.C kP w A n xs) (i : Nat) (h1 : i < n) : ∃ ad, A = some ad ∧ w.cell? (ad.add i) = some (.pointer (some ⟨xs.getD i 0, 0, none⟩)) := by
  obtain ⟨ad, c, e, _, hK, hc0⟩ := Kd.C_get h 0 (i : Int) (by omega) (by omega)
  rw [Int.toNat_natCast] at hK hc0
  have hc : c = [.pointer (some ⟨xs.getD i 0, 0, none⟩)] := hK
  subst hc
  have h2 := hc0 0 _ rfl
  have e2 : i * kP.sz + 0 = i := by show i * 1 + 0 = i; omega
  rw [e2] at h2
  exact ⟨ad, e, h2⟩
theorem getD_map1 {fm : List FM} {i : Nat} (h : i < fm.length) : (fm.map (·.1)).getD i 0 = (fm.getD i fm0).1 := by
  rw [List.getD_eq_getElem?_getD, List.getD_eq_getElem?_getD, List.getElem?_map, List.getElem?_eq_getElem h]
  rfl
theorem iv_inj {a b : Int} (h : iv a = iv b) : a = b := by
  unfold iv at h
  injection h with h
  injection h
/-- What the directory's map tells of a name. -/
theorem dir_look {w : World} {m : Nat} {l : List Ent} (h : OwnE w m l) (s : ByteArray) (hs : s.size ≤ 9223372036854775807) :
    ∃ i : Int, (Instr.lookup 82 (.map (some m)) (.string s) true).run Try.prog w = .ok (.tuple #[.int .i64 i, .bool (has l s).isSome]) w ∧ ∀ e, has l s = some e → i = e.2 := by
  obtain ⟨n, D, hO, hM⟩ := h
  have hkey := WideMaps.keyOf_string_mk (P := Try.prog) Try.underlying9 (s := s) (by unfold maxLen; omega)
  obtain ⟨v, ps, hlook, hv⟩ := hO.look_ok lawS Try.underlying82 (Try.zeroValue3 _) (intElem_mk (i := 0) (by decide)) hkey
  obtain ⟨i, rfl, hvd, hw⟩ := intElem_inv hv
  have hl := hM.look_ s
  have hhas : Maps.has D (Lit.string s.data.toList) = (has l s).isSome := by
    show Maps.has D (ks s) = _
    rw [has_view, hl, Option.isSome_map]
  rw [hhas] at hlook
  refine ⟨i, hlook, fun e he => ?_⟩
  rw [he] at hl
  unfold view at hl
  split at hl
  · have h1 : D.atKey (ks s) (iv 0) = iv e.2 := by simpa using hl
    have h2 : D.atKey (ks s) (iv 0) = iv i := by
      have := congrArg Prod.fst hvd
      exact this
    exact iv_inj (h2.symm.trans h1)
  · cases hl
set_option maxHeartbeats 1000000 in
theorem disk_find.calls {w : World} {F : Nat → Prop} {d : Nat} {S : DS} {u : Int} {md ms : Nat} {vf vc : Value} {fm : List FM} (h : DskM w F d S u md ms vf vc fm) (hD : ∀ e, e ∈ S.dir → 0 ≤ e.2 ∧ e.2 < S.files.length) (n : ByteArray) (hn : n.size ≤ 9223372036854775807) :
    Calls Try.prog 61 #[.pointer (some ⟨d, 0, none⟩), .string n] w fun e w' => w' = w ∧ ((has S.dir n = none ∧ e = .returned (.pointer none)) ∨ ∃ en, has S.dir n = some en ∧ e = .returned (.pointer (some ⟨(fm.getD en.2.toNat fm0).1, 0, none⟩))) := by
  obtain ⟨A, c, rfl, hc, hC⟩ := Kd.R_reads h.own
  obtain ⟨i, hlook, hi⟩ := dir_look h.dir n hn
  have c2 := (blk_cell h.blk 2).trans rfl
  have c3 := (blk_cell h.blk 3).trans rfl
  rw [List.length_map] at hC c2
  have hl := h.len
  cases hh : has S.dir n with
  | none =>
    rw [hh] at hlook
    simp only [Option.isSome_none] at hlook
    clear h hD hC hi hh hl
    go_enter Try.func61, Try.ntmps61
    go_wp2_with fail
    go_ret
    exact ⟨rfl, .inl ⟨by first | rfl | trivial, rfl⟩⟩
  | some en =>
    rw [hh] at hlook
    simp only [Option.isSome_some] at hlook
    have hb := hD en (has_some hh).1
    obtain ⟨j, hj⟩ : ∃ j : Nat, (j : Int) = en.2 := ⟨en.2.toNat, by omega⟩
    have hij : i = (j : Int) := (hi en hh).trans hj.symm
    subst hij
    have hjn : en.2.toNat = j := by omega
    obtain ⟨ad, rfl, hp⟩ := ptr_at hC j (by omega)
    rw [getD_map1 (by omega)] at hp
    have hj1 : j < fm.length := by omega
    obtain ⟨b, hb2⟩ : ∃ b, b = (fm.getD j fm0).1 := ⟨_, rfl⟩
    rw [← hb2] at hp
    have HJN : Aside0 ((fm.getD en.2.toNat fm0).1 = b) := ⟨by rw [hjn, hb2]⟩
    clear h hD hC hi hh hl hb hj hjn hb2
    go_enter Try.func61, Try.ntmps61
    go_wp2_with fail
    go_ret
    exact ⟨rfl, .inr ⟨en, by first | rfl | trivial, by rw [HJN.out]; rfl⟩⟩
theorem blkD_put {w : World} {d : Nat} {cs : Array Value} (h : w.heap[d]? = some (.cells cs 87 (0, 0))) (j : Nat) (v : Value) {cs' : Array Value} (e : cs.setIfInBounds j v = cs') : (w.setCell ⟨d, j, none⟩ v).heap[d]? = some (.cells cs' 87 (0, 0)) := blk_put h j v e
set_option maxHeartbeats 1000000 in
theorem disk_goes.calls {w : World} {F : Nat → Prop} {d : Nat} {S : DS} {u : Int} {md ms : Nat} {vf vc : Value} {fm : List FM} (h : DskM w F d S u md ms vf vc fm) (hA : 0 ≤ S.armed ∧ S.armed ≤ 9223372036854775807) (hO : 0 ≤ S.ops ∧ S.ops < 1048576) :
    Calls Try.prog 53 #[.pointer (some ⟨d, 0, none⟩)] w fun e w' => e = .returned (.int .i64 (goes S).2) ∧ DskM w' F d (goes S).1 u md ms vf vc fm ∧ KeptL (fun k => k = d) w w' := by
  have H := Aside0.mk h
  have c6 := (blk_cell h.blk 6).trans rfl
  have c7 := (blk_cell h.blk 7).trans rfl
  have c8 := (blk_cell h.blk 8).trans rfl
  have z6 := blk_frozen h.blk 6
  have z7 := blk_frozen h.blk 7
  have z8 := blk_frozen h.blk 8
  rcases goes_cases S with ⟨a, b, e⟩ | ⟨a, b, e⟩ | ⟨a, e⟩
  · have HE := Aside0.mk e
    have b1 : decide (S.armed > 0) = true := decide_eq_true a
    have b2 : (S.armed - 1 == 0) = true := by simpa using b
    have HA1 : Aside0 (S.armed - 1 = 0) := ⟨b⟩
    clear h e a b
    go_enter Try.func53, Try.ntmps53
    go_wp2_with fail
    go_ret
    rw [HE.out]
    have hk := ((KeptL.refl (fun k => k = d) w).setCell ⟨d, 7, none⟩ (.int .i64 (S.armed - 1)) (.inl rfl)).setCell ⟨d, 8, none⟩ (.bool true) (.inl rfl)
    exact ⟨rfl, H.out.turnD hk (blkD_put (blkD_put H.out.blk 7 _ rfl) 8 _ (by rw [HA1.out]; rfl)) rfl rfl rfl rfl, hk⟩
  · have HE := Aside0.mk e
    have b1 : decide (S.armed > 0) = true := decide_eq_true a
    have b2 : (S.armed - 1 == 0) = false := by simpa using b
    clear h e a b
    go_enter Try.func53, Try.ntmps53
    go_wp2_with fail
    go_ret
    rw [HE.out]
    have hk := ((KeptL.refl (fun k => k = d) w).setCell ⟨d, 7, none⟩ (.int .i64 (S.armed - 1)) (.inl rfl)).setCell ⟨d, 6, none⟩ (.int .i64 (S.ops + 1)) (.inl rfl)
    exact ⟨rfl, H.out.turnD hk (blkD_put (blkD_put H.out.blk 7 _ rfl) 6 _ rfl) rfl rfl rfl rfl, hk⟩
  · have HE := Aside0.mk e
    have b1 : decide (S.armed > 0) = false := decide_eq_false a
    clear h e a
    go_enter Try.func53, Try.ntmps53
    go_wp2_with fail
    go_ret
    rw [HE.out]
    have hk := (KeptL.refl (fun k => k = d) w).setCell ⟨d, 6, none⟩ (.int .i64 (S.ops + 1)) (.inl rfl)
    exact ⟨rfl, H.out.turnD hk (blkD_put H.out.blk 6 _ rfl) rfl rfl rfl rfl, hk⟩
set_option maxHeartbeats 1000000 in
theorem disk_Count.calls {w : World} {F : Nat → Prop} {d : Nat} {S : DS} (h : DskAt w F d S) : Calls Try.prog 20 #[.pointer (some ⟨d, 0, none⟩)] w fun e w' => e = .returned (.int .i64 S.ops) ∧ w' = w := by
  obtain ⟨hI, md, ms, vf, vc, fm, h1⟩ := h
  have c6 := (blk_cell h1.blk 6).trans rfl
  clear h1
  go_enter Try.func20, Try.ntmps20
  go_wp2_with fail
  go_ret
  exact ⟨rfl, rfl⟩
set_option maxHeartbeats 1000000 in
theorem disk_Dead.calls {w : World} {F : Nat → Prop} {d : Nat} {S : DS} (h : DskAt w F d S) : Calls Try.prog 21 #[.pointer (some ⟨d, 0, none⟩)] w fun e w' => e = .returned (.bool S.dead) ∧ w' = w := by
  obtain ⟨hI, md, ms, vf, vc, fm, h1⟩ := h
  have c8 := (blk_cell h1.blk 8).trans rfl
  clear h1
  go_enter Try.func21, Try.ntmps21
  go_wp2_with fail
  go_ret
  exact ⟨rfl, rfl⟩
set_option maxHeartbeats 1000000 in
theorem disk_Free.calls {w : World} {F : Nat → Prop} {d : Nat} {S : DS} (h : DskAt w F d S) : Calls Try.prog 36 #[.pointer (some ⟨d, 0, none⟩)] w fun e w' => e = .returned (.int .i64 (freeOf S)) ∧ Below w.heap.size w w' := by
  obtain ⟨hI, md, ms, vf, vc, fm, h1⟩ := h
  have c0 := (blk_cell h1.blk 0).trans rfl
  have c1 := (blk_cell h1.blk 1).trans rfl
  have c8 := (blk_cell h1.blk 8).trans rfl
  have hu := hI.usedB
  have hr := hI.roomB
  cases hd : S.dead with
  | true =>
    rw [hd] at c8
    have HF : Aside0 (freeOf S = 0) := ⟨by unfold freeOf; rw [hd]; rfl⟩
    clear h1 hd
    go_enter Try.func36, Try.ntmps36
    go_wp2_with fail
    go_ret
    exact ⟨by rw [HF.out]; rfl, Below.refl _ _⟩
  | false =>
    rw [hd] at c8
    have HF : Aside0 (freeOf S = S.room - used S) := ⟨by unfold freeOf; rw [hd]; rfl⟩
    have hw : wrap64 (S.room - used S) = S.room - used S := w64L (by omega) (by omega)
    clear h1 hd hu hr hI
    go_enter Try.func36, Try.ntmps36
    go_wp2_with fail
    refine start_ (n := 10) (S := fun w' => w'.cell? ⟨d, 0, none⟩ = some (.int .i64 S.room) ∧ w'.cell? ⟨d, 1, none⟩ = some (.int .i64 (used S))) (ds := []) #[false, false, false, false, false, false, false, false, false, false] (by kernel_rfl) rfl rfl ⟨c0, c1⟩ (fun hHeld => ?_)
    refine pure_ (i := 0) (N := some 11) (v := ?_) (a' := ?_) #[true, false, false, false, false, false, false, false, false, false] rfl rfl (by kernel_rfl) (fun _ _ _ h => h) (Or.inl ⟨by rfl, ?_⟩) ?_ ?_
    rotate_left
    · intro w'
      go_simp
      with_reducible rfl
    rotate_left
    · simp only [Act.put, List.setIfInBounds_toArray, List.set_cons_zero, List.set_cons_succ, i64_w, i32_w]
      rfl
    refine pure_ (i := 1) (N := some 12) (v := ?_) (a' := ?_) #[true, true, false, false, false, false, false, false, false, false] rfl rfl (by kernel_rfl) (fun _ _ _ h => h) (Or.inl ⟨by rfl, ?_⟩) ?_ ?_
    rotate_left
    · intro w'
      go_simp
      with_reducible rfl
    rotate_left
    · simp only [Act.put, List.setIfInBounds_toArray, List.set_cons_zero, List.set_cons_succ, i64_w, i32_w]
      rfl
    refine pure_ (i := 2) (N := some 13) (v := ?_) (a' := ?_) #[true, true, true, false, false, false, false, false, false, false] rfl rfl (by kernel_rfl) (fun _ _ _ h => h) (Or.inl ⟨by rfl, ?_⟩) ?_ ?_
    rotate_left
    · intro w'
      go_simp
      with_reducible rfl
    rotate_left
    · simp only [Act.put, List.setIfInBounds_toArray, List.set_cons_zero, List.set_cons_succ, i64_w, i32_w]
      rfl
    refine pure_ (i := 4) (N := some 15) (v := ?_) (a' := ?_) #[true, true, true, false, true, false, false, false, false, false] rfl rfl (by kernel_rfl) (fun _ _ _ h => h) (Or.inl ⟨by rfl, ?_⟩) ?_ ?_
    rotate_left
    · intro w'
      go_simp
      with_reducible rfl
    rotate_left
    · simp only [Act.put, List.setIfInBounds_toArray, List.set_cons_zero, List.set_cons_succ, i64_w, i32_w]
      rfl
    refine pure_ (i := 5) (N := some 16) (v := ?_) (a' := ?_) #[true, true, true, false, true, true, false, false, false, false] rfl rfl (by kernel_rfl) (fun _ _ _ h => h) (Or.inl ⟨by rfl, ?_⟩) ?_ ?_
    rotate_left
    · intro w'
      go_simp
      with_reducible rfl
    rotate_left
    · simp only [Act.put, List.setIfInBounds_toArray, List.set_cons_zero, List.set_cons_succ, i64_w, i32_w]
      rfl
    refine pure_ (i := 6) (N := some 17) (v := ?_) (a' := ?_) #[true, true, true, false, true, true, true, false, false, false] rfl rfl (by kernel_rfl) (fun _ _ _ h => h) (Or.inl ⟨by rfl, ?_⟩) ?_ ?_
    rotate_left
    · intro w'
      go_simp
      with_reducible rfl
    rotate_left
    · simp only [Act.put, List.setIfInBounds_toArray, List.set_cons_zero, List.set_cons_succ, i64_w, i32_w]
      rfl
    refine take_ (i := 3) (N := some 14) (v := ?_) (a' := ?_) #[true, true, true, true, true, true, true, false, false, false] rfl rfl (by kernel_rfl) (fun _ _ _ h => h) (Or.inl ⟨by rfl, ?_⟩) hHeld ?_ ?_
    rotate_left
    · rintro w' ⟨s0, s1⟩
      go_simp
      with_reducible rfl
    rotate_left
    · simp only [Act.put, List.setIfInBounds_toArray, List.set_cons_zero, List.set_cons_succ, i64_w, i32_w]
      rfl
    refine take_ (i := 7) (N := some 18) (v := ?_) (a' := ?_) #[true, true, true, true, true, true, true, true, false, false] rfl rfl (by kernel_rfl) (fun _ _ _ h => h) (Or.inl ⟨by rfl, ?_⟩) hHeld ?_ ?_
    rotate_left
    · rintro w' ⟨s0, s1⟩
      go_simp
      with_reducible rfl
    rotate_left
    · simp only [Act.put, List.setIfInBounds_toArray, List.set_cons_zero, List.set_cons_succ, i64_w, i32_w]
      rfl
    refine pure_ (i := 8) (N := some 19) (v := ?_) (a' := ?_) #[true, true, true, true, true, true, true, true, true, false] rfl rfl (by kernel_rfl) (fun _ _ _ h => h) (Or.inl ⟨by rfl, ?_⟩) ?_ ?_
    rotate_left
    · intro w'
      go_simp
      with_reducible rfl
    rotate_left
    · simp only [Act.put, List.setIfInBounds_toArray, List.set_cons_zero, List.set_cons_succ, i64_w, i32_w]
      rfl
    refine pure_ (i := 9) (N := some 2) (v := ?_) (a' := ?_) #[true, true, true, true, true, true, true, true, true, true] rfl rfl (by kernel_rfl) (fun _ _ _ h => h) (Or.inl ⟨by rfl, ?_⟩) ?_ ?_
    rotate_left
    · intro w'
      go_simp
      with_reducible rfl
    rotate_left
    · simp only [Act.put, List.setIfInBounds_toArray, List.set_cons_zero, List.set_cons_succ, i64_w, i32_w]
      rfl
    refine done_ (by kernel_rfl) ?_
    go_wp2_with fail
    go_ret
    exact ⟨by rw [HF.out]; first | rfl | (rw [← hw]; rfl), below_drew1 (Below.refl _ _)⟩
set_option maxHeartbeats 1000000 in
theorem disk_Arm.calls {w : World} {F : Nat → Prop} {d : Nat} {S : DS} (h : DskAt w F d S) (n : Int) (hn : -9223372036854775808 ≤ n ∧ n ≤ 9223372036854775807) : Calls Try.prog 26 #[.pointer (some ⟨d, 0, none⟩), .int .i64 n] w fun e w' => (∃ v, e = .returned v) ∧ DskAt w' F d (opArm S n) ∧ KeptL F w w' := by
  obtain ⟨hI, md, ms, vf, vc, fm, h1⟩ := h
  have c8 := (blk_cell h1.blk 8).trans rfl
  have c7 := (blk_cell h1.blk 7).trans rfl
  have z7 := blk_frozen h1.blk 7
  have H := Aside0.mk (And.intro hI h1)
  cases hd : S.dead with
  | true =>
    rw [hd] at c8
    have HF : Aside0 (opArm S n = S) := ⟨by unfold opArm; rw [hd]; rfl⟩
    clear h1 hd hI
    go_enter Try.func26, Try.ntmps26
    go_wp2_with fail
    go_end0
    exact ⟨⟨_, rfl⟩, by rw [HF.out]; exact ⟨H.out.1, _, _, _, _, _, H.out.2⟩, KeptL.refl _ _⟩
  | false =>
    rw [hd] at c8
    have HF : Aside0 (opArm S n = { S with armed := max n 0 }) := ⟨by unfold opArm; rw [hd]; rfl⟩
    have HIA := Aside0.mk (hI.arm n hn.2)
    clear h1 hd hI
    go_enter Try.func26, Try.ntmps26
    go_wp2_with fail
    go_end0
    have hk := (KeptL.refl (fun k => k = d) w).setCell ⟨d, 7, none⟩ (.int .i64 (max n 0)) (.inl rfl)
    have hI2 := HIA.out
    rw [HF.out] at hI2 ⊢
    exact ⟨⟨_, rfl⟩, ⟨hI2, _, _, _, _, _, H.out.2.turnD (S' := { S with armed := max n 0 }) hk (blkD_put H.out.2.blk 7 _ rfl) rfl rfl rfl rfl⟩, ⟨hk.os, hk.tape, hk.output, hk.size, fun b hb hS => hk.block b hb (fun e => hS (by rw [e]; exact H.out.2.foot.1))⟩⟩
end Go.Proofs.Ythmkdmdfahhpmaa.Hand
