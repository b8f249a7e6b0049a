/- Wheel: Add where it refuses, Remove, At. -/
import Derived.Test.YtkgdlmgodpgcoaaWhlL
namespace Go.Proofs.Ytkgdlmgodpgcoaa.Hand
open Go.RowKit Go.Maps Go.Proofs.YtkgdlmgodpgcoaaW.PrintWords Go.Proofs.YtkgdlmgodpgcoaaW.PrintLast Go.Proofs.YtkgdlmgodpgcoaaW.PrintMore
set_option linter.unusedVariables false
set_option linter.unusedSimpArgs false

theorem due_look {w : World} {m n : Nat} {D : DT} {id : Int} (hD : Due w m n D) (hid : U id) : ∃ u : Int, (Instr.lookup 75 (.map (some m)) (.int .u64 id) true).run Try.prog w = .ok (.tuple #[.int .u64 u, .bool (Maps.has D (.int .u64 id))]) w ∧ D.atKey (.int .u64 id) (.lit (.int .u64 0)) = .lit (.int .u64 u) := by
  have hkey := Maps.keyOf_int_mk (P := Try.prog) Try.underlying22 (wf_u64 hid.1 hid.2)
  obtain ⟨v, ps, hlook, hv⟩ := hD.look_ok law22 Try.underlying75 (zero22 _) (plainElem_int Try.underlying22 (a := 0) (by decide)) hkey
  obtain ⟨u, rfl, h, _⟩ := plainElem_int_inv Try.underlying22 hv
  exact ⟨u, hlook, (Prod.mk.inj h).1⟩
set_option maxHeartbeats 2000000 in
theorem wheel_Add.bad (g m n : Nat) (now id at_ : Int) (D : DT) (R : Nat → Value) (w : World) (hW : WhlAt w g m now R) (hD : Due w m n D) (hid : U id) (e : Int)
    (hc : (Maps.has D (.int .u64 id) = true ∧ e = 8) ∨ (Maps.has D (.int .u64 id) = false ∧ at_ ≤ now ∧ e = 70) ∨ (Maps.has D (.int .u64 id) = false ∧ now < at_ ∧ 8192 ≤ Maps.size D ∧ e = 5)) :
    Calls Try.prog 18 #[.pointer (some ⟨g, 0, none⟩), .int .u64 id, .int .u64 at_] w fun x w' => x = .returned (.int .i64 e) ∧ w' = w := by
  have c0 := hW.now_
  have cm := hW.map_
  obtain ⟨u, hlook, _⟩ := due_look hD hid
  have hlen := hD.len Try.underlying75
  clear hW hD hid
  rcases hc with ⟨h1, rfl⟩ | ⟨h1, h2, rfl⟩ | ⟨h1, h2, h3, rfl⟩
  · rw [h1] at hlook
    clear h1 hlen
    go_enter Try.func18, Try.ntmps18
    go_wp2_with fail
    go_ret
    exact ⟨rfl, rfl⟩
  · rw [h1] at hlook
    have b1 : decide (at_ ≤ now) = true := decide_eq_true h2
    clear h1 h2 hlen
    go_enter Try.func18, Try.ntmps18
    go_wp2_with fail
    go_ret
    exact ⟨rfl, rfl⟩
  · rw [h1] at hlook
    have b1 : decide (at_ ≤ now) = false := decide_eq_false (by omega)
    have b2 : decide ((Maps.size D : Int) ≥ 8192) = true := decide_eq_true (by omega)
    clear h1 h2 h3
    go_enter Try.func18, Try.ntmps18
    go_wp2_with fail
    go_ret
    exact ⟨rfl, rfl⟩
theorem wheel_At.calls (g m n : Nat) (now id : Int) (D : DT) (R : Nat → Value) (w : World) (hW : WhlAt w g m now R) (hD : Due w m n D) (hid : U id) :
    Calls Try.prog 31 #[.pointer (some ⟨g, 0, none⟩), .int .u64 id] w fun e w' => ∃ u, e = .returned (.tuple #[.int .u64 u, .bool (Maps.has D (.int .u64 id))]) ∧ D.atKey (.int .u64 id) (.lit (.int .u64 0)) = .lit (.int .u64 u) ∧ w' = w := by
  have cm := hW.map_
  obtain ⟨u, hlook, hu⟩ := due_look hD hid
  have HU := Aside0.mk hu
  clear hW hD hid hu
  go_enter Try.func31, Try.ntmps31
  go_wp2_with fail
  go_ret2
  exact ⟨u, rfl, HU.out, rfl⟩
set_option maxHeartbeats 2000000 in
set_option maxRecDepth 100000 in
theorem wheel_Remove.none_ (g m n : Nat) (now id : Int) (D : DT) (R : Nat → Value) (w : World) (hW : WhlAt w g m now R) (hD : Due w m n D) (hid : U id) (hno : Maps.has D (.int .u64 id) = false) :
    Calls Try.prog 27 #[.pointer (some ⟨g, 0, none⟩), .int .u64 id] w fun e w' => e = .returned (.int .i64 7) ∧ Below w.heap.size w w' := by
  have hb := below_alloc (Below.refl w.heap.size w) (.cells #[.int .u64 id] 22)
  have cm := (hW.below hb).map_
  have d0 := (blk_cell (blk_new w (.cells #[.int .u64 id] 22 (0, 0))) 0).trans rfl
  have hD2 : Due (w.alloc (.cells #[.int .u64 id] 22)).drew m n D := Due.same hD (hb.block m (World.ownsMap.lt hD))
  obtain ⟨u, hlook, _⟩ := due_look hD2 hid
  rw [hno] at hlook
  have HBB := Aside0.mk hb
  clear hW hD hid hno hD2 hb
  go_enter Try.func27, Try.ntmps27
  go_upto_region 3 with (fail)
  obtain ⟨B, hBo⟩ : ∃ B, B = w.heap.size := ⟨_, rfl⟩
  obtain ⟨w3, hw3⟩ : ∃ w3, w3 = w.alloc (.cells #[.int .u64 id] 22) := ⟨_, rfl⟩
  rw [← hw3] at cm d0 hlook HBB
  rw [← hBo] at d0
  rw [← hw3]
  rw [← hBo]
  clear hw3
  have HBo := Aside0.mk hBo
  clear hBo
  refine start_ (n := 11) (S := fun w' => w'.cell? ⟨g, 258, none⟩ = some (.map (some m)) ∧ w'.cell? ⟨B, 0, none⟩ = some (.int .u64 id) ∧ (Instr.lookup 75 (.map (some m)) (.int .u64 id) true).run Try.prog w' = .ok (.tuple #[.int .u64 u, .bool false]) w') (ds := []) #[false, false, false, false, false, false, false, false, false, false, false] (by kernel_rfl) rfl rfl ⟨cm, d0, hlook⟩ (fun hHeld => ?_)
  refine pure_ (i := 0) (N := some 11) (v := ?_) (a' := ?_) #[true, false, false, false, false, false, false, false, false, false, false] rfl rfl (by kernel_rfl) (fun _ _ _ h => h) (Or.inl ⟨by rfl, ?_⟩) ?_ ?_
  rotate_left
  · intro w'
    go_simp
    with_reducible rfl
  rotate_left
  · simp only [Act.put, List.setIfInBounds_toArray, List.set_cons_zero, List.set_cons_succ, i64_w, i32_w]
    rfl
  refine pure_ (i := 1) (N := some 12) (v := ?_) (a' := ?_) #[true, true, false, false, false, false, false, false, false, false, false] rfl rfl (by kernel_rfl) (fun _ _ _ h => h) (Or.inl ⟨by rfl, ?_⟩) ?_ ?_
  rotate_left
  · intro w'
    go_simp
    with_reducible rfl
  rotate_left
  · simp only [Act.put, List.setIfInBounds_toArray, List.set_cons_zero, List.set_cons_succ, i64_w, i32_w]
    rfl
  refine pure_ (i := 2) (N := some 13) (v := ?_) (a' := ?_) #[true, true, true, false, false, false, false, false, false, false, false] rfl rfl (by kernel_rfl) (fun _ _ _ h => h) (Or.inl ⟨by rfl, ?_⟩) ?_ ?_
  rotate_left
  · intro w'
    go_simp
    with_reducible rfl
  rotate_left
  · simp only [Act.put, List.setIfInBounds_toArray, List.set_cons_zero, List.set_cons_succ, i64_w, i32_w]
    rfl
  refine take_ (i := 3) (N := some 14) (v := ?_) (a' := ?_) #[true, true, true, true, false, false, false, false, false, false, false] rfl rfl (by kernel_rfl) (fun _ _ _ h => h) (Or.inl ⟨by rfl, ?_⟩) hHeld ?_ ?_
  rotate_left
  · rintro w' ⟨s0, s1, s2⟩
    go_simp
    with_reducible rfl
  rotate_left
  · simp only [Act.put, List.setIfInBounds_toArray, List.set_cons_zero, List.set_cons_succ, i64_w, i32_w]
    rfl
  refine take_ (i := 4) (N := some 15) (v := ?_) (a' := ?_) #[true, true, true, true, true, false, false, false, false, false, false] rfl rfl (by kernel_rfl) (fun _ _ _ h => h) (Or.inl ⟨by rfl, ?_⟩) hHeld ?_ ?_
  rotate_left
  · rintro w' ⟨s0, s1, s2⟩
    go_simp
    with_reducible rfl
  rotate_left
  · simp only [Act.put, List.setIfInBounds_toArray, List.set_cons_zero, List.set_cons_succ, i64_w, i32_w]
    rfl
  refine take_ (i := 5) (N := some 16) (v := ?_) (a' := ?_) #[true, true, true, true, true, true, false, false, false, false, false] rfl rfl (by kernel_rfl) (fun _ _ _ h => h) (Or.inl ⟨by rfl, ?_⟩) hHeld ?_ ?_
  rotate_left
  · rintro w' ⟨s0, s1, s2⟩
    go_simp
    with_reducible rfl
  rotate_left
  · simp only [Act.put, List.setIfInBounds_toArray, List.set_cons_zero, List.set_cons_succ, i64_w, i32_w]
    rfl
  refine pure_ (i := 6) (N := some 10) (v := ?_) (a' := ?_) #[true, true, true, true, true, true, true, false, false, false, false] rfl rfl (by kernel_rfl) (fun _ _ _ h => h) (Or.inl ⟨by rfl, ?_⟩) ?_ ?_
  rotate_left
  · intro w'
    go_simp
    with_reducible rfl
  rotate_left
  · simp only [Act.put, List.setIfInBounds_toArray, List.set_cons_zero, List.set_cons_succ, i64_w, i32_w]
    rfl
  refine pure_ (i := 7) (N := some 17) (v := ?_) (a' := ?_) #[true, true, true, true, true, true, true, true, false, false, false] rfl rfl (by kernel_rfl) (fun _ _ _ h => h) (Or.inl ⟨by rfl, ?_⟩) ?_ ?_
  rotate_left
  · intro w'
    go_simp
    with_reducible rfl
  rotate_left
  · simp only [Act.put, List.setIfInBounds_toArray, List.set_cons_zero, List.set_cons_succ, i64_w, i32_w]
    rfl
  refine pure_ (i := 8) (N := some 18) (v := ?_) (a' := ?_) #[true, true, true, true, true, true, true, true, true, false, false] rfl rfl (by kernel_rfl) (fun _ _ _ h => h) (Or.inl ⟨by rfl, ?_⟩) ?_ ?_
  rotate_left
  · intro w'
    go_simp
    with_reducible rfl
  rotate_left
  · simp only [Act.put, List.setIfInBounds_toArray, List.set_cons_zero, List.set_cons_succ, i64_w, i32_w]
    rfl
  refine pure_ (i := 9) (N := some 5) (v := ?_) (a' := ?_) #[true, true, true, true, true, true, true, true, true, true, false] rfl rfl (by kernel_rfl) (fun _ _ _ h => h) (Or.inl ⟨by rfl, ?_⟩) ?_ ?_
  rotate_left
  · intro w'
    go_simp
    with_reducible rfl
  rotate_left
  · simp only [Act.put, List.setIfInBounds_toArray, List.set_cons_zero, List.set_cons_succ, i64_w, i32_w]
    rfl
  refine pure_ (i := 10) (N := some 6) (v := ?_) (a' := ?_) #[true, true, true, true, true, true, true, true, true, true, true] rfl rfl (by kernel_rfl) (fun _ _ _ h => h) (Or.inl ⟨by rfl, ?_⟩) ?_ ?_
  rotate_left
  · intro w'
    go_simp
    with_reducible rfl
  rotate_left
  · simp only [Act.put, List.setIfInBounds_toArray, List.set_cons_zero, List.set_cons_succ, i64_w, i32_w]
    rfl
  refine done_ (by kernel_rfl) ?_
  go_wp2_with fail
  go_ret
  exact ⟨rfl, below_drew1 HBB.out⟩
set_option maxHeartbeats 4000000 in
set_option maxRecDepth 100000 in
theorem wheel_Remove.good (w0 : World) (base : Nat) (P : Nat → Prop) (g m n : Nat) (now id at_ : Int) (D : DT) (R : Nat → Value) (f : Nat → Nat) (L : Nat → List TimT) (w : World) (hS : WhlSt w0 w base P g m n now D R f L) (hid : U id) (hyes : Maps.has D (.int .u64 id) = true) (hat : D.atKey (.int .u64 id) (.lit (.int .u64 0)) = .lit (.int .u64 at_)) (ha : U at_) (hn : U now)
    (hL : ∀ i, (L i).length ≤ 1000000) (hne : L (slotD at_ now) ≠ []) :
    Calls Try.prog 27 #[.pointer (some ⟨g, 0, none⟩), .int .u64 id] w fun e w' => e = .returned (.int .i64 0) ∧ ∃ R', WhlSt w0 w' base P g m n now (D.del (.int .u64 id)) R' f (fun i => if i = slotD at_ now then without (L i) id else L i) := by
  have hb := below_alloc (Below.refl w.heap.size w) (.cells #[.int .u64 id] 22)
  have HS3 := Aside0.mk (hS.below hb hS.size)
  have b3 := blk_new w (.cells #[.int .u64 id] 22 (0, 0))
  have HLL := Aside0.mk hL
  have HNE := Aside0.mk hne
  clear hS hb hL hne
  go_enter Try.func27, Try.ntmps27
  go_upto_region 3 with (fail)
  obtain ⟨B, hBo⟩ : ∃ B, B = w.heap.size := ⟨_, rfl⟩
  obtain ⟨w3, hw3⟩ : ∃ w3, w3 = w.alloc (.cells #[.int .u64 id] 22) := ⟨_, rfl⟩
  rw [← hw3] at HS3 b3
  rw [← hBo] at b3
  rw [← hw3]
  rw [← hBo]
  clear hw3 hBo
  have d0 := (blk_cell b3 0).trans rfl
  have cm := HS3.out.whl.map_
  have hD3 : Due w3.drew m n D := HS3.out.due
  obtain ⟨u, hlook, hu⟩ := due_look hD3 hid
  rw [hyes] at hlook
  rw [hat] at hu
  obtain rfl : at_ = u := by injection hu with hu; injection hu
  clear hu hat hyes
  refine start_ (n := 11) (S := fun w' => w'.cell? ⟨g, 258, none⟩ = some (.map (some m)) ∧ w'.cell? ⟨B, 0, none⟩ = some (.int .u64 id) ∧ (Instr.lookup 75 (.map (some m)) (.int .u64 id) true).run Try.prog w' = .ok (.tuple #[.int .u64 at_, .bool true]) w') (ds := []) #[false, false, false, false, false, false, false, false, false, false, false] (by kernel_rfl) rfl rfl ⟨cm, d0, hlook⟩ (fun hHeld => ?_)
  refine pure_ (i := 0) (N := some 11) (v := ?_) (a' := ?_) #[true, false, false, false, false, false, false, false, false, false, false] rfl rfl (by kernel_rfl) (fun _ _ _ h => h) (Or.inl ⟨by rfl, ?_⟩) ?_ ?_
  rotate_left
  · intro w'
    go_simp
    with_reducible rfl
  rotate_left
  · simp only [Act.put, List.setIfInBounds_toArray, List.set_cons_zero, List.set_cons_succ, i64_w, i32_w]
    rfl
  refine pure_ (i := 1) (N := some 12) (v := ?_) (a' := ?_) #[true, true, false, false, false, false, false, false, false, false, false] rfl rfl (by kernel_rfl) (fun _ _ _ h => h) (Or.inl ⟨by rfl, ?_⟩) ?_ ?_
  rotate_left
  · intro w'
    go_simp
    with_reducible rfl
  rotate_left
  · simp only [Act.put, List.setIfInBounds_toArray, List.set_cons_zero, List.set_cons_succ, i64_w, i32_w]
    rfl
  refine pure_ (i := 2) (N := some 13) (v := ?_) (a' := ?_) #[true, true, true, false, false, false, false, false, false, false, false] rfl rfl (by kernel_rfl) (fun _ _ _ h => h) (Or.inl ⟨by rfl, ?_⟩) ?_ ?_
  rotate_left
  · intro w'
    go_simp
    with_reducible rfl
  rotate_left
  · simp only [Act.put, List.setIfInBounds_toArray, List.set_cons_zero, List.set_cons_succ, i64_w, i32_w]
    rfl
  refine take_ (i := 3) (N := some 14) (v := ?_) (a' := ?_) #[true, true, true, true, false, false, false, false, false, false, false] rfl rfl (by kernel_rfl) (fun _ _ _ h => h) (Or.inl ⟨by rfl, ?_⟩) hHeld ?_ ?_
  rotate_left
  · rintro w' ⟨s0, s1, s2⟩
    go_simp
    with_reducible rfl
  rotate_left
  · simp only [Act.put, List.setIfInBounds_toArray, List.set_cons_zero, List.set_cons_succ, i64_w, i32_w]
    rfl
  refine take_ (i := 4) (N := some 15) (v := ?_) (a' := ?_) #[true, true, true, true, true, false, false, false, false, false, false] rfl rfl (by kernel_rfl) (fun _ _ _ h => h) (Or.inl ⟨by rfl, ?_⟩) hHeld ?_ ?_
  rotate_left
  · rintro w' ⟨s0, s1, s2⟩
    go_simp
    with_reducible rfl
  rotate_left
  · simp only [Act.put, List.setIfInBounds_toArray, List.set_cons_zero, List.set_cons_succ, i64_w, i32_w]
    rfl
  refine take_ (i := 5) (N := some 16) (v := ?_) (a' := ?_) #[true, true, true, true, true, true, false, false, false, false, false] rfl rfl (by kernel_rfl) (fun _ _ _ h => h) (Or.inl ⟨by rfl, ?_⟩) hHeld ?_ ?_
  rotate_left
  · rintro w' ⟨s0, s1, s2⟩
    go_simp
    with_reducible rfl
  rotate_left
  · simp only [Act.put, List.setIfInBounds_toArray, List.set_cons_zero, List.set_cons_succ, i64_w, i32_w]
    rfl
  refine pure_ (i := 6) (N := some 10) (v := ?_) (a' := ?_) #[true, true, true, true, true, true, true, false, false, false, false] rfl rfl (by kernel_rfl) (fun _ _ _ h => h) (Or.inl ⟨by rfl, ?_⟩) ?_ ?_
  rotate_left
  · intro w'
    go_simp
    with_reducible rfl
  rotate_left
  · simp only [Act.put, List.setIfInBounds_toArray, List.set_cons_zero, List.set_cons_succ, i64_w, i32_w]
    rfl
  refine pure_ (i := 7) (N := some 17) (v := ?_) (a' := ?_) #[true, true, true, true, true, true, true, true, false, false, false] rfl rfl (by kernel_rfl) (fun _ _ _ h => h) (Or.inl ⟨by rfl, ?_⟩) ?_ ?_
  rotate_left
  · intro w'
    go_simp
    with_reducible rfl
  rotate_left
  · simp only [Act.put, List.setIfInBounds_toArray, List.set_cons_zero, List.set_cons_succ, i64_w, i32_w]
    rfl
  refine pure_ (i := 8) (N := some 18) (v := ?_) (a' := ?_) #[true, true, true, true, true, true, true, true, true, false, false] rfl rfl (by kernel_rfl) (fun _ _ _ h => h) (Or.inl ⟨by rfl, ?_⟩) ?_ ?_
  rotate_left
  · intro w'
    go_simp
    with_reducible rfl
  rotate_left
  · simp only [Act.put, List.setIfInBounds_toArray, List.set_cons_zero, List.set_cons_succ, i64_w, i32_w]
    rfl
  refine pure_ (i := 9) (N := some 5) (v := ?_) (a' := ?_) #[true, true, true, true, true, true, true, true, true, true, false] rfl rfl (by kernel_rfl) (fun _ _ _ h => h) (Or.inl ⟨by rfl, ?_⟩) ?_ ?_
  rotate_left
  · intro w'
    go_simp
    with_reducible rfl
  rotate_left
  · simp only [Act.put, List.setIfInBounds_toArray, List.set_cons_zero, List.set_cons_succ, i64_w, i32_w]
    rfl
  refine pure_ (i := 10) (N := some 6) (v := ?_) (a' := ?_) #[true, true, true, true, true, true, true, true, true, true, true] rfl rfl (by kernel_rfl) (fun _ _ _ h => h) (Or.inl ⟨by rfl, ?_⟩) ?_ ?_
  rotate_left
  · intro w'
    go_simp
    with_reducible rfl
  rotate_left
  · simp only [Act.put, List.setIfInBounds_toArray, List.set_cons_zero, List.set_cons_succ, i64_w, i32_w]
    rfl
  refine done_ (by kernel_rfl) ?_
  have HS4 := Aside0.mk (HS3.out.below (below_drew1 (Below.refl w3.heap.size w3)) HS3.out.size)
  have hD4 : Due w3.drew.drew m n D := HS3.out.due
  have hkey := Maps.keyOf_int_mk (P := Try.prog) Try.underlying22 (wf_u64 hid.1 hid.2)
  obtain ⟨w4, hdrop, hD5, htu⟩ := World.ownsMap.drop hD4 law22 Try.underlying75 hkey 0
  have HSd := HS4.out.below (below_drew1 (Below.refl w3.drew.heap.size w3.drew)) HS4.out.size
  have HS5 := Aside0.mk (HSd.turned hD5 htu)
  have b4 := blk_turned (w := w3.drew.drew) b3 hD4 htu
  clear HSd hD3 hD4 hD5 htu HS3 HS4 hlook hkey
  replace cm : w3.drew.cell? ⟨g, 258, none⟩ = some (.map (some m)) := cm
  replace d0 : w3.drew.cell? ⟨B, 0, none⟩ = some (.int .u64 id) := d0
  go_wp2_with fail
  refine start_ (n := 6) (S := fun w' => w'.cell? ⟨g, 258, none⟩ = some (.map (some m)) ∧ w'.cell? ⟨B, 0, none⟩ = some (.int .u64 id)) (ds := [5]) #[false, false, false, false, false, false] (by kernel_rfl) rfl rfl ⟨cm, d0⟩ (fun hHeld => ?_)
  refine pure_ (i := 0) (N := some 21) (v := ?_) (a' := ?_) #[true, false, false, false, false, false] rfl rfl (by kernel_rfl) (fun _ _ _ h => h) (Or.inl ⟨by rfl, ?_⟩) ?_ ?_
  rotate_left
  · intro w'
    go_simp
    with_reducible rfl
  rotate_left
  · simp only [Act.put, List.setIfInBounds_toArray, List.set_cons_zero, List.set_cons_succ, i64_w, i32_w]
    rfl
  refine pure_ (i := 1) (N := some 22) (v := ?_) (a' := ?_) #[true, true, false, false, false, false] rfl rfl (by kernel_rfl) (fun _ _ _ h => h) (Or.inl ⟨by rfl, ?_⟩) ?_ ?_
  rotate_left
  · intro w'
    go_simp
    with_reducible rfl
  rotate_left
  · simp only [Act.put, List.setIfInBounds_toArray, List.set_cons_zero, List.set_cons_succ, i64_w, i32_w]
    rfl
  refine pure_ (i := 2) (N := some 23) (v := ?_) (a' := ?_) #[true, true, true, false, false, false] rfl rfl (by kernel_rfl) (fun _ _ _ h => h) (Or.inl ⟨by rfl, ?_⟩) ?_ ?_
  rotate_left
  · intro w'
    go_simp
    with_reducible rfl
  rotate_left
  · simp only [Act.put, List.setIfInBounds_toArray, List.set_cons_zero, List.set_cons_succ, i64_w, i32_w]
    rfl
  refine take_ (i := 3) (N := some 24) (v := ?_) (a' := ?_) #[true, true, true, true, false, false] rfl rfl (by kernel_rfl) (fun _ _ _ h => h) (Or.inl ⟨by rfl, ?_⟩) hHeld ?_ ?_
  rotate_left
  · rintro w' ⟨s0, s1⟩
    go_simp
    with_reducible rfl
  rotate_left
  · simp only [Act.put, List.setIfInBounds_toArray, List.set_cons_zero, List.set_cons_succ, i64_w, i32_w]
    rfl
  refine take_ (i := 4) (N := some 25) (v := ?_) (a' := ?_) #[true, true, true, true, true, false] rfl rfl (by kernel_rfl) (fun _ _ _ h => h) (Or.inl ⟨by rfl, ?_⟩) hHeld ?_ ?_
  rotate_left
  · rintro w' ⟨s0, s1⟩
    go_simp
    with_reducible rfl
  rotate_left
  · simp only [Act.put, List.setIfInBounds_toArray, List.set_cons_zero, List.set_cons_succ, i64_w, i32_w]
    rfl
  refine last_ (i := 5) (N := none) #[true, true, true, true, true, true] rfl rfl (by kernel_rfl) (by decide) (fun K hK => ?_)
  refine value_ (w1 := w4) (v := .tuple #[]) (by rfl) rfl ?_ ?_
  · go_simp
    try rfl
  refine hK.out _ _ ?_
  clear hK K
  refine done_ (by kernel_rfl) ?_
  clear hdrop cm d0 b3
  go_wp2_with fail
  refine (wheel_slot.calls g m now at_ (xr at_ now) R w4 HS5.out.whl rfl (xr_nonneg ha.1 ha.2 hn.1 hn.2) ha.1).mono ?_
  rintro e w5 ⟨rfl, hb⟩
  rw [slot_xr ha hn]
  have HS6 := Aside0.mk (HS5.out.below hb HS5.out.size)
  have b5 := (hb.block B (Array.getElem?_eq_some_iff.1 b4).1).trans b4
  obtain ⟨s, hs⟩ : ∃ s, s = slotD at_ now := ⟨_, rfl⟩
  have hs257 : s < 257 := by rw [hs]; exact slotD_lt _ _
  rw [← hs] at HNE
  rw [← hs]
  have HSL := Aside0.mk hs
  have cr := HS6.out.whl.ring_ s hs257
  have hrow := HS6.out.row s hs257
  obtain ⟨A, c, hR⟩ := Kd.R_slice hrow
  have hpos : 0 < (L s).length := by
    cases h : L s with
    | nil => exact absurd h HNE.out
    | cons => simp
  rw [hR] at hrow cr
  obtain ⟨bb, rfl⟩ : ∃ bb, A = some ⟨bb, 0, none⟩ := by
    rcases hrow.2.choose_spec.1.2 with ⟨e, h0⟩ | ⟨gg, cap, cur, e, _⟩
    · omega
    · injection e with e1 e2 e3
      exact ⟨gg, e1⟩
  have d5 := (blk_cell b5 0).trans rfl
  have HROW := Aside0.mk hrow
  have HRR := Aside0.mk hR
  have hBb : B ≠ bb := by
    intro e
    obtain ⟨_, _, _, _, _, cur, hb2, _, _⟩ := tr_open hrow
    rw [← e, b5] at hb2
    injection hb2 with hb2
    injection hb2 with _ ht _
    revert ht
    decide
  clear hs hb hrow hR HS5 b4
  go_wp2_with fail
  refine (slices_DeleteFunc.calls w5 base s bb c B (L s).length id f (L s) HROW.out (HLL.out s) d5 hBb).mono ?_
  rintro e w6 ⟨rfl, hrow6, hg6⟩
  have hW6 := HS6.out.whl.grown (w' := w6) (row := (R s).ownBlock) (by rw [HRR.out]; exact hg6) (TR.not_wheel (HS6.out.row s hs257) HS6.out.whl)
  have c6 := hW6.ring_ s hs257
  have fr6 := hW6.frozen (1 + s)
  have HST := Aside0.mk (HS6.out.shrunk hs257 hrow6 (by rw [HRR.out]; exact hg6))
  clear hW6 hrow6 hg6 cr b5 d5
  go_wp2_with fail
  go_ret
  exact ⟨rfl, _, HST.out.congr (fun k => by
    rw [HSL.out]
    by_cases e : k = slotD at_ now
    · rw [if_pos e, if_pos e, e]
    · rw [if_neg e, if_neg e])⟩
end Go.Proofs.Ytkgdlmgodpgcoaa.Hand
