/- Disk: note. -/
import Derived.Test.YthmkdmdfahhpmaaDskD
namespace Go.Proofs.Ythmkdmdfahhpmaa.Hand
open Go.RowKit Go.Maps Go.Proofs.YthmkdmdfahhpmaaW.PrintWords Go.Proofs.YthmkdmdfahhpmaaW.PrintLast Go.Proofs.YthmkdmdfahhpmaaW.PrintMore Go.Proofs.Ythmkdmdfahhpmaa.Q
set_option linter.unusedVariables false
set_option linter.unusedSimpArgs false
theorem KeptL.mono {S S' : Nat → Prop} {a w : World} (h : KeptL S a w) (hS : ∀ k, S k → S' k) : KeptL S' a w := ⟨h.os, h.tape, h.output, h.size, fun b hb hn => h.block b hb (fun hh => hn (hS b hh))⟩
theorem DskM.monoF {w : World} {F F' : Nat → Prop} {d : Nat} {S : DS} {u : Int} {md ms : Nat} {vf vc : Value} {fm : List FM} (h : DskM w F d S u md ms vf vc fm) (hF : ∀ k, F k → F' k) (hl : ∀ k, F' k → k < w.heap.size) : DskM w F' d S u md ms vf vc fm :=
  { h with foot := ⟨hF _ h.foot.1, hF _ h.foot.2.1, hF _ h.foot.2.2.1, fun k hk => hF _ (h.foot.2.2.2.1 k hk), fun k hk => hF _ (h.foot.2.2.2.2.1 k hk), fun a ha => ⟨hF _ (h.foot.2.2.2.2.2 a ha).1, fun k hk => hF _ ((h.foot.2.2.2.2.2 a ha).2 k hk)⟩⟩, lt := hl }
def lenB (S : DS) (b : ByteArray) (j : Int) : Int := if b.size = 0 then 0 else ((fileOf S j).1.length : Int)
def uAt (u x y : Int) (i : Nat) : Int := if i = 0 then u else if i = 1 then u - x else u - x - y
/-- How a file of the list lies. -/
theorem DskM.fileCell {w : World} {F : Nat → Prop} {d : Nat} {S : DS} {u : Int} {md ms : Nat} {vf vc : Value} {fm : List FM} (h : DskM w F d S u md ms vf vc fm) (i : Nat) (hi : i < S.files.length) :
    ∃ A c, (fm.getD i fm0).2 = .slice A (S.files.getD i ([], 0)).1.length c ∧ w.heap[(fm.getD i fm0).1]? = some (.cells #[.slice A (S.files.getD i ([], 0)).1.length c, .int .i64 (S.files.getD i ([], 0)).2] 97 (0, 0)) ∧ (S.files.getD i ([], 0)).1.length ≤ c ∧ Kd.C kB w A (S.files.getD i ([], 0)).1.length (S.files.getD i ([], 0)).1 := by
  obtain ⟨h1, h2⟩ := h.at_ i hi
  obtain ⟨A, c, e, hc, hC⟩ := Kd.R_reads h2
  rw [e] at h1
  exact ⟨A, c, e, h1, hc, hC⟩
set_option maxHeartbeats 4000000 in
set_option maxRecDepth 100000 in
theorem disk_note.calls {w : World} {F : Nat → Prop} {d : Nat} {S : DS} {u : Int} {md ms : Nat} {vf vc : Value} {fm : List FM} (h : DskM w F d S u md ms vf vc fm) (hI : Inv S) (a b : ByteArray) (j : Nat) (hj : j < S.files.length) (ha : a.size ≤ 32) (hb : b.size ≤ 32) (hne : a.size ≠ 0 ∨ b.size ≠ 0) (hu : 0 ≤ u ∧ u ≤ 1073741824) :
    Calls Try.prog 64 #[.pointer (some ⟨d, 0, none⟩), .agg #[.string a, .string b, .int .i64 (j : Int)]] w fun e w' => (∃ v, e = .returned v) ∧ KeptL F w w' ∧ ∃ vc', DskM w' (grow F w w') d (note S (a, b, (j : Int))) (u - lenN S a - lenN S b + lenB S b (j : Int)) md ms vf vc' fm := by
  obtain ⟨Av, cv, rfl⟩ := Kd.R_slice h.chg
  obtain ⟨Af, cf, rfl⟩ := Kd.R_slice h.own
  have hbl : ∀ n, 0 ≤ lenN S n ∧ lenN S n ≤ 4194304 := fun n => by
    unfold lenN
    split
    · rename_i e he
      have hd := hI.okD e (has_some he).1
      have := (hI.fil _ (fileOf_mem hd.1 hd.2.1)).1
      omega
    · omega
  have hla := hbl a
  have hlb := hbl b
  obtain ⟨la, hla2⟩ : ∃ la, la = lenN S a := ⟨_, rfl⟩
  obtain ⟨lb, hlb2⟩ : ∃ lb, lb = lenN S b := ⟨_, rfl⟩
  rw [← hla2] at hla ⊢
  rw [← hlb2] at hlb ⊢
  have HLA := Aside0.mk hla2
  have HLB := Aside0.mk hlb2
  have heq := chg_ne a b (j : Int) hne
  obtain ⟨W2, hW2⟩ : ∃ W2, W2 = (w.alloc (.cells #[.string a, .string b, .int .i64 (j : Int)] 89)).alloc (.cells #[.string a, .string b] 9) := ⟨_, rfl⟩
  have s1 : (w.alloc (.cells #[.string a, .string b, .int .i64 (j : Int)] 89)).heap.size = w.heap.size + 1 := by simp
  have hBc : W2.heap[w.heap.size]? = some (.cells #[.string a, .string b, .int .i64 (j : Int)] 89 (0, 0)) := by rw [hW2]; exact blk_alloc (blk_new w (.cells #[.string a, .string b, .int .i64 (j : Int)] 89 (0, 0))) _
  have hBl : W2.heap[w.heap.size + 1]? = some (.cells #[.string a, .string b] 9 (0, 0)) := by rw [hW2, ← s1]; exact blk_new _ (.cells #[.string a, .string b] 9 (0, 0))
  have hb2 : Below w.heap.size w W2 := by rw [hW2]; exact below_alloc (below_alloc (Below.refl _ _) _) _
  have d0 := (blk_cell (blk_new w (.cells #[.string a, .string b, .int .i64 (j : Int)] 89 (0, 0))) 0).trans rfl
  have d1 := (blk_cell (blk_new w (.cells #[.string a, .string b, .int .i64 (j : Int)] 89 (0, 0))) 1).trans rfl
  have d2 := (blk_cell (blk_new w (.cells #[.string a, .string b, .int .i64 (j : Int)] 89 (0, 0))) 2).trans rfl
  have HH := Aside0.mk h
  have HI := Aside0.mk hI
  have HK2 : Aside0 (KeptL F w W2) := ⟨KeptL.of_below hb2⟩
  have hdlt := h.lt d h.foot.1
  have HDL : Aside0 (d < w.heap.size) := ⟨hdlt⟩
  have H2 : Aside0 (DskM W2 F d S (uAt u la lb 0) md ms (.slice Af (fm.map (·.1)).length cf) (.slice Av S.chg.length cv) fm) := ⟨h.below hb2⟩
  have HBC := Aside0.mk hBc
  have HBL := Aside0.mk hBl
  have HJ := Aside0.mk hj
  have HAB := Aside0.mk (And.intro ha hb)
  have hlen := h.len
  have HLEN := Aside0.mk h.len
  clear h hI hbl hBc hBl hb2 s1 hj hne hla2 hlb2
  go_enter Try.func64, Try.ntmps64
  go_wp2_with fail
  rw [← hW2]
  clear d0 d1 d2 heq hW2
  obtain ⟨Bc, hBc⟩ : ∃ Bc, Bc = w.heap.size := ⟨_, rfl⟩
  obtain ⟨Bl, hBl⟩ : ∃ Bl, Bl = w.heap.size + 1 := ⟨_, rfl⟩
  have HNE : Aside0 (Bc ≠ d ∧ Bl ≠ d ∧ w.heap.size ≤ Bc ∧ w.heap.size ≤ Bl) := ⟨by omega⟩
  rw [← hBc] at HBC
  rw [← hBl] at HBL
  rw [← hBl, ← hBc]
  clear hBc hBl hdlt ha hb
  go_loopw [16] (fun v16 wr => ∃ i : Nat, i ≤ 2 ∧ v16 = .int .i64 i ∧ Aside0 (DskM wr F d S (uAt u la lb i) md ms (.slice Af (fm.map (·.1)).length cf) (.slice Av S.chg.length cv) fm ∧ KeptL (fun k => k = d) W2 wr)) (fun v16 _ => 2 - (intOf v16).toNat)
  case atStart => exact ⟨0, Nat.zero_le _, rfl, ⟨H2.out, KeptL.refl _ _⟩⟩
  case round =>
    clear H2
    obtain ⟨i, hi, rfl, HM⟩ := hrel
    have hBc := (HM.out.2.block Bc (blk_lt HBC.out) HNE.out.1).trans HBC.out
    have hBl := (HM.out.2.block Bl (blk_lt HBL.out) HNE.out.2.1).trans HBL.out
    have l0 := (blk_cell hBl 0).trans rfl
    have l1 := (blk_cell hBl 1).trans rfl
    have hi3 : i = 0 ∨ i = 1 ∨ i = 2 := by omega
    rcases hi3 with rfl | rfl | rfl
    · have hub : 0 ≤ la ∧ la ≤ 4194304 ∧ 0 ≤ lb ∧ lb ≤ 4194304 := by omega
      have HR := Aside0.mk HM.out
      clear hBc hBl
      go_wp2_with fail
      clear l0 l1
      refine (disk_find.calls HR.out.1 (fun e he => ⟨(HI.out.okD e he).1, (HI.out.okD e he).2.1⟩) a (by have := HAB.out; omega)).mono ?_
      rintro x w3 ⟨rfl, ⟨hh, rfl⟩ | ⟨en, hh, rfl⟩⟩
      · have HL0 : Aside0 (la = 0) := ⟨by rw [HLA.out]; unfold lenN; rw [hh]⟩
        have HN : Aside0 (DskM w3 F d S (uAt u la lb (0 + 1)) md ms (.slice Af (fm.map (·.1)).length cf) (.slice Av S.chg.length cv) fm ∧ KeptL (fun k => k = d) W2 w3) := ⟨by
          have e : uAt u la lb (0 + 1) = uAt u la lb 0 := by show u - la = u; have := HL0.out; omega
          rw [e]; exact HR.out⟩
        clear hh HM HR HL0
        go_wp2_with fail
        go_roundw
        case rel => exact ⟨0 + 1, by omega, by go_num, HN⟩
        case measure => simp [intOf]
      · have hd := HI.out.okD en (has_some hh).1
        obtain ⟨j6, hj6⟩ : ∃ j6 : Nat, j6 = en.2.toNat := ⟨_, rfl⟩
        have hj7 : j6 < S.files.length := by omega
        obtain ⟨A6, c6, hv6, hb6, hc6, hC6⟩ := HR.out.1.fileCell j6 hj7
        have HL0 : Aside0 (la = ((S.files.getD j6 ([], 0)).1.length : Int)) := ⟨by rw [HLA.out]; unfold lenN fileOf; rw [hh, hj6]⟩
        rw [← hj6]
        obtain ⟨b6, hbb⟩ : ∃ b6, b6 = (fm.getD j6 fm0).1 := ⟨_, rfl⟩
        rw [← hbb] at hb6 ⊢
        obtain ⟨n6, hn6⟩ : ∃ n6, n6 = (S.files.getD j6 ([], 0)).1.length := ⟨_, rfl⟩
        rw [← hn6] at hb6 HL0
        have k0 := (blk_cell hb6 0).trans rfl
        have c1 := (blk_cell HR.out.1.blk 1).trans rfl
        have z1 := blk_frozen HR.out.1.blk 1
        have hw : wrap64 (u - (n6 : Int)) = u - la := by have h1 := HL0.out; rw [w64L (by omega) (by omega)]; omega
        have HW := Aside0.mk hw
        clear hv6 hc6 hC6 hb6 hbb hn6 hh hd hj6 hj7 HM
        change w3.cell? ⟨d, 1, none⟩ = some (.int .i64 (u)) at c1
        go_wp2_with fail
        refine start_ (n := 13) (S := fun w' => w'.cell? ⟨d, 1, none⟩ = some (.int .i64 (u)) ∧ w'.cell? ⟨b6, 0, none⟩ = some (.slice A6 n6 c6)) (ds := [12]) #[false, false, false, false, false, false, false, false, false, false, false, false, false] (by kernel_rfl) rfl rfl ⟨c1, k0⟩ (fun hHeld => ?_)
        refine pure_ (i := 0) (N := some 25) (v := ?_) (a' := ?_) #[true, false, false, false, false, false, false, false, false, false, false, false, false] rfl rfl (by kernel_rfl) (fun _ _ _ h => h) (Or.inl ⟨by rfl, ?_⟩) ?_ ?_
        rotate_left
        · intro w'
          go_simp
          with_reducible rfl
        rotate_left
        · simp only [Act.put, List.setIfInBounds_toArray, List.set_cons_zero, List.set_cons_succ, i64_w, i32_w]
          rfl
        refine pure_ (i := 1) (N := some 26) (v := ?_) (a' := ?_) #[true, true, false, false, false, false, false, false, false, false, false, false, false] rfl rfl (by kernel_rfl) (fun _ _ _ h => h) (Or.inl ⟨by rfl, ?_⟩) ?_ ?_
        rotate_left
        · intro w'
          go_simp
          with_reducible rfl
        rotate_left
        · simp only [Act.put, List.setIfInBounds_toArray, List.set_cons_zero, List.set_cons_succ, i64_w, i32_w]
          rfl
        refine pure_ (i := 2) (N := some 27) (v := ?_) (a' := ?_) #[true, true, true, false, false, false, false, false, false, false, false, false, false] rfl rfl (by kernel_rfl) (fun _ _ _ h => h) (Or.inl ⟨by rfl, ?_⟩) ?_ ?_
        rotate_left
        · intro w'
          go_simp
          with_reducible rfl
        rotate_left
        · simp only [Act.put, List.setIfInBounds_toArray, List.set_cons_zero, List.set_cons_succ, i64_w, i32_w]
          rfl
        refine pure_ (i := 4) (N := some 29) (v := ?_) (a' := ?_) #[true, true, true, false, true, false, false, false, false, false, false, false, false] rfl rfl (by kernel_rfl) (fun _ _ _ h => h) (Or.inl ⟨by rfl, ?_⟩) ?_ ?_
        rotate_left
        · intro w'
          go_simp
          with_reducible rfl
        rotate_left
        · simp only [Act.put, List.setIfInBounds_toArray, List.set_cons_zero, List.set_cons_succ, i64_w, i32_w]
          rfl
        refine pure_ (i := 5) (N := some 30) (v := ?_) (a' := ?_) #[true, true, true, false, true, true, false, false, false, false, false, false, false] rfl rfl (by kernel_rfl) (fun _ _ _ h => h) (Or.inl ⟨by rfl, ?_⟩) ?_ ?_
        rotate_left
        · intro w'
          go_simp
          with_reducible rfl
        rotate_left
        · simp only [Act.put, List.setIfInBounds_toArray, List.set_cons_zero, List.set_cons_succ, i64_w, i32_w]
          rfl
        refine pure_ (i := 6) (N := some 31) (v := ?_) (a' := ?_) #[true, true, true, false, true, true, true, false, false, false, false, false, false] rfl rfl (by kernel_rfl) (fun _ _ _ h => h) (Or.inl ⟨by rfl, ?_⟩) ?_ ?_
        rotate_left
        · intro w'
          go_simp
          with_reducible rfl
        rotate_left
        · simp only [Act.put, List.setIfInBounds_toArray, List.set_cons_zero, List.set_cons_succ, i64_w, i32_w]
          rfl
        refine take_ (i := 3) (N := some 28) (v := ?_) (a' := ?_) #[true, true, true, true, true, true, true, false, false, false, false, false, false] rfl rfl (by kernel_rfl) (fun _ _ _ h => h) (Or.inl ⟨by rfl, ?_⟩) hHeld ?_ ?_
        rotate_left
        · rintro w' ⟨s0, s1⟩
          go_simp
          with_reducible rfl
        rotate_left
        · simp only [Act.put, List.setIfInBounds_toArray, List.set_cons_zero, List.set_cons_succ, i64_w, i32_w]
          rfl
        refine take_ (i := 7) (N := some 32) (v := ?_) (a' := ?_) #[true, true, true, true, true, true, true, true, false, false, false, false, false] rfl rfl (by kernel_rfl) (fun _ _ _ h => h) (Or.inl ⟨by rfl, ?_⟩) hHeld ?_ ?_
        rotate_left
        · rintro w' ⟨s0, s1⟩
          go_simp
          with_reducible rfl
        rotate_left
        · simp only [Act.put, List.setIfInBounds_toArray, List.set_cons_zero, List.set_cons_succ, i64_w, i32_w]
          rfl
        refine pure_ (i := 8) (N := some 33) (v := ?_) (a' := ?_) #[true, true, true, true, true, true, true, true, true, false, false, false, false] rfl rfl (by kernel_rfl) (fun _ _ _ h => h) (Or.inl ⟨by rfl, ?_⟩) ?_ ?_
        rotate_left
        · intro w'
          go_simp
          with_reducible rfl
        rotate_left
        · simp only [Act.put, List.setIfInBounds_toArray, List.set_cons_zero, List.set_cons_succ, i64_w, i32_w]
          rfl
        refine pure_ (i := 9) (N := some 34) (v := ?_) (a' := ?_) #[true, true, true, true, true, true, true, true, true, true, false, false, false] rfl rfl (by kernel_rfl) (fun _ _ _ h => h) (Or.inl ⟨by rfl, ?_⟩) ?_ ?_
        rotate_left
        · intro w'
          go_simp
          with_reducible rfl
        rotate_left
        · simp only [Act.put, List.setIfInBounds_toArray, List.set_cons_zero, List.set_cons_succ, i64_w, i32_w]
          rfl
        refine pure_ (i := 10) (N := some 35) (v := ?_) (a' := ?_) #[true, true, true, true, true, true, true, true, true, true, true, false, false] rfl rfl (by kernel_rfl) (fun _ _ _ h => h) (Or.inl ⟨by rfl, ?_⟩) ?_ ?_
        rotate_left
        · intro w'
          go_simp
          with_reducible rfl
        rotate_left
        · simp only [Act.put, List.setIfInBounds_toArray, List.set_cons_zero, List.set_cons_succ, i64_w, i32_w]
          rfl
        refine pure_ (i := 11) (N := some 36) (v := ?_) (a' := ?_) #[true, true, true, true, true, true, true, true, true, true, true, true, false] rfl rfl (by kernel_rfl) (fun _ _ _ h => h) (Or.inl ⟨by rfl, ?_⟩) ?_ ?_
        rotate_left
        · intro w'
          go_simp
          with_reducible rfl
        rotate_left
        · simp only [Act.put, List.setIfInBounds_toArray, List.set_cons_zero, List.set_cons_succ, i64_w, i32_w]
          rfl
        refine last_ (i := 12) (N := none) #[true, true, true, true, true, true, true, true, true, true, true, true, true] rfl rfl (by kernel_rfl) (by decide) (fun K hK => ?_)
        refine skip_ (w1 := w3.drew.setCell ⟨d, 1, none⟩ (.int .i64 (wrap64 (u - (n6 : Int))))) (by rfl) rfl ?_ ?_
        · go_simp
          try rfl
        refine hK.out _ _ ?_
        clear hK K
        refine done_ (by kernel_rfl) ?_
        rw [HW.out]
        have hk6 := (KeptL.refl (fun k => k = d) w3).drew.setCell ⟨d, 1, none⟩ (.int .i64 (u - la)) (.inl rfl)
        have HN : Aside0 (DskM (w3.drew.setCell ⟨d, 1, none⟩ (.int .i64 (u - la))) F d S (uAt u la lb (0 + 1)) md ms (.slice Af (fm.map (·.1)).length cf) (.slice Av S.chg.length cv) fm ∧ KeptL (fun k => k = d) W2 (w3.drew.setCell ⟨d, 1, none⟩ (.int .i64 (u - la)))) := ⟨HR.out.1.turnD hk6 (blkD_put (blk_drew HR.out.1.blk) 1 _ rfl) rfl rfl rfl rfl, HR.out.2.trans hk6⟩
        clear HR hk6 k0 c1 z1 hw HL0
        go_wp2_with fail
        go_roundw
        case rel => exact ⟨0 + 1, by omega, by go_num, HN⟩
        case measure => simp [intOf]
    · have hub : 0 ≤ la ∧ la ≤ 4194304 ∧ 0 ≤ lb ∧ lb ≤ 4194304 := by omega
      have HR := Aside0.mk HM.out
      clear hBc hBl
      go_wp2_with fail
      clear l0 l1
      refine (disk_find.calls HR.out.1 (fun e he => ⟨(HI.out.okD e he).1, (HI.out.okD e he).2.1⟩) b (by have := HAB.out; omega)).mono ?_
      rintro x w3 ⟨rfl, ⟨hh, rfl⟩ | ⟨en, hh, rfl⟩⟩
      · have HL0 : Aside0 (lb = 0) := ⟨by rw [HLB.out]; unfold lenN; rw [hh]⟩
        have HN : Aside0 (DskM w3 F d S (uAt u la lb (1 + 1)) md ms (.slice Af (fm.map (·.1)).length cf) (.slice Av S.chg.length cv) fm ∧ KeptL (fun k => k = d) W2 w3) := ⟨by
          have e : uAt u la lb (1 + 1) = uAt u la lb 1 := by show u - la - lb = u - la; have := HL0.out; omega
          rw [e]; exact HR.out⟩
        clear hh HM HR HL0
        go_wp2_with fail
        go_roundw
        case rel => exact ⟨1 + 1, by omega, by go_num, HN⟩
        case measure => simp [intOf]
      · have hd := HI.out.okD en (has_some hh).1
        obtain ⟨j6, hj6⟩ : ∃ j6 : Nat, j6 = en.2.toNat := ⟨_, rfl⟩
        have hj7 : j6 < S.files.length := by omega
        obtain ⟨A6, c6, hv6, hb6, hc6, hC6⟩ := HR.out.1.fileCell j6 hj7
        have HL0 : Aside0 (lb = ((S.files.getD j6 ([], 0)).1.length : Int)) := ⟨by rw [HLB.out]; unfold lenN fileOf; rw [hh, hj6]⟩
        rw [← hj6]
        obtain ⟨b6, hbb⟩ : ∃ b6, b6 = (fm.getD j6 fm0).1 := ⟨_, rfl⟩
        rw [← hbb] at hb6 ⊢
        obtain ⟨n6, hn6⟩ : ∃ n6, n6 = (S.files.getD j6 ([], 0)).1.length := ⟨_, rfl⟩
        rw [← hn6] at hb6 HL0
        have k0 := (blk_cell hb6 0).trans rfl
        have c1 := (blk_cell HR.out.1.blk 1).trans rfl
        have z1 := blk_frozen HR.out.1.blk 1
        have hw : wrap64 (u - la - (n6 : Int)) = u - la - lb := by have h1 := HL0.out; rw [w64L (by omega) (by omega)]; omega
        have HW := Aside0.mk hw
        clear hv6 hc6 hC6 hb6 hbb hn6 hh hd hj6 hj7 HM
        change w3.cell? ⟨d, 1, none⟩ = some (.int .i64 (u - la)) at c1
        go_wp2_with fail
        refine start_ (n := 13) (S := fun w' => w'.cell? ⟨d, 1, none⟩ = some (.int .i64 (u - la)) ∧ w'.cell? ⟨b6, 0, none⟩ = some (.slice A6 n6 c6)) (ds := [12]) #[false, false, false, false, false, false, false, false, false, false, false, false, false] (by kernel_rfl) rfl rfl ⟨c1, k0⟩ (fun hHeld => ?_)
        refine pure_ (i := 0) (N := some 25) (v := ?_) (a' := ?_) #[true, false, false, false, false, false, false, false, false, false, false, false, false] rfl rfl (by kernel_rfl) (fun _ _ _ h => h) (Or.inl ⟨by rfl, ?_⟩) ?_ ?_
        rotate_left
        · intro w'
          go_simp
          with_reducible rfl
        rotate_left
        · simp only [Act.put, List.setIfInBounds_toArray, List.set_cons_zero, List.set_cons_succ, i64_w, i32_w]
          rfl
        refine pure_ (i := 1) (N := some 26) (v := ?_) (a' := ?_) #[true, true, false, false, false, false, false, false, false, false, false, false, false] rfl rfl (by kernel_rfl) (fun _ _ _ h => h) (Or.inl ⟨by rfl, ?_⟩) ?_ ?_
        rotate_left
        · intro w'
          go_simp
          with_reducible rfl
        rotate_left
        · simp only [Act.put, List.setIfInBounds_toArray, List.set_cons_zero, List.set_cons_succ, i64_w, i32_w]
          rfl
        refine pure_ (i := 2) (N := some 27) (v := ?_) (a' := ?_) #[true, true, true, false, false, false, false, false, false, false, false, false, false] rfl rfl (by kernel_rfl) (fun _ _ _ h => h) (Or.inl ⟨by rfl, ?_⟩) ?_ ?_
        rotate_left
        · intro w'
          go_simp
          with_reducible rfl
        rotate_left
        · simp only [Act.put, List.setIfInBounds_toArray, List.set_cons_zero, List.set_cons_succ, i64_w, i32_w]
          rfl
        refine pure_ (i := 4) (N := some 29) (v := ?_) (a' := ?_) #[true, true, true, false, true, false, false, false, false, false, false, false, false] rfl rfl (by kernel_rfl) (fun _ _ _ h => h) (Or.inl ⟨by rfl, ?_⟩) ?_ ?_
        rotate_left
        · intro w'
          go_simp
          with_reducible rfl
        rotate_left
        · simp only [Act.put, List.setIfInBounds_toArray, List.set_cons_zero, List.set_cons_succ, i64_w, i32_w]
          rfl
        refine pure_ (i := 5) (N := some 30) (v := ?_) (a' := ?_) #[true, true, true, false, true, true, false, false, false, false, false, false, false] rfl rfl (by kernel_rfl) (fun _ _ _ h => h) (Or.inl ⟨by rfl, ?_⟩) ?_ ?_
        rotate_left
        · intro w'
          go_simp
          with_reducible rfl
        rotate_left
        · simp only [Act.put, List.setIfInBounds_toArray, List.set_cons_zero, List.set_cons_succ, i64_w, i32_w]
          rfl
        refine pure_ (i := 6) (N := some 31) (v := ?_) (a' := ?_) #[true, true, true, false, true, true, true, false, false, false, false, false, false] rfl rfl (by kernel_rfl) (fun _ _ _ h => h) (Or.inl ⟨by rfl, ?_⟩) ?_ ?_
        rotate_left
        · intro w'
          go_simp
          with_reducible rfl
        rotate_left
        · simp only [Act.put, List.setIfInBounds_toArray, List.set_cons_zero, List.set_cons_succ, i64_w, i32_w]
          rfl
        refine take_ (i := 3) (N := some 28) (v := ?_) (a' := ?_) #[true, true, true, true, true, true, true, false, false, false, false, false, false] rfl rfl (by kernel_rfl) (fun _ _ _ h => h) (Or.inl ⟨by rfl, ?_⟩) hHeld ?_ ?_
        rotate_left
        · rintro w' ⟨s0, s1⟩
          go_simp
          with_reducible rfl
        rotate_left
        · simp only [Act.put, List.setIfInBounds_toArray, List.set_cons_zero, List.set_cons_succ, i64_w, i32_w]
          rfl
        refine take_ (i := 7) (N := some 32) (v := ?_) (a' := ?_) #[true, true, true, true, true, true, true, true, false, false, false, false, false] rfl rfl (by kernel_rfl) (fun _ _ _ h => h) (Or.inl ⟨by rfl, ?_⟩) hHeld ?_ ?_
        rotate_left
        · rintro w' ⟨s0, s1⟩
          go_simp
          with_reducible rfl
        rotate_left
        · simp only [Act.put, List.setIfInBounds_toArray, List.set_cons_zero, List.set_cons_succ, i64_w, i32_w]
          rfl
        refine pure_ (i := 8) (N := some 33) (v := ?_) (a' := ?_) #[true, true, true, true, true, true, true, true, true, false, false, false, false] rfl rfl (by kernel_rfl) (fun _ _ _ h => h) (Or.inl ⟨by rfl, ?_⟩) ?_ ?_
        rotate_left
        · intro w'
          go_simp
          with_reducible rfl
        rotate_left
        · simp only [Act.put, List.setIfInBounds_toArray, List.set_cons_zero, List.set_cons_succ, i64_w, i32_w]
          rfl
        refine pure_ (i := 9) (N := some 34) (v := ?_) (a' := ?_) #[true, true, true, true, true, true, true, true, true, true, false, false, false] rfl rfl (by kernel_rfl) (fun _ _ _ h => h) (Or.inl ⟨by rfl, ?_⟩) ?_ ?_
        rotate_left
        · intro w'
          go_simp
          with_reducible rfl
        rotate_left
        · simp only [Act.put, List.setIfInBounds_toArray, List.set_cons_zero, List.set_cons_succ, i64_w, i32_w]
          rfl
        refine pure_ (i := 10) (N := some 35) (v := ?_) (a' := ?_) #[true, true, true, true, true, true, true, true, true, true, true, false, false] rfl rfl (by kernel_rfl) (fun _ _ _ h => h) (Or.inl ⟨by rfl, ?_⟩) ?_ ?_
        rotate_left
        · intro w'
          go_simp
          with_reducible rfl
        rotate_left
        · simp only [Act.put, List.setIfInBounds_toArray, List.set_cons_zero, List.set_cons_succ, i64_w, i32_w]
          rfl
        refine pure_ (i := 11) (N := some 36) (v := ?_) (a' := ?_) #[true, true, true, true, true, true, true, true, true, true, true, true, false] rfl rfl (by kernel_rfl) (fun _ _ _ h => h) (Or.inl ⟨by rfl, ?_⟩) ?_ ?_
        rotate_left
        · intro w'
          go_simp
          with_reducible rfl
        rotate_left
        · simp only [Act.put, List.setIfInBounds_toArray, List.set_cons_zero, List.set_cons_succ, i64_w, i32_w]
          rfl
        refine last_ (i := 12) (N := none) #[true, true, true, true, true, true, true, true, true, true, true, true, true] rfl rfl (by kernel_rfl) (by decide) (fun K hK => ?_)
        refine skip_ (w1 := w3.drew.setCell ⟨d, 1, none⟩ (.int .i64 (wrap64 (u - la - (n6 : Int))))) (by rfl) rfl ?_ ?_
        · go_simp
          try rfl
        refine hK.out _ _ ?_
        clear hK K
        refine done_ (by kernel_rfl) ?_
        rw [HW.out]
        have hk6 := (KeptL.refl (fun k => k = d) w3).drew.setCell ⟨d, 1, none⟩ (.int .i64 (u - la - lb)) (.inl rfl)
        have HN : Aside0 (DskM (w3.drew.setCell ⟨d, 1, none⟩ (.int .i64 (u - la - lb))) F d S (uAt u la lb (1 + 1)) md ms (.slice Af (fm.map (·.1)).length cf) (.slice Av S.chg.length cv) fm ∧ KeptL (fun k => k = d) W2 (w3.drew.setCell ⟨d, 1, none⟩ (.int .i64 (u - la - lb)))) := ⟨HR.out.1.turnD hk6 (blkD_put (blk_drew HR.out.1.blk) 1 _ rfl) rfl rfl rfl rfl, HR.out.2.trans hk6⟩
        clear HR hk6 k0 c1 z1 hw HL0
        go_wp2_with fail
        go_roundw
        case rel => exact ⟨1 + 1, by omega, by go_num, HN⟩
        case measure => simp [intOf]
    · have HBC9 := Aside0.mk hBc
      clear hBl l0 l1
      have c3 := (blk_cell HM.out.1.blk 3).trans rfl
      have q0 := (blk_cell hBc 0).trans rfl
      have q1 := (blk_cell hBc 1).trans rfl
      have q2 := (blk_cell hBc 2).trans rfl
      clear hBc
      have hjB : (j : Int) < 9223372036854775807 := by have h1 := HJ.out; have h2 := HI.out.lenF; have h3 := HI.out.opsB; omega
      have HJB : Aside0 ((0 : Int) ≤ j ∧ (j : Int) ≤ 9223372036854775807) := ⟨by omega⟩
      go_wp2_with fail
      refine start_ (n := 6) (S := fun w' => w'.cell? ⟨d, 3, none⟩ = some (.map (some md)) ∧ w'.cell? ⟨Bc, 0, none⟩ = some (.string a) ∧ w'.cell? ⟨Bc, 1, none⟩ = some (.string b) ∧ w'.cell? ⟨Bc, 2, none⟩ = some (.int .i64 (j : Int))) (ds := [5]) #[false, false, false, false, false, false] (by kernel_rfl) rfl rfl ⟨c3, q0, q1, q2⟩ (fun hHeld => ?_)
      refine pure_ (i := 0) (N := some 38) (v := ?_) (a' := ?_) #[true, false, false, false, false, false] rfl rfl (by kernel_rfl) (fun _ _ _ h => h) (Or.inl ⟨by rfl, ?_⟩) ?_ ?_
      rotate_left
      · intro w'
        go_simp
        with_reducible rfl
      rotate_left
      · simp only [Act.put, List.setIfInBounds_toArray, List.set_cons_zero, List.set_cons_succ, i64_w, i32_w]
        rfl
      refine pure_ (i := 1) (N := some 39) (v := ?_) (a' := ?_) #[true, true, false, false, false, false] rfl rfl (by kernel_rfl) (fun _ _ _ h => h) (Or.inl ⟨by rfl, ?_⟩) ?_ ?_
      rotate_left
      · intro w'
        go_simp
        with_reducible rfl
      rotate_left
      · simp only [Act.put, List.setIfInBounds_toArray, List.set_cons_zero, List.set_cons_succ, i64_w, i32_w]
        rfl
      refine pure_ (i := 2) (N := some 40) (v := ?_) (a' := ?_) #[true, true, true, false, false, false] rfl rfl (by kernel_rfl) (fun _ _ _ h => h) (Or.inl ⟨by rfl, ?_⟩) ?_ ?_
      rotate_left
      · intro w'
        go_simp
        with_reducible rfl
      rotate_left
      · simp only [Act.put, List.setIfInBounds_toArray, List.set_cons_zero, List.set_cons_succ, i64_w, i32_w]
        rfl
      refine take_ (i := 3) (N := some 41) (v := ?_) (a' := ?_) #[true, true, true, true, false, false] rfl rfl (by kernel_rfl) (fun _ _ _ h => h) (Or.inl ⟨by rfl, ?_⟩) hHeld ?_ ?_
      rotate_left
      · rintro w' ⟨s0, s1, s2, s3⟩
        go_simp
        with_reducible rfl
      rotate_left
      · simp only [Act.put, List.setIfInBounds_toArray, List.set_cons_zero, List.set_cons_succ, i64_w, i32_w]
        rfl
      refine take_ (i := 4) (N := some 42) (v := ?_) (a' := ?_) #[true, true, true, true, true, false] rfl rfl (by kernel_rfl) (fun _ _ _ h => h) (Or.inl ⟨by rfl, ?_⟩) hHeld ?_ ?_
      rotate_left
      · rintro w' ⟨s0, s1, s2, s3⟩
        go_simp
        with_reducible rfl
      rotate_left
      · simp only [Act.put, List.setIfInBounds_toArray, List.set_cons_zero, List.set_cons_succ, i64_w, i32_w]
        rfl
      refine last_ (i := 5) (N := some 43) #[true, true, true, true, true, true] rfl rfl (by kernel_rfl) (by decide) (fun K hK => ?_)
      refine goes_ Try.func48 (by kernel_rfl) rfl #[.map (some md), .agg #[.string a, .string b, .int .i64 (j : Int)]] (by rfl) rfl rfl (by simp only [List.map_toArray, List.map_cons, List.map_nil]; rfl) ?_
      with_reducible refine (disk_turn.calls (HM.out.1.below (below_drew1 (Below.refl _ _))).dir HI.out.srtD (by have := HI.out.lenD; omega) a b (j : Int) HAB.out.1 HAB.out.2 HJB.out).mono ?_
      rintro e w5 ⟨⟨v5, rfl⟩, hO5, hK5⟩
      have HO5 := Aside0.mk hO5
      have HK5 := Aside0.mk hK5
      clear hO5 hK5
      refine ⟨_, rfl, ?_⟩
      refine hK.out _ _ ?_
      clear hK K
      refine norm_ (a' := ?_) ?_ ?_
      rotate_left
      · show Act.put _ (some 43) _ = _
        simp only [Act.put, List.setIfInBounds_toArray, List.set_cons_zero, List.set_cons_succ, i64_w, i32_w]
        rfl
      refine done_ (by kernel_rfl) ?_
      have HB5 : Aside0 (w5.heap[Bc]? = some (.cells #[.string a, .string b, .int .i64 (j : Int)] 89 (0, 0))) := ⟨(HK5.out.block Bc (blk_lt HBC9.out) (fun e => HM.out.1.dir.ne HBC9.out e.symm)).trans HBC9.out⟩
      have H5 : Aside0 (DskM w5 F d { S with dir := turn S.dir (a, b, (j : Int)) } (u - la - lb) md ms (.slice Af (fm.map (·.1)).length cf) (.slice Av S.chg.length cv) fm) := ⟨(HM.out.1.below (below_drew1 (Below.refl _ _))).turnDir HK5.out HO5.out⟩
      have HKF : Aside0 (KeptL F w w5) := ⟨(HK2.out.trans ((HM.out.2.drew).mono (fun k e => by rw [e]; exact HH.out.foot.1))).trans (HK5.out.mono (fun k e => by rw [e]; exact HH.out.foot.2.1))⟩
      clear c3 q0 q1 q2 HBC9 HO5 HK5 HM
      obtain ⟨f5, hf5⟩ : ∃ f5, f5 = fileOf S (j : Int) := ⟨_, rfl⟩
      have hfl : f5.1.length ≤ 4194304 := by rw [hf5]; exact (HI.out.fil _ (fileOf_mem (by omega) (by have := HJ.out; omega))).1
      have HF5 := Aside0.mk hf5
      have HLL : Aside0 ((S.chg.length + 1) * 40 ≤ 140737488355328) := ⟨by have h2 := HI.out.lenC; have h3 := HI.out.opsB; omega⟩
      clear hf5 hjB
      by_cases eb : b.size = 0
      · have t1 := emp_eq eb
        have HEB := Aside0.mk eb
        clear eb
        have q1 := (blk_cell HB5.out 1).trans rfl
        go_wp2_with fail
        clear q1 t1
        have q0 := (blk_cell HB5.out 0).trans rfl
        have q1 := (blk_cell HB5.out 1).trans rfl
        have q2 := (blk_cell HB5.out 2).trans rfl
        have c5 := (blk_cell H5.out.blk 5).trans rfl
        refine start_ (n := 11) (S := fun w' => w'.cell? ⟨d, 5, none⟩ = some (.slice Av S.chg.length cv) ∧ w'.cell? ⟨Bc, 0, none⟩ = some (.string a) ∧ w'.cell? ⟨Bc, 1, none⟩ = some (.string b) ∧ w'.cell? ⟨Bc, 2, none⟩ = some (.int .i64 (j : Int))) (ds := [7, 10]) #[false, false, false, false, false, false, false, false, false, false, false] (by kernel_rfl) rfl rfl ⟨c5, q0, q1, q2⟩ (fun hHeld => ?_)
        refine pure_ (i := 0) (N := some 66) (v := ?_) (a' := ?_) #[true, false, false, false, false, false, false, false, false, false, false] rfl rfl (by kernel_rfl) (fun _ _ _ h => h) (Or.inl ⟨by rfl, ?_⟩) ?_ ?_
        rotate_left
        · intro w'
          go_simp
          with_reducible rfl
        rotate_left
        · simp only [Act.put, List.setIfInBounds_toArray, List.set_cons_zero, List.set_cons_succ, i64_w, i32_w]
          rfl
        refine pure_ (i := 1) (N := some 67) (v := ?_) (a' := ?_) #[true, true, false, false, false, false, false, false, false, false, false] rfl rfl (by kernel_rfl) (fun _ _ _ h => h) (Or.inl ⟨by rfl, ?_⟩) ?_ ?_
        rotate_left
        · intro w'
          go_simp
          with_reducible rfl
        rotate_left
        · simp only [Act.put, List.setIfInBounds_toArray, List.set_cons_zero, List.set_cons_succ, i64_w, i32_w]
          rfl
        refine pure_ (i := 2) (N := some 68) (v := ?_) (a' := ?_) #[true, true, true, false, false, false, false, false, false, false, false] rfl rfl (by kernel_rfl) (fun _ _ _ h => h) (Or.inl ⟨by rfl, ?_⟩) ?_ ?_
        rotate_left
        · intro w'
          go_simp
          with_reducible rfl
        rotate_left
        · simp only [Act.put, List.setIfInBounds_toArray, List.set_cons_zero, List.set_cons_succ, i64_w, i32_w]
          rfl
        refine pure_ (i := 3) (N := some 69) (v := ?_) (a' := ?_) #[true, true, true, true, false, false, false, false, false, false, false] rfl rfl (by kernel_rfl) (fun _ _ _ h => h) (Or.inl ⟨by rfl, ?_⟩) ?_ ?_
        rotate_left
        · intro w'
          go_simp
          with_reducible rfl
        rotate_left
        · simp only [Act.put, List.setIfInBounds_toArray, List.set_cons_zero, List.set_cons_succ, i64_w, i32_w]
          rfl
        refine take_ (i := 4) (N := some 70) (v := ?_) (a' := ?_) #[true, true, true, true, true, false, false, false, false, false, false] rfl rfl (by kernel_rfl) (fun _ _ _ h => h) (Or.inl ⟨by rfl, ?_⟩) hHeld ?_ ?_
        rotate_left
        · rintro w' ⟨s0, s1, s2, s3⟩
          go_simp
          with_reducible rfl
        rotate_left
        · simp only [Act.put, List.setIfInBounds_toArray, List.set_cons_zero, List.set_cons_succ, i64_w, i32_w]
          rfl
        refine take_ (i := 5) (N := some 71) (v := ?_) (a' := ?_) #[true, true, true, true, true, true, false, false, false, false, false] rfl rfl (by kernel_rfl) (fun _ _ _ h => h) (Or.inl ⟨by rfl, ?_⟩) hHeld ?_ ?_
        rotate_left
        · rintro w' ⟨s0, s1, s2, s3⟩
          go_simp
          with_reducible rfl
        rotate_left
        · simp only [Act.put, List.setIfInBounds_toArray, List.set_cons_zero, List.set_cons_succ, i64_w, i32_w]
          rfl
        refine one_ (i := 6) (N := some 72) #[true, true, true, true, true, true, true, false, false, false, false] rfl rfl (by kernel_rfl) (by decide) (fun K hK => ?_)
        refine value_ (w1 := w5.drew.alloc (.cells #[.string a, .string b, .int .i64 (j : Int)] 89)) (v := .slice (some ⟨w5.heap.size, 0, none⟩) 1 1) (by rfl) rfl ?_ ?_
        · go_simp
          try rfl
        refine hK.out _ _ ⟨pw_cell_below (below_alloc (Below.refl w5.drew.heap.size w5.drew) _) hHeld.1, pw_cell_below (below_alloc (Below.refl w5.drew.heap.size w5.drew) _) hHeld.2.1, pw_cell_below (below_alloc (Below.refl w5.drew.heap.size w5.drew) _) hHeld.2.2.1, pw_cell_below (below_alloc (Below.refl w5.drew.heap.size w5.drew) _) hHeld.2.2.2⟩ (fun hHeld => ?_)
        clear hK K
        refine norm_ (a' := ?_) ?_ ?_
        rotate_left
        · show Act.put _ (some 72) _ = _
          simp only [Act.put, List.setIfInBounds_toArray, List.set_cons_zero, List.set_cons_succ, i64_w, i32_w]
          rfl
        refine last_ (i := 7) (N := some 73) #[true, true, true, true, true, true, true, true, false, false, false] rfl rfl (by kernel_rfl) (by decide) (fun K hK => ?_)
        refine Kd.R_append_step kC (w0 := w5.drew) (W := w5.drew) 0 (by rfl) (.tmp 70) (.tmp 72) 85 89 (.agg #[.string ⟨#[]⟩, .string ⟨#[]⟩, .int .i64 0]) 40 (by rfl) Try.underlying85 infoC rfl (by decide) (by decide) (.slice Av S.chg.length cv) S.chg (a, b, (j : Int)) [.string a, .string b, .int .i64 (j : Int)] (fun _ => True) (fun _ => False) (by rfl) (by rfl) (kC_M _ _ _ _) (fun _ h => h.elim) (fun _ _ => trivial) ?aO (Below.refl _ _) (Nat.zero_le _) HLL.out ?_
        case aO => exact Kd.R_drew H5.out.chg
        intro v7 w7 ho hb hg hat
        obtain ⟨A7, c7, hv7⟩ := Kd.R_slice ho
        obtain ⟨n7, hn7⟩ : ∃ n7, n7 = (S.chg ++ [(a, b, (j : Int))]).length := ⟨_, rfl⟩
        rw [← hn7] at hv7
        clear hn7
        subst hv7
        have HR7 := Aside0.mk ho
        have HAT : Aside0 ((Value.slice A7 n7 c7).ownBlock = (Value.slice Av S.chg.length cv).ownBlock ∨ ∃ b, (Value.slice A7 n7 c7).ownBlock = some b ∧ w5.heap.size ≤ b) := ⟨hat⟩
        have HG7 : Aside0 (w5.drew.grownBy w7 (Value.slice Av S.chg.length cv).ownBlock) := ⟨hg⟩
        have BD7 := Aside0.mk (blk_grown (blk_drew H5.out.blk) hg (fun e => Kd.R_ne H5.out.chg H5.out.blk (by decide) e))
        have NED : Aside0 (∀ k, (∃ q, q ∈ 89 :: kC.E ∧ ∃ cells, w7.heap[k]? = some (.cells cells q (0, 0))) → k ≠ d) := ⟨fun k hk e => by obtain ⟨q, hq, cells, hcc⟩ := hk; rw [e] at hcc; refine blk_ne hcc BD7.out (fun e2 => ?_) rfl; rw [e2] at hq; revert hq; decide⟩
        have x5 := (blk_cell BD7.out 5).trans rfl
        have xz5 := blk_frozen BD7.out 5
        clear ho hb hg hat
        refine hK.out _ _ ?_
        clear hK K
        refine norm_ (a' := ?_) ?_ ?_
        rotate_left
        · show Act.put _ (some 73) _ = _
          simp only [Act.put, List.setIfInBounds_toArray, List.set_cons_zero, List.set_cons_succ, i64_w, i32_w]
          rfl
        refine pure_ (i := 8) (N := some 74) (v := ?_) (a' := ?_) #[true, true, true, true, true, true, true, true, true, false, false] rfl rfl (by kernel_rfl) (fun _ _ _ h => h) (Or.inl ⟨by rfl, ?_⟩) ?_ ?_
        rotate_left
        · intro w'
          go_simp
          with_reducible rfl
        rotate_left
        · simp only [Act.put, List.setIfInBounds_toArray, List.set_cons_zero, List.set_cons_succ, i64_w, i32_w]
          rfl
        refine pure_ (i := 9) (N := some 75) (v := ?_) (a' := ?_) #[true, true, true, true, true, true, true, true, true, true, false] rfl rfl (by kernel_rfl) (fun _ _ _ h => h) (Or.inl ⟨by rfl, ?_⟩) ?_ ?_
        rotate_left
        · intro w'
          go_simp
          with_reducible rfl
        rotate_left
        · simp only [Act.put, List.setIfInBounds_toArray, List.set_cons_zero, List.set_cons_succ, i64_w, i32_w]
          rfl
        refine last_ (i := 10) (N := none) #[true, true, true, true, true, true, true, true, true, true, true] rfl rfl (by kernel_rfl) (by decide) (fun K hK => ?_)
        refine skip_ (w1 := w7.setCell ⟨d, 5, none⟩ (.slice A7 n7 c7)) (by rfl) rfl ?_ ?_
        · go_simp
          try rfl
        refine hK.out _ _ ?_
        clear hK K
        refine done_ (by kernel_rfl) ?_
        have hk9 := (((KeptL.refl (fun k => k = d ∨ (Value.slice Av S.chg.length cv).ownBlock = some k) w5).drew).grown HG7.out (fun k e => .inl (.inr e))).setCell ⟨d, 5, none⟩ (.slice A7 n7 c7) (.inl (.inl rfl))
        have hF := H5.out.addChg hk9 (blkD_put BD7.out 5 _ rfl) (Kd.R_far (Kd.R_mono (Kd.R_bound HR7.out) (ok' := fun k => k ≠ d) (fun k hk e => NED.out k hk.2.2.2 e)) (p := ⟨d, 5, none⟩) (fun k hk => hk) _ |> fun z => Kd.R_mono z (fun _ _ => trivial)) HAT.out
        have e8 : (fm.map (·.1)).length = S.files.length := (by rw [List.length_map]; exact HLEN.out)
        rw [e8] at hF
        have HF9 := Aside0.mk hF
        clear hF e8
        go_wp2_with fail
        go_end0
        have e9 : u - la - lb + lenB S b (j : Int) = u - la - lb := (by unfold lenB; rw [if_pos HEB.out]; omega)
        rw [e9]
        refine ⟨⟨_, rfl⟩, HKF.out.trans (hk9.mono (fun k e => by rcases e with e | e; rw [e]; exact HH.out.foot.1; exact HH.out.foot.2.2.2.2.1 k e)), _, HF9.out.monoF (fun k hk => ?_) ?_⟩
        · rcases hk with hk | hk
          · exact .inl hk
          · exact .inr ⟨Nat.le_trans HKF.out.size hk.1, hk.2⟩
        · exact lt_grow HH.out.lt (Nat.le_trans HKF.out.size hk9.size)
      · have t1 := emp_ne eb
        have HEB := Aside0.mk eb
        clear eb
        have q1 := (blk_cell HB5.out 1).trans rfl
        have q2 := (blk_cell HB5.out 2).trans rfl
        go_wp2_with fail
        obtain ⟨A6, c6, hv6, hb6, hc6, hC6⟩ := H5.out.fileCell j HJ.out
        obtain ⟨b6, hbb⟩ : ∃ b6, b6 = (fm.getD j fm0).1 := ⟨_, rfl⟩
        have hfe : S.files.getD j ([], 0) = f5 := by rw [HF5.out]; unfold fileOf; rw [Int.toNat_natCast]
        have hb6' : w5.heap[(fm.getD j fm0).1]? = some (.cells #[.slice A6 (S.files.getD j ([], 0)).1.length c6, .int .i64 (S.files.getD j ([], 0)).2] 97 (0, 0)) := hb6
        rw [hfe, ← hbb] at hb6'
        have k0 := (blk_cell hb6' 0).trans rfl
        have hC2 := (Kd.R_reads' H5.out.own).2.2
        obtain ⟨ad, rfl, hp⟩ := ptr_at hC2 j (by rw [List.length_map]; have := HJ.out; have := HLEN.out; omega)
        rw [getD_map1 (by have := HJ.out; have := HLEN.out; omega), ← hbb] at hp
        have c1 := (blk_cell H5.out.blk 1).trans rfl
        have c2 := (blk_cell H5.out.blk 2).trans rfl
        have z1 := blk_frozen H5.out.blk 1
        have hjl : j < (fm.map (·.1)).length := by rw [List.length_map]; have := HJ.out; have := HLEN.out; omega
        have hj9 : j < S.files.length := HJ.out
        have t2 : (j < S.files.length) = True := eq_true HJ.out
        have hw : wrap64 (u - la - lb + (f5.1.length : Int)) = u - la - lb + (f5.1.length : Int) := w64L (by omega) (by omega)
        have HW := Aside0.mk hw
        clear hC6 hc6 hv6 hb6 hb6' hbb hfe hC2 q1
        refine start_ (n := 20) (S := fun w' => w'.cell? ⟨d, 1, none⟩ = some (.int .i64 (u - la - lb)) ∧ w'.cell? ⟨d, 2, none⟩ = some (.slice (some ad) (fm.map (·.1)).length cf) ∧ w'.cell? ⟨Bc, 2, none⟩ = some (.int .i64 (j : Int)) ∧ w'.cell? (ad.add j) = some (.pointer (some ⟨b6, 0, none⟩)) ∧ w'.cell? ⟨b6, 0, none⟩ = some (.slice A6 f5.1.length c6)) (ds := [19]) #[false, false, false, false, false, false, false, false, false, false, false, false, false, false, false, false, false, false, false, false] (by kernel_rfl) rfl rfl ⟨c1, c2, q2, hp, k0⟩ (fun hHeld => ?_)
        refine pure_ (i := 0) (N := some 47) (v := ?_) (a' := ?_) #[true, false, false, false, false, false, false, false, false, false, false, false, false, false, false, false, false, false, false, false] rfl rfl (by kernel_rfl) (fun _ _ _ h => h) (Or.inl ⟨by rfl, ?_⟩) ?_ ?_
        rotate_left
        · intro w'
          go_simp
          with_reducible rfl
        rotate_left
        · simp only [Act.put, List.setIfInBounds_toArray, List.set_cons_zero, List.set_cons_succ, i64_w, i32_w]
          rfl
        refine pure_ (i := 1) (N := some 48) (v := ?_) (a' := ?_) #[true, true, false, false, false, false, false, false, false, false, false, false, false, false, false, false, false, false, false, false] rfl rfl (by kernel_rfl) (fun _ _ _ h => h) (Or.inl ⟨by rfl, ?_⟩) ?_ ?_
        rotate_left
        · intro w'
          go_simp
          with_reducible rfl
        rotate_left
        · simp only [Act.put, List.setIfInBounds_toArray, List.set_cons_zero, List.set_cons_succ, i64_w, i32_w]
          rfl
        refine pure_ (i := 2) (N := some 49) (v := ?_) (a' := ?_) #[true, true, true, false, false, false, false, false, false, false, false, false, false, false, false, false, false, false, false, false] rfl rfl (by kernel_rfl) (fun _ _ _ h => h) (Or.inl ⟨by rfl, ?_⟩) ?_ ?_
        rotate_left
        · intro w'
          go_simp
          with_reducible rfl
        rotate_left
        · simp only [Act.put, List.setIfInBounds_toArray, List.set_cons_zero, List.set_cons_succ, i64_w, i32_w]
          rfl
        refine pure_ (i := 4) (N := some 51) (v := ?_) (a' := ?_) #[true, true, true, false, true, false, false, false, false, false, false, false, false, false, false, false, false, false, false, false] rfl rfl (by kernel_rfl) (fun _ _ _ h => h) (Or.inl ⟨by rfl, ?_⟩) ?_ ?_
        rotate_left
        · intro w'
          go_simp
          with_reducible rfl
        rotate_left
        · simp only [Act.put, List.setIfInBounds_toArray, List.set_cons_zero, List.set_cons_succ, i64_w, i32_w]
          rfl
        refine pure_ (i := 5) (N := some 52) (v := ?_) (a' := ?_) #[true, true, true, false, true, true, false, false, false, false, false, false, false, false, false, false, false, false, false, false] rfl rfl (by kernel_rfl) (fun _ _ _ h => h) (Or.inl ⟨by rfl, ?_⟩) ?_ ?_
        rotate_left
        · intro w'
          go_simp
          with_reducible rfl
        rotate_left
        · simp only [Act.put, List.setIfInBounds_toArray, List.set_cons_zero, List.set_cons_succ, i64_w, i32_w]
          rfl
        refine pure_ (i := 6) (N := some 53) (v := ?_) (a' := ?_) #[true, true, true, false, true, true, true, false, false, false, false, false, false, false, false, false, false, false, false, false] rfl rfl (by kernel_rfl) (fun _ _ _ h => h) (Or.inl ⟨by rfl, ?_⟩) ?_ ?_
        rotate_left
        · intro w'
          go_simp
          with_reducible rfl
        rotate_left
        · simp only [Act.put, List.setIfInBounds_toArray, List.set_cons_zero, List.set_cons_succ, i64_w, i32_w]
          rfl
        refine pure_ (i := 8) (N := some 55) (v := ?_) (a' := ?_) #[true, true, true, false, true, true, true, false, true, false, false, false, false, false, false, false, false, false, false, false] rfl rfl (by kernel_rfl) (fun _ _ _ h => h) (Or.inl ⟨by rfl, ?_⟩) ?_ ?_
        rotate_left
        · intro w'
          go_simp
          with_reducible rfl
        rotate_left
        · simp only [Act.put, List.setIfInBounds_toArray, List.set_cons_zero, List.set_cons_succ, i64_w, i32_w]
          rfl
        refine take_ (i := 3) (N := some 50) (v := ?_) (a' := ?_) #[true, true, true, true, true, true, true, false, true, false, false, false, false, false, false, false, false, false, false, false] rfl rfl (by kernel_rfl) (fun _ _ _ h => h) (Or.inl ⟨by rfl, ?_⟩) hHeld ?_ ?_
        rotate_left
        · rintro w' ⟨s0, s1, s2, s3, s4⟩
          go_simp
          with_reducible rfl
        rotate_left
        · simp only [Act.put, List.setIfInBounds_toArray, List.set_cons_zero, List.set_cons_succ, i64_w, i32_w]
          rfl
        refine take_ (i := 7) (N := some 54) (v := ?_) (a' := ?_) #[true, true, true, true, true, true, true, true, true, false, false, false, false, false, false, false, false, false, false, false] rfl rfl (by kernel_rfl) (fun _ _ _ h => h) (Or.inl ⟨by rfl, ?_⟩) hHeld ?_ ?_
        rotate_left
        · rintro w' ⟨s0, s1, s2, s3, s4⟩
          go_simp
          with_reducible rfl
        rotate_left
        · simp only [Act.put, List.setIfInBounds_toArray, List.set_cons_zero, List.set_cons_succ, i64_w, i32_w]
          rfl
        refine take_ (i := 9) (N := some 56) (v := ?_) (a' := ?_) #[true, true, true, true, true, true, true, true, true, true, false, false, false, false, false, false, false, false, false, false] rfl rfl (by kernel_rfl) (fun _ _ _ h => h) (Or.inl ⟨by rfl, ?_⟩) hHeld ?_ ?_
        rotate_left
        · rintro w' ⟨s0, s1, s2, s3, s4⟩
          go_simp
          with_reducible rfl
        rotate_left
        · simp only [Act.put, List.setIfInBounds_toArray, List.set_cons_zero, List.set_cons_succ, i64_w, i32_w]
          rfl
        refine pure_ (i := 10) (N := some 57) (v := ?_) (a' := ?_) #[true, true, true, true, true, true, true, true, true, true, true, false, false, false, false, false, false, false, false, false] rfl rfl (by kernel_rfl) (fun _ _ _ h => h) (Or.inl ⟨by rfl, ?_⟩) ?_ ?_
        rotate_left
        · intro w'
          go_simp
          with_reducible rfl
        rotate_left
        · simp only [Act.put, List.setIfInBounds_toArray, List.set_cons_zero, List.set_cons_succ, i64_w, i32_w]
          rfl
        refine take_ (i := 11) (N := some 58) (v := ?_) (a' := ?_) #[true, true, true, true, true, true, true, true, true, true, true, true, false, false, false, false, false, false, false, false] rfl rfl (by kernel_rfl) (fun _ _ _ h => h) (Or.inl ⟨by rfl, ?_⟩) hHeld ?_ ?_
        rotate_left
        · rintro w' ⟨s0, s1, s2, s3, s4⟩
          go_simp
          with_reducible rfl
        rotate_left
        · simp only [Act.put, List.setIfInBounds_toArray, List.set_cons_zero, List.set_cons_succ, i64_w, i32_w]
          rfl
        refine pure_ (i := 12) (N := some 59) (v := ?_) (a' := ?_) #[true, true, true, true, true, true, true, true, true, true, true, true, true, false, false, false, false, false, false, false] rfl rfl (by kernel_rfl) (fun _ _ _ h => h) (Or.inl ⟨by rfl, ?_⟩) ?_ ?_
        rotate_left
        · intro w'
          go_simp
          with_reducible rfl
        rotate_left
        · simp only [Act.put, List.setIfInBounds_toArray, List.set_cons_zero, List.set_cons_succ, i64_w, i32_w]
          rfl
        refine pure_ (i := 13) (N := some 60) (v := ?_) (a' := ?_) #[true, true, true, true, true, true, true, true, true, true, true, true, true, true, false, false, false, false, false, false] rfl rfl (by kernel_rfl) (fun _ _ _ h => h) (Or.inl ⟨by rfl, ?_⟩) ?_ ?_
        rotate_left
        · intro w'
          go_simp
          with_reducible rfl
        rotate_left
        · simp only [Act.put, List.setIfInBounds_toArray, List.set_cons_zero, List.set_cons_succ, i64_w, i32_w]
          rfl
        refine take_ (i := 14) (N := some 61) (v := ?_) (a' := ?_) #[true, true, true, true, true, true, true, true, true, true, true, true, true, true, true, false, false, false, false, false] rfl rfl (by kernel_rfl) (fun _ _ _ h => h) (Or.inl ⟨by rfl, ?_⟩) hHeld ?_ ?_
        rotate_left
        · rintro w' ⟨s0, s1, s2, s3, s4⟩
          go_simp
          with_reducible rfl
        rotate_left
        · simp only [Act.put, List.setIfInBounds_toArray, List.set_cons_zero, List.set_cons_succ, i64_w, i32_w]
          rfl
        refine pure_ (i := 15) (N := some 62) (v := ?_) (a' := ?_) #[true, true, true, true, true, true, true, true, true, true, true, true, true, true, true, true, false, false, false, false] rfl rfl (by kernel_rfl) (fun _ _ _ h => h) (Or.inl ⟨by rfl, ?_⟩) ?_ ?_
        rotate_left
        · intro w'
          go_simp
          with_reducible rfl
        rotate_left
        · simp only [Act.put, List.setIfInBounds_toArray, List.set_cons_zero, List.set_cons_succ, i64_w, i32_w]
          rfl
        refine pure_ (i := 16) (N := some 63) (v := ?_) (a' := ?_) #[true, true, true, true, true, true, true, true, true, true, true, true, true, true, true, true, true, false, false, false] rfl rfl (by kernel_rfl) (fun _ _ _ h => h) (Or.inl ⟨by rfl, ?_⟩) ?_ ?_
        rotate_left
        · intro w'
          go_simp
          with_reducible rfl
        rotate_left
        · simp only [Act.put, List.setIfInBounds_toArray, List.set_cons_zero, List.set_cons_succ, i64_w, i32_w]
          rfl
        refine pure_ (i := 17) (N := some 64) (v := ?_) (a' := ?_) #[true, true, true, true, true, true, true, true, true, true, true, true, true, true, true, true, true, true, false, false] rfl rfl (by kernel_rfl) (fun _ _ _ h => h) (Or.inl ⟨by rfl, ?_⟩) ?_ ?_
        rotate_left
        · intro w'
          go_simp
          with_reducible rfl
        rotate_left
        · simp only [Act.put, List.setIfInBounds_toArray, List.set_cons_zero, List.set_cons_succ, i64_w, i32_w]
          rfl
        refine pure_ (i := 18) (N := some 65) (v := ?_) (a' := ?_) #[true, true, true, true, true, true, true, true, true, true, true, true, true, true, true, true, true, true, true, false] rfl rfl (by kernel_rfl) (fun _ _ _ h => h) (Or.inl ⟨by rfl, ?_⟩) ?_ ?_
        rotate_left
        · intro w'
          go_simp
          with_reducible rfl
        rotate_left
        · simp only [Act.put, List.setIfInBounds_toArray, List.set_cons_zero, List.set_cons_succ, i64_w, i32_w]
          rfl
        refine last_ (i := 19) (N := none) #[true, true, true, true, true, true, true, true, true, true, true, true, true, true, true, true, true, true, true, true] rfl rfl (by kernel_rfl) (by decide) (fun K hK => ?_)
        refine skip_ (w1 := w5.drew.setCell ⟨d, 1, none⟩ (.int .i64 (wrap64 (u - la - lb + (f5.1.length : Int))))) (by rfl) rfl ?_ ?_
        · go_simp
          try rfl
        refine hK.out _ _ ?_
        clear hK K
        refine done_ (by kernel_rfl) ?_
        rw [HW.out]
        have hk6 := (KeptL.refl (fun k => k = d) w5).drew.setCell ⟨d, 1, none⟩ (.int .i64 (u - la - lb + (f5.1.length : Int))) (.inl rfl)
        have H6 := Aside0.mk (H5.out.turnD (S' := { S with dir := turn S.dir (a, b, (j : Int)) }) (u' := u - la - lb + (f5.1.length : Int)) hk6 (blkD_put (blk_drew H5.out.blk) 1 _ rfl) rfl rfl rfl rfl)
        have HB6 := Aside0.mk (blk_far (blk_drew HB5.out) (p := ⟨d, 1, none⟩) HNE.out.1 (.int .i64 (u - la - lb + (f5.1.length : Int))))
        replace HKF := Aside0.mk (HKF.out.trans (hk6.mono (fun k e => by rw [e]; exact HH.out.foot.1)))
        obtain ⟨w6, hw6⟩ : ∃ w6, w6 = w5.drew.setCell ⟨d, 1, none⟩ (.int .i64 (u - la - lb + (f5.1.length : Int))) := ⟨_, rfl⟩
        rw [← hw6] at H6 HB6 HKF ⊢
        clear hk6 hw6 HB5 H5 c1 c2 z1 k0 hp q2 hjl t1 t2 hw
        go_wp2_with fail
        have q0 := (blk_cell HB6.out 0).trans rfl
        have q1 := (blk_cell HB6.out 1).trans rfl
        have q2 := (blk_cell HB6.out 2).trans rfl
        have c5 := (blk_cell H6.out.blk 5).trans rfl
        refine start_ (n := 11) (S := fun w' => w'.cell? ⟨d, 5, none⟩ = some (.slice Av S.chg.length cv) ∧ w'.cell? ⟨Bc, 0, none⟩ = some (.string a) ∧ w'.cell? ⟨Bc, 1, none⟩ = some (.string b) ∧ w'.cell? ⟨Bc, 2, none⟩ = some (.int .i64 (j : Int))) (ds := [7, 10]) #[false, false, false, false, false, false, false, false, false, false, false] (by kernel_rfl) rfl rfl ⟨c5, q0, q1, q2⟩ (fun hHeld => ?_)
        refine pure_ (i := 0) (N := some 66) (v := ?_) (a' := ?_) #[true, false, false, false, false, false, false, false, false, false, false] rfl rfl (by kernel_rfl) (fun _ _ _ h => h) (Or.inl ⟨by rfl, ?_⟩) ?_ ?_
        rotate_left
        · intro w'
          go_simp
          with_reducible rfl
        rotate_left
        · simp only [Act.put, List.setIfInBounds_toArray, List.set_cons_zero, List.set_cons_succ, i64_w, i32_w]
          rfl
        refine pure_ (i := 1) (N := some 67) (v := ?_) (a' := ?_) #[true, true, false, false, false, false, false, false, false, false, false] rfl rfl (by kernel_rfl) (fun _ _ _ h => h) (Or.inl ⟨by rfl, ?_⟩) ?_ ?_
        rotate_left
        · intro w'
          go_simp
          with_reducible rfl
        rotate_left
        · simp only [Act.put, List.setIfInBounds_toArray, List.set_cons_zero, List.set_cons_succ, i64_w, i32_w]
          rfl
        refine pure_ (i := 2) (N := some 68) (v := ?_) (a' := ?_) #[true, true, true, false, false, false, false, false, false, false, false] rfl rfl (by kernel_rfl) (fun _ _ _ h => h) (Or.inl ⟨by rfl, ?_⟩) ?_ ?_
        rotate_left
        · intro w'
          go_simp
          with_reducible rfl
        rotate_left
        · simp only [Act.put, List.setIfInBounds_toArray, List.set_cons_zero, List.set_cons_succ, i64_w, i32_w]
          rfl
        refine pure_ (i := 3) (N := some 69) (v := ?_) (a' := ?_) #[true, true, true, true, false, false, false, false, false, false, false] rfl rfl (by kernel_rfl) (fun _ _ _ h => h) (Or.inl ⟨by rfl, ?_⟩) ?_ ?_
        rotate_left
        · intro w'
          go_simp
          with_reducible rfl
        rotate_left
        · simp only [Act.put, List.setIfInBounds_toArray, List.set_cons_zero, List.set_cons_succ, i64_w, i32_w]
          rfl
        refine take_ (i := 4) (N := some 70) (v := ?_) (a' := ?_) #[true, true, true, true, true, false, false, false, false, false, false] rfl rfl (by kernel_rfl) (fun _ _ _ h => h) (Or.inl ⟨by rfl, ?_⟩) hHeld ?_ ?_
        rotate_left
        · rintro w' ⟨s0, s1, s2, s3⟩
          go_simp
          with_reducible rfl
        rotate_left
        · simp only [Act.put, List.setIfInBounds_toArray, List.set_cons_zero, List.set_cons_succ, i64_w, i32_w]
          rfl
        refine take_ (i := 5) (N := some 71) (v := ?_) (a' := ?_) #[true, true, true, true, true, true, false, false, false, false, false] rfl rfl (by kernel_rfl) (fun _ _ _ h => h) (Or.inl ⟨by rfl, ?_⟩) hHeld ?_ ?_
        rotate_left
        · rintro w' ⟨s0, s1, s2, s3⟩
          go_simp
          with_reducible rfl
        rotate_left
        · simp only [Act.put, List.setIfInBounds_toArray, List.set_cons_zero, List.set_cons_succ, i64_w, i32_w]
          rfl
        refine one_ (i := 6) (N := some 72) #[true, true, true, true, true, true, true, false, false, false, false] rfl rfl (by kernel_rfl) (by decide) (fun K hK => ?_)
        refine value_ (w1 := w6.drew.alloc (.cells #[.string a, .string b, .int .i64 (j : Int)] 89)) (v := .slice (some ⟨w6.heap.size, 0, none⟩) 1 1) (by rfl) rfl ?_ ?_
        · go_simp
          try rfl
        refine hK.out _ _ ⟨pw_cell_below (below_alloc (Below.refl w6.drew.heap.size w6.drew) _) hHeld.1, pw_cell_below (below_alloc (Below.refl w6.drew.heap.size w6.drew) _) hHeld.2.1, pw_cell_below (below_alloc (Below.refl w6.drew.heap.size w6.drew) _) hHeld.2.2.1, pw_cell_below (below_alloc (Below.refl w6.drew.heap.size w6.drew) _) hHeld.2.2.2⟩ (fun hHeld => ?_)
        clear hK K
        refine norm_ (a' := ?_) ?_ ?_
        rotate_left
        · show Act.put _ (some 72) _ = _
          simp only [Act.put, List.setIfInBounds_toArray, List.set_cons_zero, List.set_cons_succ, i64_w, i32_w]
          rfl
        refine last_ (i := 7) (N := some 73) #[true, true, true, true, true, true, true, true, false, false, false] rfl rfl (by kernel_rfl) (by decide) (fun K hK => ?_)
        refine Kd.R_append_step kC (w0 := w6.drew) (W := w6.drew) 0 (by rfl) (.tmp 70) (.tmp 72) 85 89 (.agg #[.string ⟨#[]⟩, .string ⟨#[]⟩, .int .i64 0]) 40 (by rfl) Try.underlying85 infoC rfl (by decide) (by decide) (.slice Av S.chg.length cv) S.chg (a, b, (j : Int)) [.string a, .string b, .int .i64 (j : Int)] (fun _ => True) (fun _ => False) (by rfl) (by rfl) (kC_M _ _ _ _) (fun _ h => h.elim) (fun _ _ => trivial) ?aO (Below.refl _ _) (Nat.zero_le _) HLL.out ?_
        case aO => exact Kd.R_drew H6.out.chg
        intro v7 w7 ho hb hg hat
        obtain ⟨A7, c7, hv7⟩ := Kd.R_slice ho
        obtain ⟨n7, hn7⟩ : ∃ n7, n7 = (S.chg ++ [(a, b, (j : Int))]).length := ⟨_, rfl⟩
        rw [← hn7] at hv7
        clear hn7
        subst hv7
        have HR7 := Aside0.mk ho
        have HAT : Aside0 ((Value.slice A7 n7 c7).ownBlock = (Value.slice Av S.chg.length cv).ownBlock ∨ ∃ b, (Value.slice A7 n7 c7).ownBlock = some b ∧ w6.heap.size ≤ b) := ⟨hat⟩
        have HG7 : Aside0 (w6.drew.grownBy w7 (Value.slice Av S.chg.length cv).ownBlock) := ⟨hg⟩
        have BD7 := Aside0.mk (blk_grown (blk_drew H6.out.blk) hg (fun e => Kd.R_ne H6.out.chg H6.out.blk (by decide) e))
        have NED : Aside0 (∀ k, (∃ q, q ∈ 89 :: kC.E ∧ ∃ cells, w7.heap[k]? = some (.cells cells q (0, 0))) → k ≠ d) := ⟨fun k hk e => by obtain ⟨q, hq, cells, hcc⟩ := hk; rw [e] at hcc; refine blk_ne hcc BD7.out (fun e2 => ?_) rfl; rw [e2] at hq; revert hq; decide⟩
        have x5 := (blk_cell BD7.out 5).trans rfl
        have xz5 := blk_frozen BD7.out 5
        clear ho hb hg hat
        refine hK.out _ _ ?_
        clear hK K
        refine norm_ (a' := ?_) ?_ ?_
        rotate_left
        · show Act.put _ (some 73) _ = _
          simp only [Act.put, List.setIfInBounds_toArray, List.set_cons_zero, List.set_cons_succ, i64_w, i32_w]
          rfl
        refine pure_ (i := 8) (N := some 74) (v := ?_) (a' := ?_) #[true, true, true, true, true, true, true, true, true, false, false] rfl rfl (by kernel_rfl) (fun _ _ _ h => h) (Or.inl ⟨by rfl, ?_⟩) ?_ ?_
        rotate_left
        · intro w'
          go_simp
          with_reducible rfl
        rotate_left
        · simp only [Act.put, List.setIfInBounds_toArray, List.set_cons_zero, List.set_cons_succ, i64_w, i32_w]
          rfl
        refine pure_ (i := 9) (N := some 75) (v := ?_) (a' := ?_) #[true, true, true, true, true, true, true, true, true, true, false] rfl rfl (by kernel_rfl) (fun _ _ _ h => h) (Or.inl ⟨by rfl, ?_⟩) ?_ ?_
        rotate_left
        · intro w'
          go_simp
          with_reducible rfl
        rotate_left
        · simp only [Act.put, List.setIfInBounds_toArray, List.set_cons_zero, List.set_cons_succ, i64_w, i32_w]
          rfl
        refine last_ (i := 10) (N := none) #[true, true, true, true, true, true, true, true, true, true, true] rfl rfl (by kernel_rfl) (by decide) (fun K hK => ?_)
        refine skip_ (w1 := w7.setCell ⟨d, 5, none⟩ (.slice A7 n7 c7)) (by rfl) rfl ?_ ?_
        · go_simp
          try rfl
        refine hK.out _ _ ?_
        clear hK K
        refine done_ (by kernel_rfl) ?_
        have hk9 := (((KeptL.refl (fun k => k = d ∨ (Value.slice Av S.chg.length cv).ownBlock = some k) w6).drew).grown HG7.out (fun k e => .inl (.inr e))).setCell ⟨d, 5, none⟩ (.slice A7 n7 c7) (.inl (.inl rfl))
        have hF := H6.out.addChg hk9 (blkD_put BD7.out 5 _ rfl) (Kd.R_far (Kd.R_mono (Kd.R_bound HR7.out) (ok' := fun k => k ≠ d) (fun k hk e => NED.out k hk.2.2.2 e)) (p := ⟨d, 5, none⟩) (fun k hk => hk) _ |> fun z => Kd.R_mono z (fun _ _ => trivial)) HAT.out
        have e8 : (fm.map (·.1)).length = S.files.length := (by rw [List.length_map]; exact HLEN.out)
        rw [e8] at hF
        have HF9 := Aside0.mk hF
        clear hF e8
        go_wp2_with fail
        go_end0
        have e9 : u - la - lb + lenB S b (j : Int) = u - la - lb + (f5.1.length : Int) := (by unfold lenB; rw [if_neg HEB.out, ← HF5.out])
        rw [e9]
        refine ⟨⟨_, rfl⟩, HKF.out.trans (hk9.mono (fun k e => by rcases e with e | e; rw [e]; exact HH.out.foot.1; exact HH.out.foot.2.2.2.2.1 k e)), _, HF9.out.monoF (fun k hk => ?_) ?_⟩
        · rcases hk with hk | hk
          · exact .inl hk
          · exact .inr ⟨Nat.le_trans HKF.out.size hk.1, hk.2⟩
        · exact lt_grow HH.out.lt (Nat.le_trans HKF.out.size hk9.size)
end Go.Proofs.Ythmkdmdfahhpmaa.Hand
