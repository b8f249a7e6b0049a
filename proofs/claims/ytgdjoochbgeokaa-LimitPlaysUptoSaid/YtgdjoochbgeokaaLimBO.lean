/- Limits: one call played: Subjects. -/
import Derived.Test.YtgdjoochbgeokaaLimBN
namespace Go.Proofs.Ytgdjoochbgeokaa.Hand
open Go.RowKit Go.Maps Go.Proofs.YtgdjoochbgeokaaW.PrintWords Go.Proofs.YtgdjoochbgeokaaW.PrintLast Go.Proofs.YtgdjoochbgeokaaW.PrintMore Go.Proofs.Ytgdjoochbgeokaa.Q Go.Proofs.Ytgdjoochbgeokaa.PLimitMost
set_option linter.unusedVariables false
set_option linter.unusedSimpArgs false
theorem str_set {W : World} {base g n cap : Nat} {ok : Nat → Prop} {S : List ByteArray} (h : Kd.R Kd.string 9 W base ok (.slice (some ⟨g, 0, none⟩) n cap) S) (i : Nat) (hi : i < n) (x : ByteArray) :
    (∃ y, W.cell? ⟨g, i, none⟩ = some (.string y)) ∧ W.frozen? ⟨g, i, none⟩ = false ∧ Kd.R Kd.string 9 (W.setCell ⟨g, i, none⟩ (.string x)) base ok (.slice (some ⟨g, 0, none⟩) n cap) (S.set i x) ∧ W.grownBy (W.setCell ⟨g, i, none⟩ (.string x)) (some g) := by
  obtain ⟨c, hcl, hM, hcc, hfz⟩ := Kd.R_elem h ByteArray.empty (i : Int) (by omega) (by omega)
  rw [Int.toNat_natCast] at hM hcc hfz
  have hc : c = [.string (S.getD i ByteArray.empty)] := hM
  subst hc
  have h2 := Kd.R_seg (x' := x) (okp := fun k => ok k ∧ k ≠ g) h (i : Int) (by omega) (by omega) (c := _) (seg := [.string x]) (j := 0) hcl (by rw [Int.toNat_natCast]; exact hcc) (Nat.le_refl _) rfl (fun k hk => hk)
  rw [Int.toNat_natCast] at h2
  have e : i * Kd.string.sz + 0 = i := by show i * 1 + 0 = i; omega
  rw [e] at h2
  have h3 := hcc 0 _ rfl
  have h4 := hfz 0
  rw [e] at h3 h4
  exact ⟨⟨_, h3⟩, h4, h2.1, h2.2⟩
theorem nm_list {a b : List ByteArray} (h : a.map nm = b.map nm) : a = b := by
  induction a generalizing b with
  | nil => cases b with
    | nil => rfl
    | cons y b => simp at h
  | cons x a ih => cases b with
    | nil => simp at h
    | cons y b =>
      rw [List.map_cons, List.map_cons] at h
      injection h with h1 h2
      rw [nm_inj h1, ih h2]
/-- The lists of one limit's subjects are one. -/
theorem same_subj {R S : List ByteArray} (hp : R.Perm S) (hR : (R.map nm).Pairwise (· < ·)) (hS : (S.map nm).Pairwise (· ≤ ·)) : S = R := (nm_list (sorted_unique (hp.map nm) hR hS)).symm
theorem str_view {w : World} {base : Nat} {ok : Nat → Prop} {v : Value} {S : List ByteArray} (h : Kd.R Kd.string 9 w base ok v S) : ∃ A c, v = .slice A S.length c ∧ S.length ≤ c ∧ Kd.C Kd.string w A S.length S := Kd.R_reads h
/-- The list that is written over, and what stays. -/
def Mark (w3 w8 wr : World) (va : Value) (vx : Value) (n : Nat) : Prop :=
  KeptL (fun k => va.ownBlock = some k) w8 wr ∧ ∃ Sx : List ByteArray, Sx.length = n ∧ Kd.R Kd.string 9 wr w3.heap.size (fun k => va.ownBlock = some k ∨ w8.heap.size ≤ k) vx Sx
set_option maxHeartbeats 2000000 in
set_option maxRecDepth 100000 in
theorem played_Subjects {w : World} {g m : Nat} {tr mo sp ck : Int} {v : Value} {l : List DocW} {Es : List Win} (h : PairL w g m tr mo sp ck v l Es) (hlt : (l.length : Int) < 4398046511104) (s : ByteArray) (hz : s.size ≤ 9223372036854775807) (now : Int) (hnow : 0 ≤ now ∧ now ≤ 18446744073709551615) :
    Calls Try.prog 14 #[.pointer (some ⟨g, 0, none⟩), .agg #[.int .i64 tr, .int .u64 sp, .int .i64 mo, .int .u64 ck, v], .agg #[.int .i64 6, .string s, .int .u64 now]] w (PlayedPost w g m tr mo sp l.length) := by
  obtain ⟨A, c, rfl, hcA, hCA⟩ := h.doc.view
  have HCA := Aside0.mk (And.intro hcA hCA)
  clear hcA hCA
  obtain ⟨t, ht⟩ : ∃ t, t = max now ck := ⟨_, rfl⟩
  have htB : ck ≤ t ∧ t ≤ 18446744073709551615 := by have := h.st.ckB; omega
  obtain ⟨W3, hW3⟩ : ∃ W3, W3 = (((w.alloc (.cells #[.int .i64 tr, .int .u64 sp, .int .i64 mo, .int .u64 ck, .slice A l.length c] 31)).alloc (.cells #[.int .i64 6, .string s, .int .u64 now] 35)).alloc (.cells #[.int .i64 0, .int .u64 0, .int .i64 0, .int .u64 0, .slice none 0 0] 31)) := ⟨_, rfl⟩
  have HD := Aside0.mk (Desk.start h.st.mlt tr mo sp ck (.slice A l.length c) 6 s now)
  rw [← hW3] at HD
  have hb3 : Below w.heap.size w W3 := by rw [hW3]; exact below_alloc (below_alloc (below_alloc (Below.refl _ _) _) _) _
  have HP := Aside0.mk (h.below hb3)
  have HBW := Aside0.mk hb3
  have HH := Aside0.mk h
  have HT := Aside0.mk ht
  have HTB := Aside0.mk htB
  have HLT := Aside0.mk hlt
  have HNW := Aside0.mk hnow
  have HZ := Aside0.mk hz
  have d0 := (blk_cell HD.out.b0 0).trans rfl
  have d1 := (blk_cell HD.out.b0 1).trans rfl
  have d2 := (blk_cell HD.out.b0 2).trans rfl
  have d3 := (blk_cell HD.out.b0 3).trans rfl
  have d4 := (blk_cell HD.out.b0 4).trans rfl
  have o0 := (blk_cell HD.out.b1 0).trans rfl
  have o1 := (blk_cell HD.out.b1 1).trans rfl
  have o2 := (blk_cell HD.out.b1 2).trans rfl
  have r0 := (blk_cell HD.out.b2 0).trans rfl
  have r1 := (blk_cell HD.out.b2 1).trans rfl
  have r2 := (blk_cell HD.out.b2 2).trans rfl
  have r3 := (blk_cell HD.out.b2 3).trans rfl
  have r4 := (blk_cell HD.out.b2 4).trans rfl
  have rz0 := blk_frozen HD.out.b2 0
  have rz1 := blk_frozen HD.out.b2 1
  have rz2 := blk_frozen HD.out.b2 2
  have rz3 := blk_frozen HD.out.b2 3
  have rz4 := blk_frozen HD.out.b2 4
  rw [hW3] at d0 d1 d2 d3 d4 o0 o1 o2 r0 r1 r2 r3 r4 rz0 rz1 rz2 rz3 rz4
  clear h ht htB hlt hnow hz hb3
  go_enter Try.func14, Try.ntmps14
  go_wp2_with fail
  rw [← hW3]
  clear d0 d1 d2 d3 d4 o0 o1 o2 r0 r1 r2 r3 r4 rz0 rz1 rz2 rz3 rz4
  obtain ⟨B0, hB0⟩ : ∃ B0, B0 = w.heap.size := ⟨_, rfl⟩
  obtain ⟨B1, hB1⟩ : ∃ B1, B1 = w.heap.size + 1 := ⟨_, rfl⟩
  obtain ⟨B2, hB2⟩ : ∃ B2, B2 = w.heap.size + 1 + 1 := ⟨_, rfl⟩
  rw [← hB2, ← hB1, ← hB0] at HD
  rw [← hB2, ← hB1, ← hB0]
  clear hB0 hB1 hB2 hW3
  obtain ⟨R, hev, hRp, hRs⟩ := subj_ev (HH.out.docB (Int.le_refl ck) HH.out.st.ckB.2 HLT.out) (HH.out.nodupAt (Int.le_refl ck)) tr mo
  obtain ⟨kk, hkk⟩ := hev.rounds
  have HKK := Aside0.mk hkk
  have hRn : R.Perm (namesA sp ck Es) := hRp.trans ((HH.out.permAt (Int.le_refl ck)).map (·.1))
  have hRl : R.length ≤ 4096 := by
    rw [hRn.length_eq]
    unfold namesA
    rw [List.length_map]
    have h1 := List.length_filter_le (al sp ck) Es
    have h2 := HH.out.st.len
    have h3 := HH.out.st.moB
    omega
  obtain ⟨kt, hkt⟩ := (texts_same R (by omega)).rounds
  have HKT := Aside0.mk hkt
  have HRS := Aside0.mk (And.intro hRn hRs)
  have HRL := Aside0.mk hRl
  clear hev hkk hkt hRp hRs hRn hRl
  refine (limit_Subjects.all HP.out.st).mono ?_
  rintro x w4 ⟨va, Sa, rfl, hRa, hb4, hpa, hsa⟩
  obtain rfl : Sa = R := same_subj (HRS.out.1.trans hpa.symm) HRS.out.2 hsa
  have HA4 := Aside0.mk hRa
  have HB4 := Aside0.mk hb4
  clear hRa hb4 hpa hsa
  go_wp2_with fail
  refine (limit_Subjects.all (HP.out.below HB4.out).st).mono ?_
  rintro x w5 ⟨vb, Sb, rfl, hRb, hb5, hpb, hsb⟩
  obtain rfl : Sb = Sa := same_subj (HRS.out.1.trans hpb.symm) HRS.out.2 hsb
  obtain ⟨Ab, cb, rfl, hcb, hCb⟩ := str_view hRb
  have HRB := Aside0.mk hRb
  have HCB := Aside0.mk (And.intro hcb hCb)
  have HB5 := Aside0.mk (below_step HB4.out hb5)
  have HAB := Aside0.mk hb5
  clear hRb hb5 hpb hsb hcb hCb
  have HD5 := Aside0.mk (HD.out.below HB5.out)
  have d0 := (blk_cell HD5.out.b0 0).trans rfl
  have d1 := (blk_cell HD5.out.b0 1).trans rfl
  have d2 := (blk_cell HD5.out.b0 2).trans rfl
  have d3 := (blk_cell HD5.out.b0 3).trans rfl
  have d4 := (blk_cell HD5.out.b0 4).trans rfl
  go_wp2_with fail
  refine (wicketref08_Subjects.calls kk tr sp mo ck A c l Sb w5 (Kd.C_below HCA.out.2 (below_step HBW.out HB5.out)) HCA.out.1 HKK.out).mono ?_
  rintro x w6 ⟨vc, rfl, hRc, hb6⟩
  obtain ⟨Ac, cc, rfl, hcc, hCc⟩ := str_view hRc
  obtain ⟨Aa, ca, hva, hca, hCa⟩ := str_view HA4.out
  subst hva
  have HRC := Aside0.mk hRc
  have HCC := Aside0.mk (And.intro hcc hCc)
  have HCA4 := Aside0.mk (And.intro hca hCa)
  have HB6 := Aside0.mk (below_step HB5.out hb6)
  have HBB6 := Aside0.mk hb6
  clear hRc hb6 hcc hCc hca hCa d0 d1 d2 d3 d4
  go_wp2_with fail
  refine (wicketlaw08_texts.calls kt Aa ca Sb Ac cc Sb true w6 (Kd.C_below HCA4.out.2 (below_step HAB.out HBB6.out)) HCA4.out.1 HCC.out.2 HCC.out.1 HKT.out).mono ?_
  rintro x w7 ⟨rfl, hd7⟩
  have HBB7 := Aside0.mk (drawn_belowL hd7)
  clear hd7
  go_wp2_with fail
  refine (wicketlaw08_texts.calls kt Ab cb Sb Ac cc Sb true w7 (Kd.C_below HCB.out.2 (below_step HBB6.out HBB7.out)) HCB.out.1 (Kd.C_below HCC.out.2 HBB7.out) HCC.out.1 HKT.out).mono ?_
  rintro x w8 ⟨rfl, hd8⟩
  have HB68 := Aside0.mk (below_step HBB7.out (drawn_belowL hd8))
  have HB58 := Aside0.mk (below_step HBB6.out HB68.out)
  have HB48 := Aside0.mk (below_step HAB.out HB58.out)
  have HB38 := Aside0.mk (below_step HB4.out HB48.out)
  obtain ⟨va, hva⟩ : ∃ va, va = Value.slice Aa Sb.length ca := ⟨_, rfl⟩
  have HVA := Aside0.mk hva
  have hA4b := Kd.R_bound HA4.out
  rw [← hva] at hA4b
  have HGA : Aside0 (∀ k, va.ownBlock = some k → W3.heap.size ≤ k ∧ k < w4.heap.size) := ⟨fun k hk => by have h1 := hA4b.1 k hk; exact ⟨h1.2.1, h1.2.2.1⟩⟩
  have HM0 : Aside0 (Mark W3 w8 w8 va va Sb.length) := ⟨KeptL.refl _ _, Sb, rfl, by rw [hva]; exact Kd.R_mono (Kd.R_tight rfl (Kd.R_below HA4.out HB48.out)) (fun k hk => .inl hk.symm)⟩
  obtain ⟨n, hn⟩ : ∃ n, n = Sb.length := ⟨_, rfl⟩
  have hn2 : (n : Int) ≤ 4096 := by have := HRL.out; omega
  have HN := Aside0.mk hn
  clear hd8 hA4b
  go_wp2_with fail
  rw [← hn] at HM0 hva
  rw [← hn]
  clear hn
  go_loopw [21] (fun v21 wr => ∃ i : Nat, i ≤ n ∧ v21 = .int .i64 i ∧ Aside0 (Mark W3 w8 wr va va n)) (fun v21 _ => n - (intOf v21).toNat)
  case atStart => exact ⟨0, Nat.zero_le _, rfl, HM0⟩
  case round =>
    clear HM0
    obtain ⟨i, hi, rfl, HM⟩ := hrel
    by_cases hlt : i < n
    · obtain ⟨hK, Sx, hSx, hRx⟩ := HM.out
      obtain ⟨g1, cap, hg1, _⟩ := Kd.R_form hRx (by omega)
      have hg2 := hg1
      rw [hva] at hg2
      injection hg2 with e1 _ e3
      subst e1 e3
      rw [hSx] at hg1
      rw [hg1] at hRx
      obtain ⟨⟨y, hy⟩, hfz, hR2, hgr⟩ := str_set hRx i hlt ⟨#[109, 97, 114, 107]⟩
      have hown : va.ownBlock = some g1 := by rw [hg1]; simp [Value.ownBlock]
      have HM2 : Aside0 (Mark W3 w8 (wr.setCell ⟨g1, i, none⟩ (.string ⟨#[109, 97, 114, 107]⟩)) va va n) := ⟨hK.grown hgr (fun k e => .inl (by rw [hown]; exact e.symm ▸ rfl)), Sx.set i ⟨#[109, 97, 114, 107]⟩, by simpa using hSx, by rw [hg1]; exact hR2⟩
      clear hK hRx hR2 hgr hSx HM hva
      go_wp2_with fail
      go_roundw
      case rel => exact ⟨i + 1, by omega, by go_num, HM2⟩
      case measure => simp [intOf]; omega
    · obtain rfl : i = n := by omega
      have HM1 : Aside0 (Mark W3 w8 wr va (.slice Aa i ca) (i + 0)) := ⟨by rw [← hva]; exact HM.out⟩
      go_wp2_with fail
      clear HM hva
      go_loopw [22, 17] (fun v22 v17 wr2 => ∃ j : Nat, j ≤ 16 ∧ v22 = .int .i64 j ∧ Aside0 (Mark W3 w8 wr2 va v17 (i + j))) (fun v22 _ _ => 16 - (intOf v22).toNat)
      case atStart => exact ⟨0, Nat.zero_le _, rfl, HM1⟩
      case round =>
        clear HM1
        obtain ⟨j, hj, rfl, HM⟩ := hrel
        by_cases hlt2 : j < 16
        · have HK : Aside0 (KeptL (fun k => va.ownBlock = some k) w8 wr) := ⟨HM.out.1⟩
          obtain ⟨Sx, hSx, hRx⟩ := HM.out.2
          have HRX := Aside0.mk hRx
          have HB3r := Aside0.mk (below_step2 HB38.out HK.out (fun b hb => (HGA.out b hb).1))
          have HLN : Aside0 ((Sx.length + 1) * 16 ≤ 140737488355328) := ⟨by omega⟩
          have HSX : Aside0 ((Sx ++ [(⟨#[109, 97, 114, 107]⟩ : ByteArray)]).length = i + (j + 1)) := ⟨by rw [List.length_append, hSx]; rfl⟩
          clear hRx hSx HM
          go_wp2_with ((with_reducible refine gate_builtin (b := .append) (xs := #[.tmp 149, .tmp 150]) rfl ?_); at_builtin; refine Kd.R_append Kd.string (w0 := W3) W3.heap.size rfl (.tmp 149) (.tmp 150) 50 9 (.string ⟨#[]⟩) 16 rfl Try.underlying50 info9 rfl (by decide) (by decide) _ Sx ⟨#[109, 97, 114, 107]⟩ [.string ⟨#[109, 97, 114, 107]⟩] (fun k => va.ownBlock = some k ∨ w8.heap.size ≤ k) (fun _ => False) rfl rfl rfl (fun _ h => h.elim) (fun k hk => .inr (Nat.le_trans HK.out.size hk)) HRX.out HB3r.out HB3r.out.size HLN.out ?_; intro v7 w7 ho hb hg hat; have HM7 : Aside0 (Mark W3 w8 w7 va v7 (i + (j + 1))) := ⟨HK.out.grown hg (fun k e => HRX.out.1 k e), _, HSX.out, ho⟩; clear ho hb hg hat)
          go_roundw
          case rel => exact ⟨j + 1, by omega, by go_num, HM7⟩
          case measure => simp [intOf]; omega
        · obtain rfl : j = 16 := by omega
          have HK : Aside0 (KeptL (fun k => va.ownBlock = some k) w8 wr) := ⟨HM.out.1⟩
          have HB3r := Aside0.mk (below_step2 HB38.out HK.out (fun b hb => (HGA.out b hb).1))
          have hfa : ∀ {base : Nat} {v : Value} {S : List ByteArray}, w4.heap.size ≤ base → Kd.R Kd.string 9 w8 base (fun _ => True) v S → Kd.R Kd.string 9 wr base (fun _ => True) v S := fun hbs h =>
            Kd.R_mono (Kd.R_step (Kd.R_bound h) (fun k ho hlt => HK.out.block k hlt (fun hS => by have h1 := HGA.out k hS; have h2 := ho.2.1; omega))) (fun _ _ => trivial)
          have hRb := hfa (Nat.le_refl _) (Kd.R_below HRB.out HB58.out)
          have hRc := hfa HAB.out.size (Kd.R_below HRC.out HB68.out)
          have HXB := Aside0.mk (Kd.R_reads' hRb).2
          have HXC := Aside0.mk (Kd.R_reads' hRc).2
          replace HD := Aside0.mk (HD.out.below HB3r.out)
          replace HP := Aside0.mk (HP.out.below HB3r.out)
          clear hRb hRc hfa HM HK
          have d0 := (blk_cell HD.out.b0 0).trans rfl
          have d1 := (blk_cell HD.out.b0 1).trans rfl
          have d2 := (blk_cell HD.out.b0 2).trans rfl
          have d3 := (blk_cell HD.out.b0 3).trans rfl
          have d4 := (blk_cell HD.out.b0 4).trans rfl
          go_wp2_with fail
          refine start_ (n := 15) (S := fun w' => w'.cell? ⟨B0, 0, none⟩ = some (.int .i64 tr) ∧ w'.cell? ⟨B0, 1, none⟩ = some (.int .u64 sp) ∧ w'.cell? ⟨B0, 2, none⟩ = some (.int .i64 mo) ∧ w'.cell? ⟨B0, 3, none⟩ = some (.int .u64 ck) ∧ w'.cell? ⟨B0, 4, none⟩ = some (.slice A l.length c)) (ds := []) #[false, false, false, false, false, false, false, false, false, false, false, false, false, false, false] (by kernel_rfl) rfl rfl ⟨d0, d1, d2, d3, d4⟩ (fun hHeld => ?_)
          refine pure_ (i := 1) (N := some 153) (v := ?_) (a' := ?_) #[false, true, false, false, false, false, false, false, false, false, false, false, false, false, false] rfl rfl (by kernel_rfl) (fun _ _ _ h => h) (Or.inl ⟨by rfl, ?_⟩) ?_ ?_
          rotate_left
          · intro w'
            go_simp
            with_reducible rfl
          rotate_left
          · simp only [Act.put, List.setIfInBounds_toArray, List.set_cons_zero, List.set_cons_succ, i64_w, i32_w]
            rfl
          refine pure_ (i := 2) (N := some 154) (v := ?_) (a' := ?_) #[false, true, true, false, false, false, false, false, false, false, false, false, false, false, false] rfl rfl (by kernel_rfl) (fun _ _ _ h => h) (Or.inl ⟨by rfl, ?_⟩) ?_ ?_
          rotate_left
          · intro w'
            go_simp
            with_reducible rfl
          rotate_left
          · simp only [Act.put, List.setIfInBounds_toArray, List.set_cons_zero, List.set_cons_succ, i64_w, i32_w]
            rfl
          refine pure_ (i := 3) (N := some 155) (v := ?_) (a' := ?_) #[false, true, true, true, false, false, false, false, false, false, false, false, false, false, false] rfl rfl (by kernel_rfl) (fun _ _ _ h => h) (Or.inl ⟨by rfl, ?_⟩) ?_ ?_
          rotate_left
          · intro w'
            go_simp
            with_reducible rfl
          rotate_left
          · simp only [Act.put, List.setIfInBounds_toArray, List.set_cons_zero, List.set_cons_succ, i64_w, i32_w]
            rfl
          refine pure_ (i := 4) (N := some 156) (v := ?_) (a' := ?_) #[false, true, true, true, true, false, false, false, false, false, false, false, false, false, false] rfl rfl (by kernel_rfl) (fun _ _ _ h => h) (Or.inl ⟨by rfl, ?_⟩) ?_ ?_
          rotate_left
          · intro w'
            go_simp
            with_reducible rfl
          rotate_left
          · simp only [Act.put, List.setIfInBounds_toArray, List.set_cons_zero, List.set_cons_succ, i64_w, i32_w]
            rfl
          refine take_ (i := 0) (N := some 152) (v := ?_) (a' := ?_) #[true, true, true, true, true, false, false, false, false, false, false, false, false, false, false] rfl rfl (by kernel_rfl) (fun _ _ _ h => h) (Or.inl ⟨by rfl, ?_⟩) hHeld ?_ ?_
          rotate_left
          · rintro w' ⟨s0, s1, s2, s3, s4⟩
            go_simp
            with_reducible rfl
          rotate_left
          · simp only [Act.put, List.setIfInBounds_toArray, List.set_cons_zero, List.set_cons_succ, i64_w, i32_w]
            rfl
          refine one_ (i := 5) (N := some 157) #[true, true, true, true, true, true, false, false, false, false, false, false, false, false, false] rfl rfl (by kernel_rfl) (by decide) (fun K hK => ?_)
          refine goes_ Try.func27 (by kernel_rfl) rfl #[.slice Ab i cb, .slice Ac i cc] (by rfl) rfl rfl (by simp only [List.map_toArray, List.map_cons, List.map_nil]; rfl) ?_
          refine (show Calls Try.prog 27 #[.slice Ab i cb, .slice Ac i cc] wr.drew (fun e w' => e = .returned (.bool true) ∧ Drawn0 wr.drew w') by rw [HN.out]; exact wicketlaw08_texts.calls kt Ab cb Sb Ac cc Sb true wr.drew (Kd.C_below HXB.out.2 (below_drew1 (Below.refl _ _))) HXB.out.1 (Kd.C_below HXC.out.2 (below_drew1 (Below.refl _ _))) HXC.out.1 HKT.out).mono ?_
          rintro e w11 ⟨rfl, hd11⟩
          have hb11 := below_step (below_drew1 (Below.refl _ _)) (drawn_belowL hd11)
          have hc11 := drawn_belowL hd11
          replace HD := Aside0.mk (HD.out.below hb11)
          replace HP := Aside0.mk (HP.out.below hb11)
          have HXC11 := Aside0.mk (Kd.C_below HXC.out.2 hb11)
          refine ⟨_, rfl, ?_⟩
          refine hK.out _ _ ⟨pw_cell_below hc11 hHeld.1, pw_cell_below hc11 hHeld.2.1, pw_cell_below hc11 hHeld.2.2.1, pw_cell_below hc11 hHeld.2.2.2.1, pw_cell_below hc11 hHeld.2.2.2.2⟩ (fun hHeld => ?_)
          clear hK K
          refine norm_ (a' := ?_) ?_ ?_
          rotate_left
          · show Act.put _ (some 157) _ = _
            simp only [Act.put, List.setIfInBounds_toArray, List.set_cons_zero, List.set_cons_succ, i64_w, i32_w]
            rfl
          refine pure_ (i := 6) (N := some 158) (v := ?_) (a' := ?_) #[true, true, true, true, true, true, true, false, false, false, false, false, false, false, false] rfl rfl (by kernel_rfl) (fun _ _ _ h => h) (Or.inl ⟨by rfl, ?_⟩) ?_ ?_
          rotate_left
          · intro w'
            go_simp
            with_reducible rfl
          rotate_left
          · simp only [Act.put, List.setIfInBounds_toArray, List.set_cons_zero, List.set_cons_succ, i64_w, i32_w]
            rfl
          refine pure_ (i := 7) (N := some 159) (v := ?_) (a' := ?_) #[true, true, true, true, true, true, true, true, false, false, false, false, false, false, false] rfl rfl (by kernel_rfl) (fun _ _ _ h => h) (Or.inl ⟨by rfl, ?_⟩) ?_ ?_
          rotate_left
          · intro w'
            go_simp
            with_reducible rfl
          rotate_left
          · simp only [Act.put, List.setIfInBounds_toArray, List.set_cons_zero, List.set_cons_succ, i64_w, i32_w]
            rfl
          refine pure_ (i := 8) (N := some 160) (v := ?_) (a' := ?_) #[true, true, true, true, true, true, true, true, true, false, false, false, false, false, false] rfl rfl (by kernel_rfl) (fun _ _ _ h => h) (Or.inl ⟨by rfl, ?_⟩) ?_ ?_
          rotate_left
          · intro w'
            go_simp
            with_reducible rfl
          rotate_left
          · simp only [Act.put, List.setIfInBounds_toArray, List.set_cons_zero, List.set_cons_succ, i64_w, i32_w]
            rfl
          refine pure_ (i := 10) (N := some 162) (v := ?_) (a' := ?_) #[true, true, true, true, true, true, true, true, true, false, true, false, false, false, false] rfl rfl (by kernel_rfl) (fun _ _ _ h => h) (Or.inl ⟨by rfl, ?_⟩) ?_ ?_
          rotate_left
          · intro w'
            go_simp
            with_reducible rfl
          rotate_left
          · simp only [Act.put, List.setIfInBounds_toArray, List.set_cons_zero, List.set_cons_succ, i64_w, i32_w]
            rfl
          refine one_ (i := 9) (N := some 161) #[true, true, true, true, true, true, true, true, true, true, true, false, false, false, false] rfl rfl (by kernel_rfl) (by decide) (fun K hK => ?_)
          refine goes_ Try.func19 (by kernel_rfl) rfl #[.pointer (some ⟨g, 0, none⟩)] (by rfl) rfl rfl (by simp only [List.map_toArray, List.map_cons, List.map_nil]; rfl) ?_
          with_reducible refine (limit_Subjects.all HP.out.st).mono ?_
          rintro e w12 ⟨vd, Sd, rfl, hRd, hb12, hpd, hsd⟩
          obtain rfl : Sd = Sb := same_subj (HRS.out.1.trans hpd.symm) HRS.out.2 hsd
          obtain ⟨Ad, cd, rfl, hcd, hCd⟩ := str_view hRd
          have HCD := Aside0.mk (And.intro hcd hCd)
          clear hRd hcd hCd hpd hsd
          replace HD := Aside0.mk (HD.out.below hb12)
          replace HP := Aside0.mk (HP.out.below hb12)
          replace HXC11 := Aside0.mk (Kd.C_below HXC11.out hb12)
          refine ⟨_, rfl, ?_⟩
          refine hK.out _ _ ⟨pw_cell_below hb12 hHeld.1, pw_cell_below hb12 hHeld.2.1, pw_cell_below hb12 hHeld.2.2.1, pw_cell_below hb12 hHeld.2.2.2.1, pw_cell_below hb12 hHeld.2.2.2.2⟩ (fun hHeld => ?_)
          clear hK K
          refine norm_ (a' := ?_) ?_ ?_
          rotate_left
          · show Act.put _ (some 161) _ = _
            simp only [Act.put, List.setIfInBounds_toArray, List.set_cons_zero, List.set_cons_succ, i64_w, i32_w]
            rfl
          refine one_ (i := 11) (N := some 163) #[true, true, true, true, true, true, true, true, true, true, true, true, false, false, false] rfl rfl (by kernel_rfl) (by decide) (fun K hK => ?_)
          refine goes_ Try.func27 (by kernel_rfl) rfl #[.slice Ad Sd.length cd, .slice Ac i cc] (by rfl) rfl rfl (by simp only [List.map_toArray, List.map_cons, List.map_nil]; rfl) ?_
          refine (show Calls Try.prog 27 #[.slice Ad Sd.length cd, .slice Ac i cc] w12 (fun e w' => e = .returned (.bool true) ∧ Drawn0 w12 w') by rw [HN.out]; exact wicketlaw08_texts.calls kt Ad cd Sd Ac cc Sd true w12 HCD.out.2 HCD.out.1 HXC11.out HXC.out.1 HKT.out).mono ?_
          rintro e w13 ⟨rfl, hd13⟩
          have hc13 := drawn_belowL hd13
          replace HD := Aside0.mk (HD.out.below hc13)
          replace HP := Aside0.mk (HP.out.below hc13)
          have r0 := (blk_cell HD.out.b2 0).trans rfl
          have r1 := (blk_cell HD.out.b2 1).trans rfl
          have r2 := (blk_cell HD.out.b2 2).trans rfl
          have r3 := (blk_cell HD.out.b2 3).trans rfl
          have r4 := (blk_cell HD.out.b2 4).trans rfl
          have rz0 := blk_frozen HD.out.b2 0
          have rz1 := blk_frozen HD.out.b2 1
          have rz2 := blk_frozen HD.out.b2 2
          have rz3 := blk_frozen HD.out.b2 3
          have rz4 := blk_frozen HD.out.b2 4
          refine ⟨_, rfl, ?_⟩
          refine hK.out _ _ ⟨pw_cell_below hc13 hHeld.1, pw_cell_below hc13 hHeld.2.1, pw_cell_below hc13 hHeld.2.2.1, pw_cell_below hc13 hHeld.2.2.2.1, pw_cell_below hc13 hHeld.2.2.2.2⟩ (fun hHeld => ?_)
          clear hK K
          refine norm_ (a' := ?_) ?_ ?_
          rotate_left
          · show Act.put _ (some 163) _ = _
            simp only [Act.put, List.setIfInBounds_toArray, List.set_cons_zero, List.set_cons_succ, i64_w, i32_w]
            rfl
          refine pure_ (i := 12) (N := some 164) (v := ?_) (a' := ?_) #[true, true, true, true, true, true, true, true, true, true, true, true, true, false, false] rfl rfl (by kernel_rfl) (fun _ _ _ h => h) (Or.inl ⟨by rfl, ?_⟩) ?_ ?_
          rotate_left
          · intro w'
            go_simp
            with_reducible rfl
          rotate_left
          · simp only [Act.put, List.setIfInBounds_toArray, List.set_cons_zero, List.set_cons_succ, i64_w, i32_w]
            rfl
          refine one_ (i := 13) (N := none) #[true, true, true, true, true, true, true, true, true, true, true, true, true, true, false] rfl rfl (by kernel_rfl) (by decide) (fun K hK => ?_)
          refine skip_ (w1 := (((((w13.setCell ⟨B2, 0, none⟩ (.int .i64 tr)).setCell ⟨B2, 1, none⟩ (.int .u64 sp)).setCell ⟨B2, 2, none⟩ (.int .i64 mo)).setCell ⟨B2, 3, none⟩ (.int .u64 ck)).setCell ⟨B2, 4, none⟩ (.slice A l.length c))) (by rfl) rfl ?_ ?_
          · go_simp
            try rfl
          refine hK.out _ _ ⟨cell_far5' HD.out.far.2.1 (blk_cell HD.out.b0 0), cell_far5' HD.out.far.2.1 (blk_cell HD.out.b0 1), cell_far5' HD.out.far.2.1 (blk_cell HD.out.b0 2), cell_far5' HD.out.far.2.1 (blk_cell HD.out.b0 3), cell_far5' HD.out.far.2.1 (blk_cell HD.out.b0 4)⟩ (fun hHeld => ?_)
          clear hK K
          refine pure_ (i := 14) (N := some 7) (v := ?_) (a' := ?_) #[true, true, true, true, true, true, true, true, true, true, true, true, true, true, true] rfl rfl (by kernel_rfl) (fun _ _ _ h => h) (Or.inl ⟨by rfl, ?_⟩) ?_ ?_
          rotate_left
          · intro w'
            go_simp
            with_reducible rfl
          rotate_left
          · simp only [Act.put, List.setIfInBounds_toArray, List.set_cons_zero, List.set_cons_succ, i64_w, i32_w]
            rfl
          refine done_ (by kernel_rfl) ?_
          go_wp2_with fail
          refine bodyPost_ret (results_ct rfl _ _ B2 31 #[.int .i64 tr, .int .u64 sp, .int .i64 mo, .int .u64 ck, .slice A l.length c] (0, 0) _ rfl (blk_five HD.out.b2 _ _ _ _ _) Try.underlying31 rfl size31) rfl ?_
          exact ⟨_, _, _, _, rfl, HP.out.farB HD.out.b2 _ _ _ _ _, HD.out.kept.five HD.out.up.2.2 _ _ _ _ _, Nat.le_succ _⟩
end Go.Proofs.Ytgdjoochbgeokaa.Hand
