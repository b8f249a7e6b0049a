/- The document's disk: Sync, Append, Create, Read. -/
import Derived.Test.YtdekcjopgnfmdaaDskBC
namespace Go.Proofs.Ytdekcjopgnfmdaa.Hand
open Go.RowKit Go.Maps Go.Proofs.YtdekcjopgnfmdaaW.PrintWords Go.Proofs.YtdekcjopgnfmdaaW.PrintLast Go.Proofs.YtdekcjopgnfmdaaW.PrintMore Go.Proofs.Ytdekcjopgnfmdaa.Q
set_option linter.unusedVariables false
set_option linter.unusedSimpArgs false
theorem R_plain {α : Type} {d : Kd α} {e base n c : Nat} {w : World} {ok : Nat → Prop} {ad : Addr} {xs : List α} (h : Kd.R d e w base ok (.slice (some ad) n c) xs) : ad = ⟨ad.block, 0, none⟩ := by
  obtain ⟨_, inner, ho, _⟩ := h; rcases ho.2 with h2 | ⟨g, cap, cur, hv, hg, _⟩
  · cases h2.1
  · cases hv; rfl
theorem add_two (g j : Nat) : (⟨g, 0, none⟩ : Addr).add (j * 2) = ⟨g, j * 2, none⟩ := by rw [add_at, Nat.zero_add]
/-- A file of the document's own row. -/
theorem bod_own {w : World} {F : Nat → Prop} {Af : Option Addr} {n cf : Nat} {fs : List Fil} (h : Kd.R kBd 113 w 0 F (.slice Af n cf) fs) (j : Nat) (hj : j < fs.length) :
    ∃ af A1 c1, Af = some af ∧ w.cell? (af.add (j * 2)) = some (.slice A1 (fs.getD j ([], 0)).1.length c1) ∧ w.cell? ⟨(af.add (j * 2)).block, (af.add (j * 2)).off + 1, none⟩ = some (.int .i64 (fs.getD j ([], 0)).2) ∧ w.frozen? (af.add (j * 2)) = false ∧ w.frozen? ⟨(af.add (j * 2)).block, (af.add (j * 2)).off + 1, none⟩ = false ∧ (fs.getD j ([], 0)).1.length ≤ c1 ∧ Kd.C kB w A1 (fs.getD j ([], 0)).1.length (fs.getD j ([], 0)).1 ∧
    (∃ cells, w.heap[af.block]? = some (.cells cells 113 (0, 0))) ∧ af = ⟨af.block, 0, none⟩ ∧ F af.block ∧
    (∀ w' v' b' okp, Kd.R kB 5 w 0 okp v' b' → (∀ k, okp k → F k ∧ k ≠ af.block) → w' = w.setCell (af.add (j * 2)) v' → Kd.R kBd 113 w' 0 F (.slice Af n cf) (fs.set j (b', (fs.getD j ([], 0)).2))) ∧
    (∀ w' sy, w' = w.setCell ⟨(af.add (j * 2)).block, (af.add (j * 2)).off + 1, none⟩ (.int .i64 sy) → Kd.R kBd 113 w' 0 F (.slice Af n cf) (fs.set j ((fs.getD j ([], 0)).1, sy))) := by
  have hn : fs.length = n := (Kd.R_reads' h).1.symm; obtain ⟨af, A1, c1, hA, e0, e1, hc, hC⟩ := bod_at (Kd.R_reads' h).2.2 j hj; subst hA; have hp := R_plain h; obtain ⟨g, o, q⟩ := af; simp only at hp; injection hp with _ ho hq; subst ho hq; have hown := h; have hF : F g := h.1 g (by simp [Value.ownBlock]); obtain ⟨inner, hown2⟩ := Kd.R_own h; obtain ⟨cells, hcells⟩ := own_typed hown2 g (by simp [Value.ownBlock]); obtain ⟨c, hcl, hM, hcc, hfz⟩ := Kd.R_elem h ([], 0) (j : Int) (by omega) (by omega); rw [Int.toNat_natCast] at hM hcc hfz; have hM0 := hM; obtain ⟨_, _, rfl, ⟨v1, rfl, hr1⟩, rfl⟩ := hM0; have hcc' : ∀ q u, ([v1] ++ [Value.int .i64 (fs.getD j ([], 0)).2])[q]? = some u → w.cell? ⟨g, j * 2 + q, none⟩ = some u := hcc; rw [add_two] at e0 e1; refine ⟨⟨g, 0, none⟩, A1, c1, rfl, by rw [add_two]; exact e0, by rw [add_two]; exact e1, by rw [add_two]; exact hfz 0, by rw [add_two]; exact hfz 1, hc, hC, ⟨cells, hcells⟩, rfl, hF, ?_, ?_⟩
  · intro w' v' b' okp hv' hok hw'; obtain ⟨A', c', hv2⟩ := Kd.R_slice hv'; have hs := (Kd.R_seg h (j : Int) (by omega) (by omega) (c := [v1, .int .i64 (fs.getD j ([], 0)).2]) (seg := [v']) (j := 0) rfl (by rw [Int.toNat_natCast]; exact hcc') (by show 0 + 1 ≤ 2; omega) (x' := (b', (fs.getD j ([], 0)).2)) (okp := okp) ⟨[v'], [.int .i64 (fs.getD j ([], 0)).2], rfl, ⟨v', rfl, hv'⟩, rfl⟩ hok).1; rw [Int.toNat_natCast] at hs; rw [hw', add_two]; exact hs
  · intro w' sy hw'; have hs := (Kd.R_seg h (j : Int) (by omega) (by omega) (c := [v1, .int .i64 (fs.getD j ([], 0)).2]) (seg := [.int .i64 sy]) (j := 1) rfl (by rw [Int.toNat_natCast]; exact hcc') (by show 1 + 1 ≤ 2; omega) (x' := ((fs.getD j ([], 0)).1, sy)) (okp := fun k => F k ∧ k ≠ g) ⟨[v1], [.int .i64 sy], rfl, ⟨v1, rfl, hr1⟩, rfl⟩ (fun _ h => h)).1; rw [Int.toNat_natCast] at hs; rw [hw', add_two]; exact hs
/-- A cell of the files' row is written; the other rows stand. -/
theorem RskM.setRow {w w' : World} {F : Nat → Prop} {d g q : Nat} {S S' : DS} {u vf vd vs vc : Value} {cells : Array Value} (h : RskM w F d S vf vd vs vc) (hg : w.heap[g]? = some (.cells cells 113 (0, 0))) (hw' : w' = w.setCell ⟨g, q, none⟩ u) (hf : Kd.R kBd 113 w' 0 F vf S'.files)
    (e1 : S'.room = S.room) (e2 : S'.dir = S.dir) (e3 : S'.safe = S.safe) (e4 : S'.chg = S.chg) (e5 : S'.ops = S.ops) (e6 : S'.armed = S.armed) (e7 : S'.dead = S.dead) : RskM w' F d S' vf vd vs vc := by
  have hdg : d ≠ g := blk_ne h.blk hg (by decide); rw [hw'] at hf ⊢; refine ⟨?_, hf, ?_, ?_, ?_, h.fd⟩
  · rw [e1, e5, e6, e7]; exact blk_far h.blk hdg u
  · rw [e2]; exact Kd.R_set h.dir hg (by decide) q u
  · rw [e3]; exact Kd.R_set h.safe hg (by decide) q u
  · rw [e4]; exact Kd.R_set h.chg hg (by decide) q u
set_option maxHeartbeats 2000000 in
set_option maxRecDepth 100000 in
theorem ref_Sync.calls {w : World} {F : Nat → Prop} {d : Nat} {S : DS} (h : RskAt w F d S) (n : ByteArray) (hn : n.size ≤ 9223372036854775807) :
    Calls Try.prog 57 #[.pointer (some ⟨d, 0, none⟩), .string n] w fun e w' => e = .returned (.int .i64 (opSync S n).2) ∧ RskAt w' (grow F w w') d (opSync S n).1 ∧ KeptL F w w' := by
  have HA := Aside0.mk h; obtain ⟨hI, hlt0, vf, vd, vs, vc, h1⟩ := h; have HLT := Aside0.mk hlt0; have HI := Aside0.mk hI; have H := Aside0.mk h1; have c7 := (blk_cell h1.blk 7).trans rfl
  cases hd : S.dead with
  | true =>
    rw [hd] at c7; have HOP : Aside0 (opSync S n = (S, 51)) := ⟨by unfold opSync; rw [hd]; rfl⟩; clear h1 hd hI hlt0; go_enter Try.func57, Try.ntmps57
    go_wp2_with fail
    go_ret; rw [HOP.out]; exact ⟨rfl, HA.out.unmoved (Below.refl _ _)⟩
  | false =>
    rw [hd] at c7; have HDD := Aside0.mk hd; clear hd hI hlt0; obtain ⟨Ad, cd, hvd, hcd, hCd⟩ := h1.dirRow; subst hvd; have HCD := Aside0.mk (And.intro hcd hCd); have c2 := (blk_cell h1.blk 2).trans rfl; clear h1 hcd hCd; go_enter Try.func57, Try.ntmps57
    go_wp2_with fail
    refine (ref_find.at HCD.out.2 HCD.out.1 (by have := HI.out.lenD; omega) n).mono ?_; rintro x w2 ⟨hb2, ⟨rfl, hh⟩ | ⟨ji, hji, rfl, hh⟩⟩
    · have HOP : Aside0 (opSync S n = (S, 7)) := ⟨by unfold opSync; rw [HDD.out, hh]; rfl⟩; have HB2 := Aside0.mk hb2; clear hh hb2 c2; go_wp2_with fail
      go_ret; rw [HOP.out]; exact ⟨rfl, HA.out.unmoved HB2.out⟩
    · have HH := Aside0.mk hh; have HJI := Aside0.mk hji; have HB2 := Aside0.mk hb2; have H2 := Aside0.mk (H.out.below hb2); have c5 := (blk_cell H2.out.blk 5).trans rfl; obtain ⟨en, hen⟩ : ∃ en, en = S.dir[ji] := ⟨_, rfl⟩; rw [← hen] at HH; have HEN := Aside0.mk hen; clear hh hb2 hen c2; by_cases ho : S.ops ≥ 1048576
      · have b1 : decide (S.ops ≥ 1048576) = true := decide_eq_true ho; have HOP : Aside0 (opSync S n = (S, 5)) := ⟨by unfold opSync; rw [HDD.out, HH.out]; exact if_pos ho⟩; clear ho; go_wp2_with fail
        go_ret; rw [HOP.out]; exact ⟨rfl, HA.out.unmoved HB2.out⟩
      · have b1 : decide (S.ops ≥ 1048576) = false := decide_eq_false ho; have HOB : Aside0 (0 ≤ S.ops ∧ S.ops < 1048576) := ⟨by have := HI.out.opsB; omega⟩; have HOP : Aside0 (opSync S n = ifGoes S fun T => setFil T en.2 ((fileOf S en.2).1, ((fileOf S en.2).1.length : Int))) := ⟨by unfold opSync; rw [HDD.out, HH.out]; exact if_neg ho⟩; clear ho; go_wp2_with fail
        clear b1; refine (ref_goes.calls H2.out HI.out.armB HOB.out).mono ?_; rintro x w4 ⟨rfl, h4, hk4⟩; have H4 := Aside0.mk h4; have HK4 : Aside0 (KeptL F w w4) := ⟨(KeptL.of_below HB2.out).trans (hk4.mono (fun k e => by rw [e]; exact H.out.fd))⟩; have HG := Aside0.mk (HI.out.goes HOB.out.2); obtain ⟨T, hT⟩ : ∃ T, T = (goes S).1 := ⟨_, rfl⟩; obtain ⟨g, hg⟩ : ∃ g, g = (goes S).2 := ⟨_, rfl⟩; rw [← hT] at H4 HG; rw [← hg] at HG; have hOP := HOP.out; rw [goes_eq, ← hT, ← hg] at hOP; replace HOP := Aside0.mk hOP; rw [← hg]; clear h4 hk4 hT hg hOP; by_cases hg0 : g = 0
        · subst hg0; have hOP := HOP.out; rw [if_pos rfl] at hOP; replace HOP := Aside0.mk hOP; clear hOP; have hen := HI.out.okD en (has_some HH.out).1; have hjn := HJI.out; obtain ⟨j, hj⟩ : ∃ j : Nat, (j : Int) = en.2 := ⟨en.2.toNat, by omega⟩; have hjS : j < S.files.length := by omega
          obtain ⟨fj, hfj⟩ : ∃ fj, fj = S.files.getD j ([], 0) := ⟨_, rfl⟩; have hfo : fileOf S en.2 = fj := by unfold fileOf; rw [hfj, show en.2.toNat = j by omega]
          have HFO := Aside0.mk hfo; have hfl := HI.out.fil _ (fileOf_mem hen.1 hen.2.1); rw [hfo] at hfl; have HFL := Aside0.mk hfl; have HFJ := Aside0.mk hfj; have HJS := Aside0.mk hjS; have HJE := Aside0.mk hj; have HJN : Aside0 (en.2.toNat = j) := ⟨by omega⟩; clear hen hfj hj; obtain ⟨ad, hA, _, _⟩ := ent_at HCD.out.2 ji HJI.out; subst hA; have hdir := (Kd.R_reads' H4.out.dir).2; rw [HG.out.2.2.1] at hdir; obtain ⟨ad', hA', q0, q1⟩ := ent_at hdir.2 ji HJI.out
          cases hA'
          rw [← HEN.out, ← HJE.out] at q1; obtain ⟨Af, cf, hvf, hcf, _⟩ := H4.out.filRow; have hTF : T.files.length = S.files.length := by rw [HG.out.2.1]
          rw [hTF] at hvf; subst hvf; obtain ⟨af, A5, c5', hA, k0, k1, z0, z1, hk5, hC5, ⟨cells5, hb5⟩, hpl5, hF5, hsB, hsS⟩ := bod_own H4.out.fil j (by rw [HG.out.2.1]; exact HJS.out); subst hA; rw [HG.out.2.1, ← HFJ.out] at k0 k1 hk5 hC5 hsB hsS; obtain ⟨n5, hn5⟩ : ∃ n5, n5 = fj.1.length := ⟨_, rfl⟩; have HN5 := Aside0.mk hn5; rw [← hn5] at k0; have c1 := (blk_cell H4.out.blk 1).trans rfl; have c2 := (blk_cell H4.out.blk 2).trans rfl; have hjS := HJS.out; have HB5 := Aside0.mk hb5; have HPL := Aside0.mk hpl5; have HSS := Aside0.mk hsS; have HFG := Aside0.mk hF5; have HIC := Aside0.mk (HI.out.sync_ n); clear hdir hcf hTF hk5 hC5 hb5 hpl5 hF5 hsB hsS hn5 q0 c5 c7 hfl hfo; go_wp2_with fail
          refine start_ (n := 17) (S := fun w' => w'.cell? ⟨d, 1, none⟩ = some (.slice (some af) S.files.length cf) ∧ w'.cell? (af.add (j * 2)) = some (.slice A5 n5 c5')) (ds := [16]) (bm 17 0) (by kernel_rfl) rfl rfl ⟨c1, k0⟩ (fun hHeld => ?_); refine pure_ (i := 0) (N := some 37) (v:=?_) (a':=?_) (bm 17 1) rfl rfl (by kernel_rfl) (fun _ _ _ h => h) (Or.inl ⟨by rfl, ?_⟩) ?_ ?_; rotate_left
          · intro w'; go_simp; with_reducible rfl
          rotate_left
          · simp only [Act.put,s_a,s_b,s_c,i64_w,i32_w]; rfl
          refine pure_ (i := 1) (N := some 38) (v:=?_) (a':=?_) (bm 17 3) rfl rfl (by kernel_rfl) (fun _ _ _ h => h) (Or.inl ⟨by rfl, ?_⟩) ?_ ?_; rotate_left
          · intro w'; go_simp; with_reducible rfl
          rotate_left
          · simp only [Act.put,s_a,s_b,s_c,i64_w,i32_w]; rfl
          refine pure_ (i := 2) (N := some 39) (v:=?_) (a':=?_) (bm 17 7) rfl rfl (by kernel_rfl) (fun _ _ _ h => h) (Or.inl ⟨by rfl, ?_⟩) ?_ ?_; rotate_left
          · intro w'; go_simp; with_reducible rfl
          rotate_left
          · simp only [Act.put,s_a,s_b,s_c,i64_w,i32_w]; rfl
          refine pure_ (i := 4) (N := some 41) (v:=?_) (a':=?_) (bm 17 23) rfl rfl (by kernel_rfl) (fun _ _ _ h => h) (Or.inl ⟨by rfl, ?_⟩) ?_ ?_; rotate_left
          · intro w'; go_simp; with_reducible rfl
          rotate_left
          · simp only [Act.put,s_a,s_b,s_c,i64_w,i32_w]; rfl
          refine pure_ (i := 5) (N := some 42) (v:=?_) (a':=?_) (bm 17 55) rfl rfl (by kernel_rfl) (fun _ _ _ h => h) (Or.inl ⟨by rfl, ?_⟩) ?_ ?_; rotate_left
          · intro w'; go_simp; with_reducible rfl
          rotate_left
          · simp only [Act.put,s_a,s_b,s_c,i64_w,i32_w]; rfl
          refine pure_ (i := 6) (N := some 43) (v:=?_) (a':=?_) (bm 17 119) rfl rfl (by kernel_rfl) (fun _ _ _ h => h) (Or.inl ⟨by rfl, ?_⟩) ?_ ?_; rotate_left
          · intro w'; go_simp; with_reducible rfl
          rotate_left
          · simp only [Act.put,s_a,s_b,s_c,i64_w,i32_w]; rfl
          refine pure_ (i := 7) (N := some 44) (v:=?_) (a':=?_) (bm 17 247) rfl rfl (by kernel_rfl) (fun _ _ _ h => h) (Or.inl ⟨by rfl, ?_⟩) ?_ ?_; rotate_left
          · intro w'; go_simp; with_reducible rfl
          rotate_left
          · simp only [Act.put,s_a,s_b,s_c,i64_w,i32_w]; rfl
          refine pure_ (i := 9) (N := some 46) (v:=?_) (a':=?_) (bm 17 759) rfl rfl (by kernel_rfl) (fun _ _ _ h => h) (Or.inl ⟨by rfl, ?_⟩) ?_ ?_; rotate_left
          · intro w'; go_simp; with_reducible rfl
          rotate_left
          · simp only [Act.put,s_a,s_b,s_c,i64_w,i32_w]; rfl
          refine take_ (i := 3) (N := some 40) (v:=?_) (a':=?_) (bm 17 767) rfl rfl (by kernel_rfl) (fun _ _ _ h => h) (Or.inl ⟨by rfl, ?_⟩) hHeld ?_ ?_; rotate_left
          · rintro w' ⟨s0, s1⟩; go_simp; with_reducible rfl
          rotate_left
          · simp only [Act.put,s_a,s_b,s_c,i64_w,i32_w]; rfl
          refine take_ (i := 8) (N := some 45) (v:=?_) (a':=?_) (bm 17 1023) rfl rfl (by kernel_rfl) (fun _ _ _ h => h) (Or.inl ⟨by rfl, ?_⟩) hHeld ?_ ?_; rotate_left
          · rintro w' ⟨s0, s1⟩; go_simp; with_reducible rfl
          rotate_left
          · simp only [Act.put,s_a,s_b,s_c,i64_w,i32_w]; rfl
          refine pure_ (i := 10) (N := some 47) (v:=?_) (a':=?_) (bm 17 2047) rfl rfl (by kernel_rfl) (fun _ _ _ h => h) (Or.inl ⟨by rfl, ?_⟩) ?_ ?_; rotate_left
          · intro w'; go_simp; with_reducible rfl
          rotate_left
          · simp only [Act.put,s_a,s_b,s_c,i64_w,i32_w]; rfl
          refine pure_ (i := 11) (N := some 48) (v:=?_) (a':=?_) (bm 17 4095) rfl rfl (by kernel_rfl) (fun _ _ _ h => h) (Or.inl ⟨by rfl, ?_⟩) ?_ ?_; rotate_left
          · intro w'; go_simp; with_reducible rfl
          rotate_left
          · simp only [Act.put,s_a,s_b,s_c,i64_w,i32_w]; rfl
          refine take_ (i := 12) (N := some 49) (v:=?_) (a':=?_) (bm 17 8191) rfl rfl (by kernel_rfl) (fun _ _ _ h => h) (Or.inl ⟨by rfl, ?_⟩) hHeld ?_ ?_; rotate_left
          · rintro w' ⟨s0, s1⟩; go_simp; with_reducible rfl
          rotate_left
          · simp only [Act.put,s_a,s_b,s_c,i64_w,i32_w]; rfl
          refine pure_ (i := 13) (N := some 50) (v:=?_) (a':=?_) (bm 17 16383) rfl rfl (by kernel_rfl) (fun _ _ _ h => h) (Or.inl ⟨by rfl, ?_⟩) ?_ ?_; rotate_left
          · intro w'; go_simp; with_reducible rfl
          rotate_left
          · simp only [Act.put,s_a,s_b,s_c,i64_w,i32_w]; rfl
          refine pure_ (i := 14) (N := some 51) (v:=?_) (a':=?_) (bm 17 32767) rfl rfl (by kernel_rfl) (fun _ _ _ h => h) (Or.inl ⟨by rfl, ?_⟩) ?_ ?_; rotate_left
          · intro w'; go_simp; with_reducible rfl
          rotate_left
          · simp only [Act.put,s_a,s_b,s_c,i64_w,i32_w]; rfl
          refine pure_ (i := 15) (N := some 52) (v:=?_) (a':=?_) (bm 17 65535) rfl rfl (by kernel_rfl) (fun _ _ _ h => h) (Or.inl ⟨by rfl, ?_⟩) ?_ ?_; rotate_left
          · intro w'; go_simp; with_reducible rfl
          rotate_left
          · simp only [Act.put,s_a,s_b,s_c,i64_w,i32_w]; rfl
          refine last_ (i := 16) (N := none) (bm 17 131071) rfl rfl (by kernel_rfl) (by decide) (fun K hK => ?_); refine skip_ (w1 := w4.drew.setCell ⟨(af.add (j * 2)).block, (af.add (j * 2)).off + 1, none⟩ (.int .i64 (n5 : Int))) (by rfl) rfl ?_ ?_
          · go_simp
            try rfl
          refine hK.out _ _ ?_; clear hK K; refine done_ (by kernel_rfl) ?_; obtain ⟨w5, hw5⟩ : ∃ w5, w5 = w4.drew.setCell ⟨(af.add (j * 2)).block, (af.add (j * 2)).off + 1, none⟩ (.int .i64 (n5 : Int)) := ⟨_, rfl⟩; rw [← hw5]; have hd4 := H4.out.below (below_drew1 (Below.refl w4.heap.size w4))
          have HFIN : Aside0 (RskAt w5 (grow F w w5) d (opSync S n).1 ∧ KeptL F w w5) := ⟨by
            have hpl := HPL.out; have hw5' : w5 = w4.drew.setCell ⟨af.block, j * 2 + 1, none⟩ (.int .i64 (n5 : Int)) := by rw [hw5, hpl, add_two]
            have hfr : Kd.R kBd 113 w5 0 F (.slice (some af) S.files.length cf) (S.files.set j (fj.1, (n5 : Int))) := by
              have h0 := bod_own hd4.fil j (by rw [HG.out.2.1]; exact HJS.out); obtain ⟨af', _, _, hA', _, _, _, _, _, _, _, _, _, _, hS'⟩ := h0
              cases hA'
              have := hS' w5 (n5 : Int) hw5; rw [HG.out.2.1, ← HFJ.out] at this; exact this
            have hm := RskM.setRow (S' := setFil T en.2 ((fileOf S en.2).1, ((fileOf S en.2).1.length : Int))) hd4 (q := j * 2 + 1) (g := af.block) HB5.out hw5' (by
              show Kd.R kBd _ w5 0 F _ (T.files.set en.2.toNat _); rw [HG.out.2.1, HJN.out, HFO.out, ← HN5.out]; exact hfr) rfl rfl rfl rfl rfl rfl rfl
            have hk : KeptL F w w5 := by
              rw [hw5']; exact HK4.out.drew.setCell _ _ (.inl HFG.out)
            have hi := HIC.out; rw [HOP.out] at hi; rw [HOP.out]; exact RskM.fin hi HLT.out hk (hm.wide (fun k hk => .inl hk))⟩
          clear hw5 hd4 z0 z1 k0 k1 c1 c2 q1; go_wp2_with fail
          go_ret; exact ⟨by rw [HOP.out]; rfl, HFIN.out⟩
        · have bg : (g == 0) = false := beq_eq_false_iff_ne.mpr hg0; have hOP := HOP.out; rw [if_neg hg0] at hOP; replace HOP := Aside0.mk hOP; clear hOP hg0; go_wp2_with fail
          go_ret; rw [HOP.out]; exact ⟨rfl, RskM.fin HG.out.1 HLT.out HK4.out (H4.out.wide (fun k hk => .inl hk))⟩
end Go.Proofs.Ytdekcjopgnfmdaa.Hand
