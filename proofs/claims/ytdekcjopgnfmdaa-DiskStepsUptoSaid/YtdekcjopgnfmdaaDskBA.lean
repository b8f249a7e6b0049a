/- The document's disk: what it is in memory; its small functions. -/
import Derived.Test.YtdekcjopgnfmdaaDskMC
namespace Go.Proofs.Ytdekcjopgnfmdaa.Hand
open Go.RowKit Go.Maps Go.Proofs.YtdekcjopgnfmdaaW.PrintWords Go.Proofs.YtdekcjopgnfmdaaW.PrintLast Go.Proofs.YtdekcjopgnfmdaaW.PrintMore Go.Proofs.Ytdekcjopgnfmdaa.Q
set_option linter.unusedVariables false
set_option linter.unusedSimpArgs false
abbrev kBd : Kd Fil := Kd.iso (Kd.pair (Kd.slice 5 (Kd.int .u8)) (Kd.int .i64)) (fun x => x)
abbrev kEn : Kd EntD := k115
/-- The document's disk. F: all that it owns. -/
structure RskM (w : World) (F : Nat → Prop) (d : Nat) (S : DS) (vf vd vs vc : Value) : Prop where
  blk : w.heap[d]? = some (.cells #[.int .i64 S.room, vf, vd, vs, vc, .int .i64 S.ops, .int .i64 S.armed, .bool S.dead] 79 (0, 0))
  fil : Kd.R kBd 113 w 0 F vf S.files
  dir : Kd.R kEn 115 w 0 F vd (S.dir.map mkE)
  safe : Kd.R kEn 115 w 0 F vs (S.safe.map mkE)
  chg : Kd.R kC 119 w 0 F vc S.chg
  fd : F d
theorem RskM.kept {w w' : World} {F G : Nat → Prop} {d : Nat} {S : DS} {vf vd vs vc : Value} (h : RskM w F d S vf vd vs vc) (hk : KeptL G w w') (hFG : ∀ k, F k → ¬ G k) : RskM w' F d S vf vd vs vc := by
  have hm : ∀ k, F k → k < w.heap.size → w'.heap[k]? = w.heap[k]? := fun k hF hl => hk.block k hl (hFG k hF); exact ⟨(hm d h.fd (blk_lt h.blk)).trans h.blk, Kd.R_step h.fil hm, Kd.R_step h.dir hm, Kd.R_step h.safe hm, Kd.R_step h.chg hm, h.fd⟩
theorem RskM.below {w w' : World} {F : Nat → Prop} {d : Nat} {S : DS} {vf vd vs vc : Value} (h : RskM w F d S vf vd vs vc) (hb : Below w.heap.size w w') : RskM w' F d S vf vd vs vc :=
  h.kept (G := fun _ => False) (KeptL.of_below hb) (fun _ _ hf => hf)
theorem R_beside {α : Type} {k : Kd α} {e t g : Nat} {w w' : World} {F : Nat → Prop} {v : Value} {xs : List α} {cells : Array Value} (h : Kd.R k e w 0 F v xs) (hb : w.heap[g]? = some (.cells cells t (0, 0))) (ht : ∀ q, q ∈ e :: k.E → q ≠ t) (hk : KeptL (fun k => k = g) w w') : Kd.R k e w' 0 F v xs :=
  Kd.R_mono (Kd.R_step (Kd.R_types h hb ht) (fun k ho hl => hk.block k hl ho.2)) (fun _ h => h.1)
/-- The disk's own cells have turned. -/
theorem RskM.turnD {w w' : World} {F : Nat → Prop} {d : Nat} {S S' : DS} {vf vd vs vc : Value} (h : RskM w F d S vf vd vs vc) (hk : KeptL (fun k => k = d) w w')
    (hb : w'.heap[d]? = some (.cells #[.int .i64 S'.room, vf, vd, vs, vc, .int .i64 S'.ops, .int .i64 S'.armed, .bool S'.dead] 79 (0, 0)))
    (e1 : S'.files = S.files) (e2 : S'.dir = S.dir) (e3 : S'.safe = S.safe) (e4 : S'.chg = S.chg) : RskM w' F d S' vf vd vs vc := by
  refine ⟨hb, ?_, ?_, ?_, ?_, h.fd⟩
  · rw [e1]; exact R_beside h.fil h.blk (by decide) hk
  · rw [e2]; exact R_beside h.dir h.blk (by decide) hk
  · rw [e3]; exact R_beside h.safe h.blk (by decide) hk
  · rw [e4]; exact R_beside h.chg h.blk (by decide) hk
def RskAt (w : World) (F : Nat → Prop) (d : Nat) (S : DS) : Prop := Inv S ∧ (∀ k, F k → k < w.heap.size) ∧ ∃ vf vd vs vc, RskM w F d S vf vd vs vc
theorem RskAt.kept {w w' : World} {F G : Nat → Prop} {d : Nat} {S : DS} (h : RskAt w F d S) (hk : KeptL G w w') (hFG : ∀ k, F k → ¬ G k) : RskAt w' F d S := by
  obtain ⟨h0, hl, vf, vd, vs, vc, h1⟩ := h; exact ⟨h0, fun k hF => Nat.lt_of_lt_of_le (hl k hF) hk.size, vf, vd, vs, vc, h1.kept hk hFG⟩
theorem RskAt.below {w w' : World} {F : Nat → Prop} {d : Nat} {S : DS} (h : RskAt w F d S) (hb : Below w.heap.size w w') : RskAt w' F d S := h.kept (G := fun _ => False) (KeptL.of_below hb) (fun _ _ hf => hf)
theorem RskAt.lt {w : World} {F : Nat → Prop} {d : Nat} {S : DS} (h : RskAt w F d S) : ∀ k, F k → k < w.heap.size := by
  exact h.2.1
theorem blkR_put {w : World} {d : Nat} {cs : Array Value} (h : w.heap[d]? = some (.cells cs 79 (0, 0))) (j : Nat) (v : Value) {cs' : Array Value} (e : cs.setIfInBounds j v = cs') : (w.setCell ⟨d, j, none⟩ v).heap[d]? = some (.cells cs' 79 (0, 0)) := blk_put h j v e
set_option maxHeartbeats 1000000 in
theorem ref_goes.calls {w : World} {F : Nat → Prop} {d : Nat} {S : DS} {vf vd vs vc : Value} (h : RskM w F d S vf vd vs vc) (hA : 0 ≤ S.armed ∧ S.armed ≤ 9223372036854775807) (hO : 0 ≤ S.ops ∧ S.ops < 1048576) :
    Calls Try.prog 76 #[.pointer (some ⟨d, 0, none⟩)] w fun e w' => e = .returned (.int .i64 (goes S).2) ∧ RskM w' F d (goes S).1 vf vd vs vc ∧ KeptL (fun k => k = d) w w' := by
  have H := Aside0.mk h; have c6 := (blk_cell h.blk 5).trans rfl; have c7 := (blk_cell h.blk 6).trans rfl; have c8 := (blk_cell h.blk 7).trans rfl; have z6 := blk_frozen h.blk 5; have z7 := blk_frozen h.blk 6; have z8 := blk_frozen h.blk 7; rcases goes_cases S with ⟨a, b, e⟩ | ⟨a, b, e⟩ | ⟨a, e⟩
  · have HE := Aside0.mk e; have b1 : decide (S.armed > 0) = true := decide_eq_true a; have b2 : (S.armed - 1 == 0) = true := by simpa using b
    have HA1 : Aside0 (S.armed - 1 = 0) := ⟨b⟩; clear h e a b; go_enter Try.func76, Try.ntmps76
    go_wp2_with fail
    go_ret; rw [HE.out]; have hk := ((KeptL.refl (fun k => k = d) w).setCell ⟨d, 6, none⟩ (.int .i64 (S.armed - 1)) (.inl rfl)).setCell ⟨d, 7, none⟩ (.bool true) (.inl rfl); exact ⟨rfl, H.out.turnD hk (blkR_put (blkR_put H.out.blk 6 _ rfl) 7 _ (by rw [HA1.out]; rfl)) rfl rfl rfl rfl, hk⟩
  · have HE := Aside0.mk e; have b1 : decide (S.armed > 0) = true := decide_eq_true a; have b2 : (S.armed - 1 == 0) = false := by simpa using b
    clear h e a b; go_enter Try.func76, Try.ntmps76
    go_wp2_with fail
    go_ret; rw [HE.out]; have hk := ((KeptL.refl (fun k => k = d) w).setCell ⟨d, 6, none⟩ (.int .i64 (S.armed - 1)) (.inl rfl)).setCell ⟨d, 5, none⟩ (.int .i64 (S.ops + 1)) (.inl rfl); exact ⟨rfl, H.out.turnD hk (blkR_put (blkR_put H.out.blk 6 _ rfl) 5 _ rfl) rfl rfl rfl rfl, hk⟩
  · have HE := Aside0.mk e; have b1 : decide (S.armed > 0) = false := decide_eq_false a; clear h e a; go_enter Try.func76, Try.ntmps76
    go_wp2_with fail
    go_ret; rw [HE.out]; have hk := (KeptL.refl (fun k => k = d) w).setCell ⟨d, 5, none⟩ (.int .i64 (S.ops + 1)) (.inl rfl); exact ⟨rfl, H.out.turnD hk (blkR_put H.out.blk 5 _ rfl) rfl rfl rfl rfl, hk⟩
set_option maxHeartbeats 1000000 in
theorem ref_Arm.calls {w : World} {F : Nat → Prop} {d : Nat} {S : DS} (h : RskAt w F d S) (n : Int) (hn : -9223372036854775808 ≤ n ∧ n ≤ 9223372036854775807) :
    Calls Try.prog 61 #[.pointer (some ⟨d, 0, none⟩), .int .i64 n] w fun e w' => (∃ v, e = .returned v) ∧ RskAt w' F d (opArm S n) ∧ KeptL F w w' := by
  obtain ⟨hI, hlt0, vf, vd, vs, vc, h1⟩ := h; have hIA := hI.arm n hn.2; have H := Aside0.mk h1; have HI := Aside0.mk hIA; have HI0 := Aside0.mk hI; have HLT := Aside0.mk hlt0; clear hlt0; have c6 := (blk_cell h1.blk 6).trans rfl; have c7 := (blk_cell h1.blk 7).trans rfl; have z6 := blk_frozen h1.blk 6
  cases hd : S.dead with
  | true =>
    rw [hd] at c7; have HE : Aside0 (opArm S n = S) := ⟨by unfold opArm; rw [if_pos hd]⟩; clear h1 hd hIA hI; go_enter Try.func61, Try.ntmps61
    go_wp2_with fail
    (try simp only [Exit.inBlock, Exit.then])
    refine bodyPost_ret (results_none rfl _ _ _) rfl ?_; exact ⟨⟨_, rfl⟩, by rw [HE.out]; exact ⟨HI0.out, HLT.out, _, _, _, _, H.out⟩, KeptL.refl _ _⟩
  | false =>
    rw [hd] at c7; by_cases hp : n > 0
    · have b1 : decide (n > 0) = true := decide_eq_true hp; have HE : Aside0 (opArm S n = { S with armed := n }) := ⟨by unfold opArm; rw [if_neg (by rw [hd]; decide), show max n 0 = n by omega]⟩; clear h1 hd hIA hI hp; go_enter Try.func61, Try.ntmps61
      go_wp2_with fail
      go_end0; have hk := ((KeptL.refl (fun k => k = d) w).setCell ⟨d, 6, none⟩ (.int .i64 0) (.inl rfl)).setCell ⟨d, 6, none⟩ (.int .i64 n) (.inl rfl); have hf := H.out.turnD (S' := { S with armed := n }) hk (blkR_put (blkR_put H.out.blk 6 _ rfl) 6 _ rfl) rfl rfl rfl rfl; exact ⟨⟨_, rfl⟩, ⟨HI.out, fun k hF => Nat.lt_of_lt_of_le (HLT.out k hF) hk.size, _, _, _, _, by rw [HE.out]; exact hf⟩, hk.mono (fun k e => by rw [e]; exact H.out.fd)⟩
    · have b1 : decide (n > 0) = false := decide_eq_false hp; have HE : Aside0 (opArm S n = { S with armed := 0 }) := ⟨by unfold opArm; rw [if_neg (by rw [hd]; decide), show max n 0 = 0 by omega]⟩; clear h1 hd hIA hI hp; go_enter Try.func61, Try.ntmps61
      go_wp2_with fail
      go_end0; have hk := (KeptL.refl (fun k => k = d) w).setCell ⟨d, 6, none⟩ (.int .i64 0) (.inl rfl); have hf := H.out.turnD (S' := { S with armed := 0 }) hk (blkR_put H.out.blk 6 _ rfl) rfl rfl rfl rfl; exact ⟨⟨_, rfl⟩, ⟨HI.out, fun k hF => Nat.lt_of_lt_of_le (HLT.out k hF) hk.size, _, _, _, _, by rw [HE.out]; exact hf⟩, hk.mono (fun k e => by rw [e]; exact H.out.fd)⟩
/-- An entry, a file of the document's rows. -/
theorem ent_at {w : World} {A : Option Addr} {n : Nat} {l : List Ent} (h : Kd.C kEn w A n (l.map mkE)) (i : Nat) (h1 : i < l.length) : ∃ ad, A = some ad ∧ w.cell? (ad.add (i * 2)) = some (.string l[i].1) ∧ w.cell? ⟨(ad.add (i * 2)).block, (ad.add (i * 2)).off + 1, none⟩ = some (.int .i64 l[i].2) := by
  have hn : (l.map mkE).length = n := h.1; rw [List.length_map] at hn; obtain ⟨ad, h2, h3, h4⟩ := at_T115 h (i : Int) (by omega) (by omega); rw [rdE h1, Int.toNat_natCast] at h3 h4; exact ⟨ad, h2, h3, h4⟩
theorem bod_at {w : World} {A : Option Addr} {n : Nat} {l : List Fil} (h : Kd.C kBd w A n l) (i : Nat) (h1 : i < l.length) : ∃ ad A1 c1, A = some ad ∧ w.cell? (ad.add (i * 2)) = some (.slice A1 (l.getD i ([], 0)).1.length c1) ∧ w.cell? ⟨(ad.add (i * 2)).block, (ad.add (i * 2)).off + 1, none⟩ = some (.int .i64 (l.getD i ([], 0)).2) ∧ (l.getD i ([], 0)).1.length ≤ c1 ∧ Kd.C kB w A1 (l.getD i ([], 0)).1.length (l.getD i ([], 0)).1 := by
  have hn : l.length = n := h.1; obtain ⟨ad, c, e, _, hK, hc0⟩ := Kd.C_get h ([], 0) (i : Int) (by omega) (by omega); rw [Int.toNat_natCast] at hK hc0; have hc : ∀ j u, c[j]? = some u → w.cell? (ad.add (i * 2 + j)) = some u := hc0; obtain ⟨_, _, rfl, ⟨A1, c1, rfl, h2, h3⟩, rfl⟩ := hK; exact ⟨ad, A1, c1, e, hc 0 _ rfl, by rw [← add_field _ _ 1 (by omega)]; exact hc 1 _ rfl, h2, h3⟩
theorem usedOf_take (fs : List Fil) (l : List Ent) (i : Nat) (h : i < l.length) : usedOf fs (l.take (i + 1)) = usedOf fs (l.take i) + ((fs.getD l[i].2.toNat ([], 0)).1.length : Int) := by
  unfold usedOf; rw [List.take_succ_eq_append_getElem h, List.map_append, List.sum_append]
  simp
theorem usedOf_part {S : DS} (h : Inv S) (i : Nat) : 0 ≤ usedOf S.files (S.dir.take i) ∧ usedOf S.files (S.dir.take i) ≤ 268435456 := by
  have h1 := usedOf_bound (fs := S.files) (fun f hf => (h.fil f hf).1) (S.dir.take i); have h2 := h.lenD; rw [List.length_take] at h1; omega
set_option maxHeartbeats 2000000 in
set_option maxRecDepth 100000 in
theorem ref_used.calls {w : World} {F : Nat → Prop} {d : Nat} {S : DS} (h : RskAt w F d S) : Calls Try.prog 69 #[.pointer (some ⟨d, 0, none⟩)] w fun e w' => e = .returned (.int .i64 (used S)) ∧ Below w.heap.size w w' := by
  obtain ⟨hI, hlt0, vf, vd, vs, vc, h1⟩ := h; have HI := Aside0.mk hI; have H := Aside0.mk h1; obtain ⟨Af, cf, hvf⟩ := Kd.R_slice h1.fil; obtain ⟨Ad, cd, hvd⟩ := Kd.R_slice h1.dir; rw [List.length_map] at hvd; obtain ⟨N, hN⟩ : ∃ N, N = S.dir.length := ⟨_, rfl⟩; obtain ⟨Nf, hNf⟩ : ∃ N, N = S.files.length := ⟨_, rfl⟩; rw [← hN] at hvd; rw [← hNf] at hvf; subst hvf hvd; have HN := Aside0.mk hN; have HNf := Aside0.mk hNf; have hN2 : (N : Int) ≤ 64 := by have := hI.lenD; omega
  have HB0 : Aside0 (Below w.heap.size w w) := ⟨Below.refl _ _⟩; clear hI h1 hN hNf; go_enter Try.func69, Try.ntmps69
  go_upto_region 3 with (fail)
  go_loopw [3, 4] (fun v3 v4 wr => ∃ i : Nat, i ≤ N ∧ v4 = .int .i64 i ∧ ∃ u : Int, v3 = .int .i64 u ∧ Aside0 (u = usedOf S.files (S.dir.take i) ∧ Below w.heap.size w wr)) (fun _ v4 _ => N - (intOf v4).toNat)
  case atStart => exact ⟨0, Nat.zero_le _, rfl, 0, rfl, ⟨rfl, HB0.out⟩⟩
  case round =>
    obtain ⟨i, hi, rfl, u, rfl, HU⟩ := hrel; have hm := H.out.below HU.out.2; have HM := Aside0.mk hm; have c1 := (blk_cell hm.blk 1).trans rfl; have c2 := (blk_cell hm.blk 2).trans rfl; clear hm; by_cases hlt : i < N
    · have hid : i < S.dir.length := by rw [← HN.out]; exact hlt
      have hok := HI.out.okD _ (List.getElem_mem hid); have hdd := (Kd.R_reads' HM.out.dir).2.2; have hff := (Kd.R_reads' HM.out.fil).2.2; obtain ⟨ad, rfl, e0, e1⟩ := ent_at hdd i hid; obtain ⟨j, hj⟩ := Int.eq_ofNat_of_zero_le hok.1; have hjl : j < S.files.length := by omega
      obtain ⟨af, A1, k1, rfl, f0, f1, _, _⟩ := bod_at hff j hjl; have hst := usedOf_take S.files S.dir i hid; have hub := usedOf_part HI.out (i + 1); have hub0 := usedOf_part HI.out i; rw [hj] at e1; rw [hj, Int.toNat_natCast] at hst; obtain ⟨L, hL⟩ : ∃ L, L = (S.files.getD j ([], 0)).1.length := ⟨_, rfl⟩; rw [← hL] at f0 hst; rw [hst, ← HU.out.1] at hub; rw [← HU.out.1] at hub0; have HUN : Aside0 (u + (L : Int) = usedOf S.files (S.dir.take (i + 1))) := ⟨by rw [hst, ← HU.out.1]⟩; have hjn : j < Nf := by rw [HNf.out]; exact hjl
      clear e0 f1 hst hok hdd hff hj hL hjl hid; go_upto_region 5 with (fail)
      refine start_ (n := 19) (S := fun w' => w'.cell? ⟨d, 1, none⟩ = some (.slice (some af) Nf cf) ∧ w'.cell? ⟨d, 2, none⟩ = some (.slice (some ad) N cd) ∧ w'.cell? ⟨(ad.add (i * 2)).block, (ad.add (i * 2)).off + 1, none⟩ = some (.int .i64 (j : Int)) ∧ w'.cell? (af.add (j * 2)) = some (.slice A1 L k1)) (ds := []) (bm 19 0) (by kernel_rfl) rfl rfl ⟨c1, c2, e1, f0⟩ (fun hHeld => ?_); refine pure_ (i := 0) (N := some 14) (v:=?_) (a':=?_) (bm 19 1) rfl rfl (by kernel_rfl) (fun _ _ _ h => h) (Or.inl ⟨by rfl, ?_⟩) ?_ ?_; rotate_left
      · intro w'; go_simp; with_reducible rfl
      rotate_left
      · simp only [Act.put,s_a,s_b,s_c,i64_w,i32_w]; rfl
      refine pure_ (i := 1) (N := some 15) (v:=?_) (a':=?_) (bm 19 3) rfl rfl (by kernel_rfl) (fun _ _ _ h => h) (Or.inl ⟨by rfl, ?_⟩) ?_ ?_; rotate_left
      · intro w'; go_simp; with_reducible rfl
      rotate_left
      · simp only [Act.put,s_a,s_b,s_c,i64_w,i32_w]; rfl
      refine pure_ (i := 2) (N := some 16) (v:=?_) (a':=?_) (bm 19 7) rfl rfl (by kernel_rfl) (fun _ _ _ h => h) (Or.inl ⟨by rfl, ?_⟩) ?_ ?_; rotate_left
      · intro w'; go_simp; with_reducible rfl
      rotate_left
      · simp only [Act.put,s_a,s_b,s_c,i64_w,i32_w]; rfl
      refine pure_ (i := 3) (N := some 17) (v:=?_) (a':=?_) (bm 19 15) rfl rfl (by kernel_rfl) (fun _ _ _ h => h) (Or.inl ⟨by rfl, ?_⟩) ?_ ?_; rotate_left
      · intro w'; go_simp; with_reducible rfl
      rotate_left
      · simp only [Act.put,s_a,s_b,s_c,i64_w,i32_w]; rfl
      refine pure_ (i := 5) (N := some 19) (v:=?_) (a':=?_) (bm 19 47) rfl rfl (by kernel_rfl) (fun _ _ _ h => h) (Or.inl ⟨by rfl, ?_⟩) ?_ ?_; rotate_left
      · intro w'; go_simp; with_reducible rfl
      rotate_left
      · simp only [Act.put,s_a,s_b,s_c,i64_w,i32_w]; rfl
      refine pure_ (i := 6) (N := some 20) (v:=?_) (a':=?_) (bm 19 111) rfl rfl (by kernel_rfl) (fun _ _ _ h => h) (Or.inl ⟨by rfl, ?_⟩) ?_ ?_; rotate_left
      · intro w'; go_simp; with_reducible rfl
      rotate_left
      · simp only [Act.put,s_a,s_b,s_c,i64_w,i32_w]; rfl
      refine pure_ (i := 7) (N := some 21) (v:=?_) (a':=?_) (bm 19 239) rfl rfl (by kernel_rfl) (fun _ _ _ h => h) (Or.inl ⟨by rfl, ?_⟩) ?_ ?_; rotate_left
      · intro w'; go_simp; with_reducible rfl
      rotate_left
      · simp only [Act.put,s_a,s_b,s_c,i64_w,i32_w]; rfl
      refine pure_ (i := 9) (N := some 23) (v:=?_) (a':=?_) (bm 19 751) rfl rfl (by kernel_rfl) (fun _ _ _ h => h) (Or.inl ⟨by rfl, ?_⟩) ?_ ?_; rotate_left
      · intro w'; go_simp; with_reducible rfl
      rotate_left
      · simp only [Act.put,s_a,s_b,s_c,i64_w,i32_w]; rfl
      refine take_ (i := 4) (N := some 18) (v:=?_) (a':=?_) (bm 19 767) rfl rfl (by kernel_rfl) (fun _ _ _ h => h) (Or.inl ⟨by rfl, ?_⟩) hHeld ?_ ?_; rotate_left
      · rintro w' ⟨s0, s1, s2, s3⟩; go_simp; with_reducible rfl
      rotate_left
      · simp only [Act.put,s_a,s_b,s_c,i64_w,i32_w]; rfl
      refine take_ (i := 8) (N := some 22) (v:=?_) (a':=?_) (bm 19 1023) rfl rfl (by kernel_rfl) (fun _ _ _ h => h) (Or.inl ⟨by rfl, ?_⟩) hHeld ?_ ?_; rotate_left
      · rintro w' ⟨s0, s1, s2, s3⟩; go_simp; with_reducible rfl
      rotate_left
      · simp only [Act.put,s_a,s_b,s_c,i64_w,i32_w]; rfl
      refine pure_ (i := 10) (N := some 24) (v:=?_) (a':=?_) (bm 19 2047) rfl rfl (by kernel_rfl) (fun _ _ _ h => h) (Or.inl ⟨by rfl, ?_⟩) ?_ ?_; rotate_left
      · intro w'; go_simp; with_reducible rfl
      rotate_left
      · simp only [Act.put,s_a,s_b,s_c,i64_w,i32_w]; rfl
      refine pure_ (i := 11) (N := some 25) (v:=?_) (a':=?_) (bm 19 4095) rfl rfl (by kernel_rfl) (fun _ _ _ h => h) (Or.inl ⟨by rfl, ?_⟩) ?_ ?_; rotate_left
      · intro w'; go_simp; with_reducible rfl
      rotate_left
      · simp only [Act.put,s_a,s_b,s_c,i64_w,i32_w]; rfl
      refine take_ (i := 12) (N := some 26) (v:=?_) (a':=?_) (bm 19 8191) rfl rfl (by kernel_rfl) (fun _ _ _ h => h) (Or.inl ⟨by rfl, ?_⟩) hHeld ?_ ?_; rotate_left
      · rintro w' ⟨s0, s1, s2, s3⟩; go_simp; with_reducible rfl
      rotate_left
      · simp only [Act.put,s_a,s_b,s_c,i64_w,i32_w]; rfl
      refine pure_ (i := 13) (N := some 27) (v:=?_) (a':=?_) (bm 19 16383) rfl rfl (by kernel_rfl) (fun _ _ _ h => h) (Or.inl ⟨by rfl, ?_⟩) ?_ ?_; rotate_left
      · intro w'; go_simp; with_reducible rfl
      rotate_left
      · simp only [Act.put,s_a,s_b,s_c,i64_w,i32_w]; rfl
      refine pure_ (i := 14) (N := some 28) (v:=?_) (a':=?_) (bm 19 32767) rfl rfl (by kernel_rfl) (fun _ _ _ h => h) (Or.inl ⟨by rfl, ?_⟩) ?_ ?_; rotate_left
      · intro w'; go_simp; with_reducible rfl
      rotate_left
      · simp only [Act.put,s_a,s_b,s_c,i64_w,i32_w]; rfl
      refine take_ (i := 15) (N := some 29) (v:=?_) (a':=?_) (bm 19 65535) rfl rfl (by kernel_rfl) (fun _ _ _ h => h) (Or.inl ⟨by rfl, ?_⟩) hHeld ?_ ?_; rotate_left
      · rintro w' ⟨s0, s1, s2, s3⟩; go_simp; with_reducible rfl
      rotate_left
      · simp only [Act.put,s_a,s_b,s_c,i64_w,i32_w]; rfl
      refine pure_ (i := 16) (N := some 30) (v:=?_) (a':=?_) (bm 19 131071) rfl rfl (by kernel_rfl) (fun _ _ _ h => h) (Or.inl ⟨by rfl, ?_⟩) ?_ ?_; rotate_left
      · intro w'; go_simp; with_reducible rfl
      rotate_left
      · simp only [Act.put,s_a,s_b,s_c,i64_w,i32_w]; rfl
      refine pure_ (i := 17) (N := some 31) (v:=?_) (a':=?_) (bm 19 262143) rfl rfl (by kernel_rfl) (fun _ _ _ h => h) (Or.inl ⟨by rfl, ?_⟩) ?_ ?_; rotate_left
      · intro w'; go_simp; with_reducible rfl
      rotate_left
      · simp only [Act.put,s_a,s_b,s_c,i64_w,i32_w]; rfl
      refine pure_ (i := 18) (N := some 3) (v:=?_) (a':=?_) (bm 19 524287) rfl rfl (by kernel_rfl) (fun _ _ _ h => h) (Or.inl ⟨by rfl, ?_⟩) ?_ ?_; rotate_left
      · intro w'; go_simp; with_reducible rfl
      rotate_left
      · simp only [Act.put,s_a,s_b,s_c,i64_w,i32_w]; rfl
      refine done_ (by kernel_rfl) ?_; have HU2 : Aside0 (u + (L : Int) = usedOf S.files (S.dir.take (i + 1)) ∧ Below w.heap.size w wr.drew) := ⟨HUN.out, below_drew1 HU.out.2⟩; clear c1 c2 e1 f0 HU HM HUN; go_wp2_with fail
      go_roundw
      case rel => exact ⟨i + 1, by omega, by go_num, u + L, by rw [w64L (by omega) (by omega)], HU2⟩
      case measure => simp [intOf]; omega
    · obtain rfl : i = N := by omega
      go_wp2_with fail
      go_ret; have e : usedOf S.files (S.dir.take i) = used S := by rw [HN.out, List.take_length]; rfl
      exact ⟨by rw [HU.out.1, e]; rfl, HU.out.2⟩
set_option maxHeartbeats 1000000 in
theorem ref_Free.calls {w : World} {F : Nat → Prop} {d : Nat} {S : DS} (h : RskAt w F d S) : Calls Try.prog 44 #[.pointer (some ⟨d, 0, none⟩)] w fun e w' => e = .returned (.int .i64 (freeOf S)) ∧ Below w.heap.size w w' := by
  have H := Aside0.mk h; obtain ⟨hI, hlt0, vf, vd, vs, vc, h1⟩ := h; have c0 := (blk_cell h1.blk 0).trans rfl; have c7 := (blk_cell h1.blk 7).trans rfl; have hu := hI.usedB; have hr := hI.roomB
  cases hd : S.dead with
  | true =>
    rw [hd] at c7; have HF : Aside0 (freeOf S = 0) := ⟨by unfold freeOf; rw [hd]; rfl⟩; clear h1 hd; go_enter Try.func44, Try.ntmps44
    go_wp2_with fail
    go_ret; exact ⟨by rw [HF.out]; rfl, Below.refl _ _⟩
  | false =>
    rw [hd] at c7; have HF : Aside0 (freeOf S = S.room - used S) := ⟨by unfold freeOf; rw [hd]; rfl⟩; have HW : Aside0 (wrap64 (S.room - used S) = S.room - used S) := ⟨w64L (by omega) (by omega)⟩; clear h1 hd; go_enter Try.func44, Try.ntmps44
    go_upto_region 3 with (fail)
    refine start_ (n := 8) (S := fun w' => w'.cell? ⟨d, 0, none⟩ = some (.int .i64 S.room)) (ds := []) (bm 8 0) (by kernel_rfl) rfl rfl (c0) (fun hHeld => ?_); refine pure_ (i := 0) (N := some 7) (v:=?_) (a':=?_) (bm 8 1) rfl rfl (by kernel_rfl) (fun _ _ _ h => h) (Or.inl ⟨by rfl, ?_⟩) ?_ ?_; rotate_left
    · intro w'; go_simp; with_reducible rfl
    rotate_left
    · simp only [Act.put,s_a,s_b,s_c,i64_w,i32_w]; rfl
    refine pure_ (i := 1) (N := some 8) (v:=?_) (a':=?_) (bm 8 3) rfl rfl (by kernel_rfl) (fun _ _ _ h => h) (Or.inl ⟨by rfl, ?_⟩) ?_ ?_; rotate_left
    · intro w'; go_simp; with_reducible rfl
    rotate_left
    · simp only [Act.put,s_a,s_b,s_c,i64_w,i32_w]; rfl
    refine pure_ (i := 2) (N := some 9) (v:=?_) (a':=?_) (bm 8 7) rfl rfl (by kernel_rfl) (fun _ _ _ h => h) (Or.inl ⟨by rfl, ?_⟩) ?_ ?_; rotate_left
    · intro w'; go_simp; with_reducible rfl
    rotate_left
    · simp only [Act.put,s_a,s_b,s_c,i64_w,i32_w]; rfl
    refine pure_ (i := 4) (N := some 11) (v:=?_) (a':=?_) (bm 8 23) rfl rfl (by kernel_rfl) (fun _ _ _ h => h) (Or.inl ⟨by rfl, ?_⟩) ?_ ?_; rotate_left
    · intro w'; go_simp; with_reducible rfl
    rotate_left
    · simp only [Act.put,s_a,s_b,s_c,i64_w,i32_w]; rfl
    refine take_ (i := 3) (N := some 10) (v:=?_) (a':=?_) (bm 8 31) rfl rfl (by kernel_rfl) (fun _ _ _ h => h) (Or.inl ⟨by rfl, ?_⟩) hHeld ?_ ?_; rotate_left
    · intro w' s0; go_simp; with_reducible rfl
    rotate_left
    · simp only [Act.put,s_a,s_b,s_c,i64_w,i32_w]; rfl
    refine one_ (i := 5) (N := some 12) (bm 8 63) rfl rfl (by kernel_rfl) (by decide) (fun K hK => ?_); refine goes_ Try.func69 (by kernel_rfl) rfl #[.pointer (some ⟨d, 0, none⟩)] (by rfl) rfl rfl (by simp only [List.map_toArray, List.map_cons, List.map_nil]; rfl) ?_; refine (ref_used.calls (H.out.below (below_drew1 (Below.refl _ _)))).mono ?_; rintro e w2 ⟨rfl, hb⟩; have HB := Aside0.mk (below_step (below_drew1 (Below.refl w.heap.size w)) hb); clear hb; refine ⟨_, rfl, ?_⟩; refine hK.out _ _ (pw_cell_below HB.out c0) (fun hHeld => ?_); clear hK K; refine norm_ (a' := ?_) ?_ ?_; rotate_left
    · show Act.put _ (some 12) _ = _; simp only [Act.put,s_a,s_b,s_c,i64_w,i32_w]; rfl
    refine pure_ (i := 6) (N := some 13) (v:=?_) (a':=?_) (bm 8 127) rfl rfl (by kernel_rfl) (fun _ _ _ h => h) (Or.inl ⟨by rfl, ?_⟩) ?_ ?_; rotate_left
    · intro w'; go_simp; with_reducible rfl
    rotate_left
    · simp only [Act.put,s_a,s_b,s_c,i64_w,i32_w]; rfl
    refine pure_ (i := 7) (N := some 2) (v:=?_) (a':=?_) (bm 8 255) rfl rfl (by kernel_rfl) (fun _ _ _ h => h) (Or.inl ⟨by rfl, ?_⟩) ?_ ?_; rotate_left
    · intro w'; go_simp; with_reducible rfl
    rotate_left
    · simp only [Act.put,s_a,s_b,s_c,i64_w,i32_w]; rfl
    refine done_ (by kernel_rfl) ?_; clear hu hr; go_wp2_with fail
    go_ret; exact ⟨by rw [HF.out]; show Ending.returned (.int .i64 (wrap64 (S.room - used S))) = _; rw [HW.out], HB.out⟩
theorem infoS : (Try.prog.info? 9).map (fun i => (i.zero, i.size, i.bytes)) = some (some (.string ⟨#[]⟩), 1, 16) := by kernel_rfl
theorem infoBd : (Try.prog.info? 113).map (fun i => (i.zero, i.size, i.bytes)) = some (some (.agg #[.slice none 0 0, .int .i64 0]), 2, 32) := by kernel_rfl
theorem infoRC : (Try.prog.info? 119).map (fun i => (i.zero, i.size, i.bytes)) = some (some (.agg #[.string ⟨#[]⟩, .string ⟨#[]⟩, .int .i64 0]), 3, 40) := by kernel_rfl
theorem lst_take {S : DS} {i : Nat} (h : i < S.dir.length) : (S.dir.take (i + 1)).map (·.1) = (S.dir.take i).map (·.1) ++ [S.dir[i].1] := by rw [List.take_succ_eq_append_getElem h, List.map_append]; rfl
set_option maxHeartbeats 2000000 in
set_option maxRecDepth 100000 in
theorem ref_List.calls {w : World} {F : Nat → Prop} {d : Nat} {S : DS} (h : RskAt w F d S) : Calls Try.prog 46 #[.pointer (some ⟨d, 0, none⟩)] w fun e w' => ∃ v, e = .returned v ∧ Kd.R Kd.string 9 w' w.heap.size (fun _ => True) v (lstOf S) ∧ Below w.heap.size w w' := by
  obtain ⟨hI, hlt0, vf, vd, vs, vc, h1⟩ := h; have HI := Aside0.mk hI; have H := Aside0.mk h1; obtain ⟨Ad, cd, hvd⟩ := Kd.R_slice h1.dir; rw [List.length_map] at hvd; obtain ⟨N, hN⟩ : ∃ N, N = S.dir.length := ⟨_, rfl⟩; rw [← hN] at hvd; subst hvd; have HN := Aside0.mk hN; have hN2 : (N : Int) ≤ 64 := by have := hI.lenD; omega
  cases hd : S.dead with
  | true =>
    have c2 := (blk_cell h1.blk 2).trans rfl; have c7 := (blk_cell h1.blk 7).trans rfl; rw [hd] at c7; have HL : Aside0 (lstOf S = []) := ⟨by unfold lstOf; rw [if_pos hd]⟩; clear hI h1 hN hd; go_enter Try.func46, Try.ntmps46
    go_upto_region 3 with (fail)
    go_loopw [3, 4] (fun v3 v4 wr => v3 = .slice none 0 0 ∧ v4 = .int .i64 0 ∧ wr = w) (fun _ _ _ => 0)
    case atStart => exact ⟨rfl, rfl, rfl⟩
    case round =>
      obtain ⟨rfl, rfl, rfl⟩ := hrel; by_cases h0 : 0 < N
      · go_wp2_with fail
        go_ret; exact ⟨_, rfl, by rw [HL.out]; exact Kd.R_nil _ _ _ _ _, Below.refl _ _⟩
      · obtain rfl : N = 0 := by omega
        go_wp2_with fail
        go_ret; exact ⟨_, rfl, by rw [HL.out]; exact Kd.R_nil _ _ _ _ _, Below.refl _ _⟩
  | false =>
    have HL : Aside0 (lstOf S = S.dir.map (·.1)) := ⟨lst_alive hd⟩; have HD := Aside0.mk hd; clear hI h1 hN hd; go_enter Try.func46, Try.ntmps46
    go_upto_region 3 with (fail)
    go_loopw [3, 4] (fun v3 v4 wr => ∃ i : Nat, i ≤ N ∧ v4 = .int .i64 i ∧ ∃ A3 c3, v3 = .slice A3 i c3 ∧ Aside0 (Kd.R Kd.string 9 wr w.heap.size (fun _ => True) (.slice A3 i c3) ((S.dir.take i).map (·.1)) ∧ Below w.heap.size w wr)) (fun _ v4 _ => N - (intOf v4).toNat)
    case atStart => exact ⟨0, Nat.zero_le _, rfl, none, 0, rfl, ⟨Kd.R_nil _ _ _ _ _, Below.refl _ _⟩⟩
    case round =>
      obtain ⟨i, hi, rfl, A3, c3, rfl, HU⟩ := hrel; have hm := H.out.below HU.out.2; have c2 := (blk_cell hm.blk 2).trans rfl; have c7 := (blk_cell hm.blk 7).trans rfl; rw [HD.out] at c7; by_cases hlt : i < N
      · have hid : i < S.dir.length := by rw [← HN.out]; exact hlt
        obtain ⟨ad, rfl, e0, e1⟩ := ent_at (Kd.R_reads' hm.dir).2.2 i hid; have HT := Aside0.mk (lst_take hid); obtain ⟨nk, hnk⟩ : ∃ nk, nk = S.dir[i].1 := ⟨_, rfl⟩; rw [← hnk] at e0 HT; have HLL : Aside0 (((S.dir.take (i + 1)).map (·.1)).length = i + 1) := ⟨by rw [List.length_map, List.length_take]; omega⟩; obtain ⟨T, hT⟩ : ∃ T, T = (S.dir.take i).map (·.1) := ⟨_, rfl⟩; have HTL : Aside0 ((T.length + 1) * 16 ≤ 140737488355328) := ⟨by rw [hT, List.length_map, List.length_take]; omega⟩; rw [← hT] at HU HT; clear hm hnk e1 hT hid; go_wp2_with ((with_reducible refine gate_builtin (b := .append) (xs := #[.tmp 21, .tmp 30]) rfl ?_); at_builtin; refine Kd.R_append Kd.string (w0 := w) w.heap.size rfl (.tmp 21) (.tmp 30) 49 9 (.string ⟨#[]⟩) 16 rfl Try.underlying49 infoS rfl (by decide) (by decide) (.slice A3 i c3) T nk [.string nk] (fun _ => True) (fun _ => False) rfl rfl rfl (fun _ h => h.elim) (fun _ _ => trivial) HU.out.1 HU.out.2 HU.out.2.size HTL.out ?_; intro v7 w7 ho hb hg hat; rw [← HT.out] at ho; obtain ⟨A7, c7', hv7⟩ := Kd.R_slice ho; rw [HLL.out] at hv7; subst hv7; have HU2 : Aside0 (Kd.R Kd.string 9 w7 w.heap.size (fun _ => True) (.slice A7 (i + 1) c7') ((S.dir.take (i + 1)).map (·.1)) ∧ Below w.heap.size w w7) := ⟨ho, hb⟩; clear ho hb hg hat c2 c7 e0 HU)
        go_roundw
        case rel => exact ⟨i + 1, by omega, by go_num, A7, c7', rfl, HU2⟩
        case measure => simp [intOf]; omega
      · obtain rfl : i = N := by omega
        clear hm; go_wp2_with fail
        go_ret; have e : (S.dir.take i).map (·.1) = lstOf S := by rw [HL.out, HN.out, List.take_length]
        exact ⟨_, rfl, by rw [← e]; exact HU.out.1, HU.out.2⟩
end Go.Proofs.Ytdekcjopgnfmdaa.Hand
