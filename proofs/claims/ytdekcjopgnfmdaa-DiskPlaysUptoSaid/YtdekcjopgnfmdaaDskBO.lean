/- The law's begin: both disks of a story. -/
import Derived.Test.YtdekcjopgnfmdaaDskBJ
import Derived.Test.YtdekcjopgnfmdaaDskBK
import Derived.Test.YtdekcjopgnfmdaaDskMC
namespace Go.Proofs.Ytdekcjopgnfmdaa.Hand
open Go.RowKit Go.Maps Go.Proofs.YtdekcjopgnfmdaaW.PrintWords Go.Proofs.YtdekcjopgnfmdaaW.PrintLast Go.Proofs.YtdekcjopgnfmdaaW.PrintMore Go.Proofs.Ytdekcjopgnfmdaa.Q
set_option linter.unusedVariables false
set_option linter.unusedSimpArgs false
/-- Both begin, beside what has been made before. -/
theorem DuoD.begin {w w0 w1 w2 w3 : World} {d r : Nat} {S T : DS} (h0 : Below w.heap.size w w0) (h : OwnD w0 w1 d S) (hb : Below w1.heap.size w1 w2) (k : RskAt w3 (fun k => w2.heap.size ≤ k ∧ k < w3.heap.size) r T) (hb2 : Below w2.heap.size w2 w3) : DuoD w w3 (fun k => w.heap.size ≤ k ∧ k < w0.heap.size) d r S T := by
  obtain ⟨F, h1, h2, h3⟩ := h; have hs : w1.heap.size ≤ w2.heap.size := hb.size; have hs0 : w.heap.size ≤ w0.heap.size := h0.size; have hs1 : w0.heap.size ≤ w1.heap.size := h3.size; have hs2 : w2.heap.size ≤ w3.heap.size := hb2.size; exact ⟨F, _, (h1.below hb).below hb2, k, fun n hn => Nat.le_trans hs0 (h2 n hn), fun n hn => by have := hn.1; omega, fun n hf hg => by have := h1.lt n hf; omega, fun n hn => ⟨fun hf => by have := h2 n hf; omega, fun hg => by have := hg.1; omega, by omega, hn.1⟩, below_step (below_step (below_step h0 h3) hb) hb2⟩
/-- What begin answers. -/
def BegAns (w w' : World) (p : DS × Int) (e : Ending) : Prop := Below w.heap.size w w' ∧
  ((p.2 ≠ 0 ∧ e = .returned (.tuple #[.pointer none, .pointer none, .bool true])) ∨ (p.2 = 0 ∧ ∃ d r, e = .returned (.tuple #[.pointer (some ⟨d, 0, none⟩), .pointer (some ⟨r, 0, none⟩), .bool true]) ∧ DuoD w w' (fun _ => False) d r p.1 p.1))
set_option maxHeartbeats 4000000 in
set_option maxRecDepth 100000 in
theorem law_begin.calls (x : StD) (hx : StB x) (A : Option Addr) (c : Nat) (A2 : Option Addr) (c2 : Nat) (w : World) (hC : Kd.C kF w A x.files.length x.files) (hc : x.files.length ≤ c) :
    Calls Try.prog 14 #[.agg #[.slice A x.files.length c, .int .i64 x.room, .slice A2 x.acts.length c2]] w fun e w' => BegAns w w' (newOf x.room x.files) e := by
  have HX := Aside0.mk hx; have HC := Aside0.mk hC; have HCc := Aside0.mk hc; obtain ⟨N, hN⟩ : ∃ N, N = x.acts.length := ⟨_, rfl⟩; rw [← hN]; have bk := blk_new w (.cells #[.slice A x.files.length c, .int .i64 x.room, .slice A2 N c2] 28 (0, 0)); have d0 := (blk_cell bk 0).trans rfl; have d1 := (blk_cell bk 1).trans rfl; obtain ⟨kcp, hkcp⟩ := (copied_ev HX.out.fsB).rounds; have HKC := Aside0.mk hkcp; obtain ⟨kou, hkou⟩ := (ours_ev HX.out.fsB).rounds; have HKO := Aside0.mk hkou; obtain ⟨kfi, hkfi⟩ := (files_ev (l := x.files) HX.out.fsB.1).rounds; have HKF := Aside0.mk hkfi
  have hnew : ∀ (w2 : World) (Ao : Option Addr) (co : Nat), Kd.C kF w2 Ao x.files.length x.files → x.files.length ≤ co → Calls Try.prog 19 #[.slice Ao x.files.length co, .int .i64 x.room] w2 fun e w3 => ∃ pv e3, e = .returned (.tuple #[pv, .int .i64 e3]) ∧ Below w2.heap.size w2 w3 ∧ e3 = (newOf x.room x.files).2 ∧ ((e3 = 0 ∧ ∃ d, pv = .pointer (some ⟨d, 0, none⟩) ∧ OwnD w2 w3 d (newOf x.room x.files).1) ∨ (e3 ≠ 0 ∧ pv = .pointer none)) := fun w2 Ao co h1 h2 => by
    refine (disk_New.own x.room HX.out.room.2 Ao co x.files w2 h1 h2 (fun f hf => (HX.out.f f hf).1)).mono ?_; rintro e w3 ⟨hb3, ⟨h0, d, rfl, h3⟩ | ⟨h0, rfl⟩⟩
    · exact ⟨_, _, rfl, hb3, h0.symm, .inl ⟨rfl, d, rfl, h3⟩⟩
    · exact ⟨_, _, rfl, hb3, rfl, .inr ⟨h0, rfl⟩⟩
  have HNEW := Aside0.mk hnew
  have hnewr : ∀ (w2 : World) (Ao : Option Addr) (co : Nat), Kd.C kRF w2 Ao x.files.length (x.files.map toR) → x.files.length ≤ co → Calls Try.prog 42 #[.slice Ao x.files.length co, .int .i64 x.room] w2 fun e w3 => ∃ pv e3, e = .returned (.tuple #[pv, .int .i64 e3]) ∧ Below w2.heap.size w2 w3 ∧ e3 = (newOf x.room x.files).2 ∧ ((e3 = 0 ∧ ∃ d, pv = .pointer (some ⟨d, 0, none⟩) ∧ RskAt w3 (fun k => w2.heap.size ≤ k ∧ k < w3.heap.size) d (newOf x.room x.files).1) ∨ (e3 ≠ 0 ∧ pv = .pointer none)) := fun w2 Ao co h1 h2 => by
    refine (ref_New.calls x.room HX.out.room.2 Ao co x.files w2 h1 h2 (fun f hf => (HX.out.f f hf).1)).mono ?_; rintro e w3 ⟨⟨h0, d, rfl, h3⟩ | ⟨h0, rfl⟩, hb3⟩
    · exact ⟨_, _, rfl, hb3, h0.symm, .inl ⟨rfl, d, rfl, h3⟩⟩
    · exact ⟨_, _, rfl, hb3, rfl, .inr ⟨h0, rfl⟩⟩
  have HNEWR := Aside0.mk hnewr; have hours := fun (w2 : World) (A0 : Option Addr) (c0 : Nat) (h0 : Kd.C kF w2 A0 x.files.length x.files) (hc0 : x.files.length ≤ c0) => wicketlaw05_ours.calls kou A0 c0 x.files (x.files.map toR) w2 h0 hc0 hkou; have HOURS := Aside0.mk hours; have hfi := fun (w2 : World) (A0 : Option Addr) (c0 : Nat) (A1 : Option Addr) (c1 : Nat) (h0 : Kd.C kF w2 A0 x.files.length x.files) (hc0 : x.files.length ≤ c0) (h1 : Kd.C kRF w2 A1 (x.files.map toR).length (x.files.map toR)) (hc1 : (x.files.map toR).length ≤ c1) => wicketlaw05_files.calls kfi A0 c0 x.files A1 c1 (x.files.map toR) true w2 h0 hc0 h1 hc1 hkfi; rw [List.length_map] at hfi; have HFI := Aside0.mk hfi; obtain ⟨NF, hNF⟩ : ∃ NF, NF = x.files.length := ⟨_, rfl⟩; have HNF := Aside0.mk hNF; have hsp := HX.out.fsB; have HSP : Aside0 (x.files.length ≤ 1073741824 ∧ ∀ f, f ∈ x.files → f.f1.length ≤ 1073741824) := ⟨Nat.le_of_lt hsp.1, fun f hf => Nat.le_of_lt (hsp.2 f hf)⟩; clear hx hC hc hN hkcp hkou hkfi hnew hnewr hours hfi hNF hsp; go_enter Try.func14, Try.ntmps14
  go_wp2_with fail
  obtain ⟨w1, hw1⟩ : ∃ w1, w1 = w.alloc (.cells #[.slice A x.files.length c, .int .i64 x.room, .slice A2 N c2] 28) := ⟨_, rfl⟩; obtain ⟨Bx, hBx⟩ : ∃ Bx, Bx = w.heap.size := ⟨_, rfl⟩; have HB1 : Aside0 (Below w.heap.size w w1) := ⟨by rw [hw1]; exact below_alloc (Below.refl _ _) _⟩; rw [← hw1, ← hBx] at bk d0 d1; rw [← hw1]; rw [← hBx]; clear hw1 bk hBx; refine (wicketlaw05_copied.calls kcp A c x.files x.files _ (Kd.C_below HC.out HB1.out) HCc.out HKC.out).mono ?_; rintro e w2 ⟨v2, rfl, ho2, hb2⟩; obtain ⟨Ao, co, hv2⟩ := Kd.S_slice ho2; subst hv2; have HO2 := Aside0.mk ho2; have HOC2 : Aside0 (x.files.length ≤ co ∧ Kd.C kF w2 Ao x.files.length x.files) := ⟨(Kd.S_reads' ho2).2⟩; have HB2 := Aside0.mk (below_step HB1.out hb2); have HB12 := Aside0.mk hb2; replace d0 := pw_cell_below hb2 d0; replace d1 := pw_cell_below hb2 d1; clear ho2 hb2; go_wp2_with fail
  refine (HNEW.out w2 Ao co HOC2.out.2 HOC2.out.1).mono ?_; rintro e w3 ⟨pv, e3, rfl, hb3, he3, hnw⟩; have HNW := Aside0.mk (And.intro he3 hnw); have HB3 := Aside0.mk (below_step HB2.out hb3); have HB23 := Aside0.mk hb3; replace d0 := pw_cell_below hb3 d0; replace d1 := pw_cell_below hb3 d1; clear hb3 hnw he3; go_upto_region 3 with (fail)
  refine start_ (n := 11) (S := fun w' => w'.cell? ⟨Bx, 0, none⟩ = some (.slice A x.files.length c) ∧ w'.cell? ⟨Bx, 1, none⟩ = some (.int .i64 x.room)) (ds := [5]) (bm 11 0) (by kernel_rfl) rfl rfl ⟨d0, d1⟩ (fun hHeld => ?_); refine pure_ (i := 0) (N := some 22) (v:=?_) (a':=?_) (bm 11 1) rfl rfl (by kernel_rfl) (fun _ _ _ h => h) (Or.inl ⟨by rfl, ?_⟩) ?_ ?_; rotate_left
  · intro w'; go_simp; with_reducible rfl
  rotate_left
  · simp only [Act.put,s_a,s_b,s_c,i64_w,i32_w]; rfl
  refine pure_ (i := 3) (N := some 25) (v:=?_) (a':=?_) (bm 11 9) rfl rfl (by kernel_rfl) (fun _ _ _ h => h) (Or.inl ⟨by rfl, ?_⟩) ?_ ?_; rotate_left
  · intro w'; go_simp; with_reducible rfl
  rotate_left
  · simp only [Act.put,s_a,s_b,s_c,i64_w,i32_w]; rfl
  refine take_ (i := 1) (N := some 23) (v:=?_) (a':=?_) (bm 11 11) rfl rfl (by kernel_rfl) (fun _ _ _ h => h) (Or.inl ⟨by rfl, ?_⟩) hHeld ?_ ?_; rotate_left
  · rintro w' ⟨s0, s1⟩; go_simp; with_reducible rfl
  rotate_left
  · simp only [Act.put,s_a,s_b,s_c,i64_w,i32_w]; rfl
  refine take_ (i := 4) (N := some 26) (v:=?_) (a':=?_) (bm 11 27) rfl rfl (by kernel_rfl) (fun _ _ _ h => h) (Or.inl ⟨by rfl, ?_⟩) hHeld ?_ ?_; rotate_left
  · rintro w' ⟨s0, s1⟩; go_simp; with_reducible rfl
  rotate_left
  · simp only [Act.put,s_a,s_b,s_c,i64_w,i32_w]; rfl
  refine one_ (i := 2) (N := some 24) (bm 11 31) rfl rfl (by kernel_rfl) (by decide) (fun K hK => ?_); refine goes_ Try.func23 (by kernel_rfl) rfl #[.slice A x.files.length c] (by rfl) rfl rfl (by simp only [List.map_toArray, List.map_cons, List.map_nil]; rfl) ?_; with_reducible refine (HOURS.out _ A c (Kd.C_below HC.out (below_drew1 HB3.out)) HCc.out).mono ?_
  rintro e w4 ⟨v4, rfl, ho4, hb4⟩; obtain ⟨Ar, cr, hv4⟩ := Kd.S_slice ho4; rw [List.length_map] at hv4; subst hv4; have ho5 := Kd.S_reads' ho4; rw [List.length_map] at ho5; have HO4 := Aside0.mk ho5.2; have HB4 := Aside0.mk (below_step (below_drew1 (Below.refl w3.heap.size w3)) hb4); clear ho4 hb4 ho5; refine ⟨_, rfl, ?_⟩; refine hK.out _ _ ⟨pw_cell_below HB4.out d0, pw_cell_below HB4.out d1⟩ (fun hHeld => ?_); clear hK K; refine norm_ (a' := ?_) ?_ ?_; rotate_left
  · show Act.put _ (some 24) _ = _; simp only [Act.put,s_a,s_b,s_c,i64_w,i32_w]; rfl
  refine last_ (i := 5) (N := some 27) (bm 11 63) rfl rfl (by kernel_rfl) (by decide) (fun K hK => ?_); refine goes_ Try.func42 (by kernel_rfl) rfl #[.slice Ar x.files.length cr, .int .i64 x.room] (by rfl) rfl rfl (by simp only [List.map_toArray, List.map_cons, List.map_nil]; rfl) ?_; with_reducible refine (HNEWR.out w4 Ar cr HO4.out.2 HO4.out.1).mono ?_
  rintro e w5 ⟨pv5, e5, rfl, hb5, he5, hnw5⟩; have HNW5 := Aside0.mk (And.intro he5 hnw5); have HB45 := Aside0.mk hb5; clear hnw5 he5 hb5; refine ⟨_, rfl, ?_⟩; refine hK.out _ _ ?_; clear hK K; refine norm_ (a' := ?_) ?_ ?_; rotate_left
  · show Act.put _ (some 27) _ = _; simp only [Act.put,s_a,s_b,s_c,i64_w,i32_w]; rfl
  refine pure_ (i := 6) (N := some 21) (v:=?_) (a':=?_) (bm 11 127) rfl rfl (by kernel_rfl) (fun _ _ _ h => h) (Or.inl ⟨by rfl, ?_⟩) ?_ ?_; rotate_left
  · intro w'; go_simp; with_reducible rfl
  rotate_left
  · simp only [Act.put,s_a,s_b,s_c,i64_w,i32_w]; rfl
  refine pure_ (i := 7) (N := some 28) (v:=?_) (a':=?_) (bm 11 255) rfl rfl (by kernel_rfl) (fun _ _ _ h => h) (Or.inl ⟨by rfl, ?_⟩) ?_ ?_; rotate_left
  · intro w'; go_simp; with_reducible rfl
  rotate_left
  · simp only [Act.put,s_a,s_b,s_c,i64_w,i32_w]; rfl
  refine pure_ (i := 8) (N := some 29) (v:=?_) (a':=?_) (bm 11 511) rfl rfl (by kernel_rfl) (fun _ _ _ h => h) (Or.inl ⟨by rfl, ?_⟩) ?_ ?_; rotate_left
  · intro w'; go_simp; with_reducible rfl
  rotate_left
  · simp only [Act.put,s_a,s_b,s_c,i64_w,i32_w]; rfl
  refine pure_ (i := 9) (N := some 8) (v:=?_) (a':=?_) (bm 11 1023) rfl rfl (by kernel_rfl) (fun _ _ _ h => h) (Or.inl ⟨by rfl, ?_⟩) ?_ ?_; rotate_left
  · intro w'; go_simp; with_reducible rfl
  rotate_left
  · simp only [Act.put,s_a,s_b,s_c,i64_w,i32_w]; rfl
  refine pure_ (i := 10) (N := some 9) (v:=?_) (a':=?_) (bm 11 2047) rfl rfl (by kernel_rfl) (fun _ _ _ h => h) (Or.inl ⟨by rfl, ?_⟩) ?_ ?_; rotate_left
  · intro w'; go_simp; with_reducible rfl
  rotate_left
  · simp only [Act.put,s_a,s_b,s_c,i64_w,i32_w]; rfl
  refine done_ (by kernel_rfl) ?_; have HB35 : Aside0 (Below w3.heap.size w3 w5) := ⟨below_step HB4.out HB45.out⟩; replace d0 := pw_cell_below HB35.out d0; replace d1 := pw_cell_below HB35.out d1; obtain ⟨he5, h5⟩ := HNW5.out; obtain ⟨he3, h3⟩ := HNW.out; clear HNW HNW5; have he : e5 = e3 := he5.trans he3.symm; clear he5; subst he; have HE3 := Aside0.mk he3; clear he3
  have HW5 : Aside0 (∀ w6 w9 : World, Below w5.heap.size w5 w6 → KeptL (fun k => w.heap.size ≤ k ∧ k < w2.heap.size) w6 w9 → BegAns w w9 (newOf x.room x.files) (.returned (.tuple #[pv, pv5, .bool true]))) := ⟨fun w6 w9 hb6 hk => by
    have hB26 : Below w2.heap.size w2 w6 := below_step (below_step HB23.out HB35.out) hb6; have hB06 : Below w.heap.size w w6 := below_step HB2.out hB26; refine ⟨hB06.trans (hk.below hB06.size (fun k hk => hk.1)), ?_⟩; rcases h3 with ⟨h30, d, rfl, h3⟩ | ⟨h30, rfl⟩
    · rcases h5 with ⟨-, r, rfl, h5⟩ | ⟨h50, -⟩
      · refine .inr ⟨HE3.out.symm.trans h30, d, r, rfl, ?_⟩; exact (((DuoD.begin HB2.out h3 HB4.out h5 HB45.out).tell hb6).write hk).free
      · exact absurd h30 h50
    · rcases h5 with ⟨h50, -⟩ | ⟨-, rfl⟩
      · exact absurd h50 h30
      · exact .inl ⟨fun h => h30 (HE3.out.trans h), rfl⟩⟩
  have hpp : ∃ a b, pv = .pointer a ∧ pv5 = .pointer b ∧ a.isNone = b.isNone := by
    rcases h3 with ⟨h30, d, rfl, h3⟩ | ⟨h30, rfl⟩
    · rcases h5 with ⟨-, r, rfl, h5⟩ | ⟨h50, -⟩
      · exact ⟨_, _, rfl, rfl, rfl⟩
      · exact absurd h30 h50
    · rcases h5 with ⟨h50, -⟩ | ⟨-, rfl⟩
      · exact absurd h50 h30
      · exact ⟨_, _, rfl, rfl, rfl⟩
  have HEAD := Aside0.mk hpp; clear h3 h5 hpp; go_wp2_with fail
  refine (wicketlaw05_num.calls e5 e5 _ rfl).mono ?_; rintro e w6 ⟨rfl, hd6⟩; have HB56 := Aside0.mk hd6.below; have HB06 := Aside0.mk (below_step HB3.out (below_step HB35.out hd6.below)); replace d0 := pw_cell_below hd6.below d0; clear hd6; obtain ⟨a, b, rfl, rfl, hab⟩ := HEAD.out; clear HEAD
  cases a with
  | none =>
    cases b with
    | some b => cases hab
    | none =>
      clear hab; go_wp2_with fail
      refine (HOURS.out _ A c (Kd.C_below HC.out HB06.out) HCc.out).mono ?_; rintro e w7 ⟨v7, rfl, ho7, hb7⟩; obtain ⟨A7, c7, hv7⟩ := Kd.S_slice ho7; rw [List.length_map] at hv7; subst hv7; have ho8 := Kd.S_reads' ho7; rw [List.length_map] at ho8; have HO7 := Aside0.mk ho8.2; have HB57 := Aside0.mk (below_step HB56.out hb7); have HB27 := Aside0.mk (below_step HB23.out (below_step HB35.out HB57.out)); clear ho7 hb7 ho8 d0 d1; go_wp2_with fail
      refine (HFI.out _ Ao co A7 c7 (Kd.C_below HOC2.out.2 HB27.out) HOC2.out.1 HO7.out.2 HO7.out.1).mono ?_; rintro e w8 ⟨rfl, hd8⟩; have HB58 := Aside0.mk (below_step HB57.out hd8.below); have HB28 := Aside0.mk (below_step HB27.out hd8.below); clear hd8; go_wp2_with fail
      refine (law_spoil.callsY (Y := fun k => w.heap.size ≤ k ∧ k < w2.heap.size) (m := 1073741824) (Kd.R_mono (Kd.R_lower (Kd.R_below (Kd.R_bound (Kd.S_R HO2.out)) HB28.out) (Nat.zero_le _)) (fun k hk => .inl ⟨Nat.le_trans HB1.out.size hk.2.1, hk.2.2.1⟩)) HSP.out.2 (Nat.le_refl _) HSP.out.1).mono ?_; rintro e w9 ⟨⟨rv, rfl⟩, hk9⟩; have HW9 := Aside0.mk (HW5.out w8 w9 HB58.out hk9); clear hk9; go_wp2_with fail
      go_ret3; exact HW9.out
  | some a =>
    cases b with
    | none => cases hab
    | some b =>
      clear hab; go_wp2_with fail
      refine (HOURS.out _ A c (Kd.C_below HC.out HB06.out) HCc.out).mono ?_; rintro e w7 ⟨v7, rfl, ho7, hb7⟩; obtain ⟨A7, c7, hv7⟩ := Kd.S_slice ho7; rw [List.length_map] at hv7; subst hv7; have ho8 := Kd.S_reads' ho7; rw [List.length_map] at ho8; have HO7 := Aside0.mk ho8.2; have HB57 := Aside0.mk (below_step HB56.out hb7); have HB27 := Aside0.mk (below_step HB23.out (below_step HB35.out HB57.out)); clear ho7 hb7 ho8 d0 d1; go_wp2_with fail
      refine (HFI.out _ Ao co A7 c7 (Kd.C_below HOC2.out.2 HB27.out) HOC2.out.1 HO7.out.2 HO7.out.1).mono ?_; rintro e w8 ⟨rfl, hd8⟩; have HB58 := Aside0.mk (below_step HB57.out hd8.below); have HB28 := Aside0.mk (below_step HB27.out hd8.below); clear hd8; go_wp2_with fail
      refine (law_spoil.callsY (Y := fun k => w.heap.size ≤ k ∧ k < w2.heap.size) (m := 1073741824) (Kd.R_mono (Kd.R_lower (Kd.R_below (Kd.R_bound (Kd.S_R HO2.out)) HB28.out) (Nat.zero_le _)) (fun k hk => .inl ⟨Nat.le_trans HB1.out.size hk.2.1, hk.2.2.1⟩)) HSP.out.2 (Nat.le_refl _) HSP.out.1).mono ?_; rintro e w9 ⟨⟨rv, rfl⟩, hk9⟩; have HW9 := Aside0.mk (HW5.out w8 w9 HB58.out hk9); clear hk9; go_wp2_with fail
      go_ret3; exact HW9.out
end Go.Proofs.Ytdekcjopgnfmdaa.Hand
