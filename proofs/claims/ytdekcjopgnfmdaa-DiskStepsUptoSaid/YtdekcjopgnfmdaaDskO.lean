/- Disk: the program's Left. -/
import Derived.Test.YtdekcjopgnfmdaaDskL
namespace Go.Proofs.Ytdekcjopgnfmdaa.Hand
open Go.RowKit Go.Maps Go.Proofs.YtdekcjopgnfmdaaW.PrintWords Go.Proofs.YtdekcjopgnfmdaaW.PrintLast Go.Proofs.YtdekcjopgnfmdaaW.PrintMore Go.Proofs.Ytdekcjopgnfmdaa.Q
set_option linter.unusedVariables false
set_option linter.unusedSimpArgs false
abbrev FilD := S65
abbrev kF : Kd FilD := k65
def mkF (x : ByteArray × List Int) : FilD := ⟨x.1, x.2⟩
def chg0 : Chg := (⟨#[]⟩, ⟨#[]⟩, 0)
theorem chg_at {w : World} {A : Option Addr} {n : Nat} {xs : List Chg} (h : Kd.C kC w A n xs) (i : Nat) (h1 : i < n) : ∃ ad, A = some ad ∧ w.cell? (ad.add (i * 3)) = some (.string (xs.getD i chg0).1) ∧ w.cell? ⟨(ad.add (i * 3)).block, (ad.add (i * 3)).off + 1, none⟩ = some (.string (xs.getD i chg0).2.1) ∧ w.cell? ⟨(ad.add (i * 3)).block, (ad.add (i * 3)).off + 2, none⟩ = some (.int .i64 (xs.getD i chg0).2.2) := by
  obtain ⟨ad, c, e, _, hK, hc0⟩ := Kd.C_get h chg0 (i : Int) (by omega) (by omega); rw [Int.toNat_natCast] at hK hc0; have hc : ∀ j u, c[j]? = some u → w.cell? (ad.add (i * 3 + j)) = some u := hc0; obtain ⟨_, _, rfl, rfl, ⟨_, _, rfl, rfl, rfl⟩⟩ := hK; exact ⟨ad, e, hc 0 _ rfl, by rw [← add_field _ _ 1 (by omega)]; exact hc 1 _ rfl, by rw [← add_field _ _ 2 (by omega)]; exact hc 2 _ rfl⟩
theorem str_at {w : World} {A : Option Addr} {n : Nat} {xs : List ByteArray} (h : Kd.C Kd.string w A n xs) (i : Nat) (h1 : i < xs.length) : ∃ ad, A = some ad ∧ w.cell? (ad.add i) = some (.string (xs.getD i ⟨#[]⟩)) := by
  have hn : xs.length = n := h.1; obtain ⟨ad, c, e, _, hK, hc0⟩ := Kd.C_get h ⟨#[]⟩ (i : Int) (by omega) (by omega); rw [Int.toNat_natCast] at hK hc0; have hc : c = [.string (xs.getD i ⟨#[]⟩)] := hK; subst hc; have h2 := hc0 0 _ rfl; have e2 : i * Kd.string.sz + 0 = i := by show i * 1 + 0 = i; omega
  rw [e2] at h2; exact ⟨ad, e, h2⟩
theorem int_at {w : World} {A : Option Addr} {n : Nat} {xs : List Int} (h : Kd.C (Kd.int .i64) w A n xs) (i : Nat) (h1 : i < xs.length) : ∃ ad, A = some ad ∧ w.cell? (ad.add i) = some (.int .i64 (xs.getD i 0)) := by
  have hn : xs.length = n := h.1; obtain ⟨ad, c, e, _, hK, hc0⟩ := Kd.C_get h 0 (i : Int) (by omega) (by omega); rw [Int.toNat_natCast] at hK hc0; have hc : c = [.int .i64 (xs.getD i 0)] := hK; subst hc; have h2 := hc0 0 _ rfl; have e2 : i * (Kd.int .i64).sz + 0 = i := by show i * 1 + 0 = i; omega
  rw [e2] at h2; exact ⟨ad, e, h2⟩
theorem foldl_srt : ∀ (cs : List Chg) {l : List Ent}, Srt l → Srt (cs.foldl turn l)
  | [], _, h => h
  | c :: cs, _, h => foldl_srt cs (h.turn c)
theorem foldl_len : ∀ (cs : List Chg) (l : List Ent), (cs.foldl turn l).length ≤ l.length + cs.length
  | [], l => Nat.le_refl _
  | c :: cs, l => by
    have h1 := foldl_len cs (turn l c); have h2 := turn_len l c; show (cs.foldl turn (turn l c)).length ≤ l.length + (cs.length + 1); omega
theorem foldl_mem {P : Ent → Prop} : ∀ (cs : List Chg) {l : List Ent}, (∀ e, e ∈ l → P e) → (∀ c, c ∈ cs → c.2.1.size ≠ 0 → P (c.2.1, c.2.2)) → ∀ e, e ∈ cs.foldl turn l → P e
  | [], _, h, _ => h
  | c :: cs, l, h, hc => foldl_mem cs (fun e he => by
    rcases turn_mem he with he | ⟨h1, rfl⟩
    · exact h e he
    · exact hc c List.mem_cons_self h1) (fun c' h' => hc c' (List.mem_cons_of_mem _ h'))
theorem leftD_ok {S : DS} (h : Inv S) (n : Nat) : Srt ((S.chg.take n).foldl turn S.safe) ∧ ((S.chg.take n).foldl turn S.safe).length ≤ 1048640 ∧ ∀ e, e ∈ (S.chg.take n).foldl turn S.safe → 0 ≤ e.2 ∧ e.2 < S.files.length ∧ 1 ≤ e.1.size ∧ e.1.size ≤ 32 := by
  refine ⟨foldl_srt _ h.srtS, ?_, foldl_mem _ h.okS (fun c hc h1 => ?_)⟩
  · have h1 := foldl_len (S.chg.take n) S.safe; have h2 := h.lenS; have h3 := h.lenC; have h4 := h.opsB; rw [List.length_take] at h1; omega
  · have := h.okC c (List.mem_of_mem_take hc); exact ⟨this.1, this.2.1, by show 1 ≤ c.2.1.size; omega, this.2.2.2⟩
theorem partI_eq {n all : Int} (h : 0 ≤ all) : partI n all = min (max n 0) all := by
  unfold partI
  split
  · omega
  · split <;> omega
theorem take_foldl {cs : List Chg} {l : List Ent} {i : Nat} (h : i < cs.length) : (cs.take (i + 1)).foldl turn l = turn ((cs.take i).foldl turn l) (cs.getD i chg0) := by
  rw [List.take_succ_eq_append_getElem h, foldl_snoc]
  congr 1
  rw [List.getD_eq_getElem?_getD, List.getElem?_eq_getElem h]; rfl
set_option maxHeartbeats 4000000 in
set_option maxRecDepth 100000 in
theorem disk_Left.calls {w : World} {F : Nat → Prop} {d : Nat} {S : DS} (h : DskAt w F d S) (dN : Int) (hdN : -9223372036854775808 ≤ dN ∧ dN ≤ 9223372036854775807) (At : Option Addr) (ct : Nat) (ts : List Int) (hCt : Kd.C (Kd.int .i64) w At ts.length ts) (hct : ts.length ≤ ct) (hts : ∀ x, x ∈ ts → -9223372036854775808 ≤ x ∧ x ≤ 9223372036854775807) :
    Calls Try.prog 17 #[.pointer (some ⟨d, 0, none⟩), .agg #[.int .i64 dN, .slice At ts.length ct]] w fun e w' => ∃ v, e = .returned v ∧ Kd.R kF 65 w' w.heap.size (fun _ => True) v ((leftOf S dN ts).map mkF) ∧ Below w.heap.size w w' := by
  have HA := Aside0.mk h; obtain ⟨hI, md, ms, vf, vc, fm, h1⟩ := h; obtain ⟨Av, cv, rfl⟩ := Kd.R_slice h1.chg; have HI := Aside0.mk hI; obtain ⟨nd, hnd⟩ : ∃ nd, nd = (partI dN S.chg.length).toNat := ⟨_, rfl⟩; have hpe := partI_eq (n := dN) (all := (S.chg.length : Int)) (by omega); have hnl : nd ≤ S.chg.length := by rw [hnd, hpe]; omega
  have HLD : Aside0 (leftD S dN = (S.chg.take nd).foldl turn S.safe) := ⟨by unfold leftD; rw [hnd]⟩; have HOK := Aside0.mk (leftD_ok hI nd); obtain ⟨i0, hi0, _⟩ := Option.map_eq_some_iff.1 infoC; have hcv := (Kd.R_reads' h1.chg).2.1; have hcut := cut_to (P := Try.prog) 85 89 .i64 Try.underlying85 hi0 Av S.chg.length cv (min (max dN 0) (S.chg.length : Int)) (by omega) (by omega) hcv; rw [← hpe, ← hnd] at hcut; rw [hpe] at hcut; obtain ⟨w1, hw1⟩ : ∃ w1, w1 = w.alloc (.cells #[.int .i64 dN, .slice At ts.length ct] 37) := ⟨_, rfl⟩; have hb1 : Below w.heap.size w w1 := by rw [hw1]; exact below_alloc (Below.refl _ _) _
  have hBc : w1.heap[w.heap.size]? = some (.cells #[.int .i64 dN, .slice At ts.length ct] 37 (0, 0)) := by rw [hw1]; exact blk_new _ _
  have c4 := (blk_cell (h1.below hb1).blk 4).trans rfl; rw [hw1] at c4; have H1 := Aside0.mk (h1.below hb1); have HBC := Aside0.mk hBc; have HB1 := Aside0.mk hb1; have HCT := Aside0.mk (And.intro hCt (And.intro hct hts)); have HCUT := Aside0.mk hcut; have HNL := Aside0.mk hnl; have hn20 : (nd : Int) ≤ 1048576 := by have h2 := hI.lenC; have h3 := hI.opsB; omega
  clear h1 hI hb1 hBc hCt hct hts hpe hnd hcut hcv hi0 hnl; go_enter Try.func17, Try.ntmps17
  go_wp2_with fail
  rw [← hw1]; clear c4 hw1; obtain ⟨Bc, hBc⟩ : ∃ Bc, Bc = w.heap.size := ⟨_, rfl⟩; have HSZ : Aside0 (w.heap.size = Bc) := ⟨hBc.symm⟩; rw [← hBc] at HBC ⊢; clear hBc; refine (maps_Clone.calls H1.out.safe).mono ?_; rintro x w2 ⟨rfl, hm2, hb2⟩; obtain ⟨m5, hm5⟩ : ∃ m5, m5 = w1.heap.size := ⟨_, rfl⟩; have HMS : Aside0 (w1.heap.size = m5) := ⟨hm5.symm⟩; rw [← hm5] at hm2 ⊢; have H2 := Aside0.mk (H1.out.below hb2); have HM2 := Aside0.mk hm2; have HB2 := Aside0.mk (below_step HB1.out hb2); have HBC2 := Aside0.mk (blk_below HBC.out hb2); have HS12 := Aside0.mk hb2.size; clear hm2 hb2 hm5; have c5 := (blk_cell H2.out.blk 5).trans rfl; have b0 := (blk_cell HBC2.out 0).trans rfl; have hcut := HCUT.out; go_wp2_with fail
  refine start_ (n := 16) (S := fun w' => w'.cell? ⟨d, 5, none⟩ = some (.slice Av S.chg.length cv) ∧ w'.cell? ⟨Bc, 0, none⟩ = some (.int .i64 dN)) (ds := []) (bm 16 0) (by kernel_rfl) rfl rfl ⟨c5, b0⟩ (fun hHeld => ?_); refine pure_ (i := 0) (N := some 21) (v:=?_) (a':=?_) (bm 16 1) rfl rfl (by kernel_rfl) (fun _ _ _ h => h) (Or.inl ⟨by rfl, ?_⟩) ?_ ?_; rotate_left
  · intro w'; go_simp; with_reducible rfl
  rotate_left
  · simp only [Act.put,s_a,s_b,s_c,i64_w,i32_w]; rfl
  refine pure_ (i := 1) (N := some 22) (v:=?_) (a':=?_) (bm 16 3) rfl rfl (by kernel_rfl) (fun _ _ _ h => h) (Or.inl ⟨by rfl, ?_⟩) ?_ ?_; rotate_left
  · intro w'; go_simp; with_reducible rfl
  rotate_left
  · simp only [Act.put,s_a,s_b,s_c,i64_w,i32_w]; rfl
  refine pure_ (i := 2) (N := some 23) (v:=?_) (a':=?_) (bm 16 7) rfl rfl (by kernel_rfl) (fun _ _ _ h => h) (Or.inl ⟨by rfl, ?_⟩) ?_ ?_; rotate_left
  · intro w'; go_simp; with_reducible rfl
  rotate_left
  · simp only [Act.put,s_a,s_b,s_c,i64_w,i32_w]; rfl
  refine pure_ (i := 4) (N := some 25) (v:=?_) (a':=?_) (bm 16 23) rfl rfl (by kernel_rfl) (fun _ _ _ h => h) (Or.inl ⟨by rfl, ?_⟩) ?_ ?_; rotate_left
  · intro w'; go_simp; with_reducible rfl
  rotate_left
  · simp only [Act.put,s_a,s_b,s_c,i64_w,i32_w]; rfl
  refine pure_ (i := 7) (N := some 28) (v:=?_) (a':=?_) (bm 16 151) rfl rfl (by kernel_rfl) (fun _ _ _ h => h) (Or.inl ⟨by rfl, ?_⟩) ?_ ?_; rotate_left
  · intro w'; go_simp; with_reducible rfl
  rotate_left
  · simp only [Act.put,s_a,s_b,s_c,i64_w,i32_w]; rfl
  refine pure_ (i := 8) (N := some 29) (v:=?_) (a':=?_) (bm 16 407) rfl rfl (by kernel_rfl) (fun _ _ _ h => h) (Or.inl ⟨by rfl, ?_⟩) ?_ ?_; rotate_left
  · intro w'; go_simp; with_reducible rfl
  rotate_left
  · simp only [Act.put,s_a,s_b,s_c,i64_w,i32_w]; rfl
  refine pure_ (i := 9) (N := some 30) (v:=?_) (a':=?_) (bm 16 919) rfl rfl (by kernel_rfl) (fun _ _ _ h => h) (Or.inl ⟨by rfl, ?_⟩) ?_ ?_; rotate_left
  · intro w'; go_simp; with_reducible rfl
  rotate_left
  · simp only [Act.put,s_a,s_b,s_c,i64_w,i32_w]; rfl
  refine pure_ (i := 15) (N := some 36) (v:=?_) (a':=?_) (bm 16 33687) rfl rfl (by kernel_rfl) (fun _ _ _ h => h) (Or.inl ⟨by rfl, ?_⟩) ?_ ?_; rotate_left
  · intro w'; go_simp; with_reducible rfl
  rotate_left
  · simp only [Act.put,s_a,s_b,s_c,i64_w,i32_w]; rfl
  refine take_ (i := 3) (N := some 24) (v:=?_) (a':=?_) (bm 16 33695) rfl rfl (by kernel_rfl) (fun _ _ _ h => h) (Or.inl ⟨by rfl, ?_⟩) hHeld ?_ ?_; rotate_left
  · rintro w' ⟨s0, s1⟩; go_simp; with_reducible rfl
  rotate_left
  · simp only [Act.put,s_a,s_b,s_c,i64_w,i32_w]; rfl
  refine take_ (i := 5) (N := some 26) (v:=?_) (a':=?_) (bm 16 33727) rfl rfl (by kernel_rfl) (fun _ _ _ h => h) (Or.inl ⟨by rfl, ?_⟩) hHeld ?_ ?_; rotate_left
  · rintro w' ⟨s0, s1⟩; go_simp; with_reducible rfl
  rotate_left
  · simp only [Act.put,s_a,s_b,s_c,i64_w,i32_w]; rfl
  refine pure_ (i := 6) (N := some 27) (v:=?_) (a':=?_) (bm 16 33791) rfl rfl (by kernel_rfl) (fun _ _ _ h => h) (Or.inl ⟨by rfl, ?_⟩) ?_ ?_; rotate_left
  · intro w'; go_simp; with_reducible rfl
  rotate_left
  · simp only [Act.put,s_a,s_b,s_c,i64_w,i32_w]; rfl
  refine take_ (i := 10) (N := some 31) (v:=?_) (a':=?_) (bm 16 34815) rfl rfl (by kernel_rfl) (fun _ _ _ h => h) (Or.inl ⟨by rfl, ?_⟩) hHeld ?_ ?_; rotate_left
  · rintro w' ⟨s0, s1⟩; go_simp; with_reducible rfl
  rotate_left
  · simp only [Act.put,s_a,s_b,s_c,i64_w,i32_w]; rfl
  refine pure_ (i := 11) (N := some 32) (v:=?_) (a':=?_) (bm 16 36863) rfl rfl (by kernel_rfl) (fun _ _ _ h => h) (Or.inl ⟨by rfl, ?_⟩) ?_ ?_; rotate_left
  · intro w'; go_simp; with_reducible rfl
  rotate_left
  · simp only [Act.put,s_a,s_b,s_c,i64_w,i32_w]; rfl
  refine pure_ (i := 12) (N := some 33) (v:=?_) (a':=?_) (bm 16 40959) rfl rfl (by kernel_rfl) (fun _ _ _ h => h) (Or.inl ⟨by rfl, ?_⟩) ?_ ?_; rotate_left
  · intro w'; go_simp; with_reducible rfl
  rotate_left
  · simp only [Act.put,s_a,s_b,s_c,i64_w,i32_w]; rfl
  refine pure_ (i := 13) (N := some 34) (v:=?_) (a':=?_) (bm 16 49151) rfl rfl (by kernel_rfl) (fun _ _ _ h => h) (Or.inl ⟨by rfl, ?_⟩) ?_ ?_; rotate_left
  · intro w'; go_simp; with_reducible rfl
  rotate_left
  · simp only [Act.put,s_a,s_b,s_c,i64_w,i32_w]; rfl
  refine pure_ (i := 14) (N := some 35) (v:=?_) (a':=?_) (bm 16 65535) rfl rfl (by kernel_rfl) (fun _ _ _ h => h) (Or.inl ⟨by rfl, ?_⟩) ?_ ?_; rotate_left
  · intro w'; go_simp; with_reducible rfl
  rotate_left
  · simp only [Act.put,s_a,s_b,s_c,i64_w,i32_w]; rfl
  refine done_ (by kernel_rfl) ?_; clear c5 b0 hcut; go_wp2_with fail
  have HM3 : Aside0 (OwnE w2.drew m5 ((S.chg.take 0).foldl turn S.safe)) := ⟨HM2.out.same rfl⟩; go_loopw [36] (fun v36 wr => ∃ i : Nat, i ≤ nd ∧ v36 = .int .i64 i ∧ Aside0 (OwnE wr m5 ((S.chg.take i).foldl turn S.safe) ∧ KeptL (fun k => k = m5) w2.drew wr)) (fun v36 _ => nd - (intOf v36).toNat)
  case atStart => exact ⟨0, Nat.zero_le _, rfl, ⟨HM3.out, KeptL.refl _ _⟩⟩
  case round =>
    clear HM3; obtain ⟨i, hi, rfl, HR⟩ := hrel; have HBW : Aside0 (Below w.heap.size w wr) := ⟨(HB2.out.drew).trans ((HR.out.2).below (by have := HB2.out.size; exact this) (fun b e => by rw [e, ← HMS.out]; exact HB1.out.size))⟩; have HD : Aside0 (DskM wr F d S (used S) md ms vf (.slice Av S.chg.length cv) fm) := ⟨H2.out.below (below_drew1 (Below.refl _ _)) |>.kept HR.out.2 (fun k hF e => by have h1 := H1.out.lt k hF; have h2 := HMS.out; omega)⟩; by_cases hlt : i < nd
    · obtain ⟨⟨a, b, f⟩, hc⟩ : ∃ c, c = S.chg.getD i chg0 := ⟨_, rfl⟩; have hin : i < S.chg.length := Nat.lt_of_lt_of_le hlt HNL.out; have hcm : (a, b, f) ∈ S.chg := by rw [hc]; exact getD_mem hin
      have hok := HI.out.okC _ hcm; obtain ⟨ad, hA, o0, o1, o2⟩ := chg_at (Kd.R_reads' HD.out.chg).2.2 i hin; rw [← hc] at o0 o1 o2; simp only at o0 o1 o2 hok; subst hA; have HC := Aside0.mk hc; have HIN := Aside0.mk hin; have HOKC := Aside0.mk hok; have HW4 := Aside0.mk (below_alloc (Below.refl wr.heap.size wr) (.cells #[.string a, .string b, .int .i64 f] 89)); have x0 := (blk_cell (blk_new wr (.cells #[.string a, .string b, .int .i64 f] 89 (0, 0))) 0).trans rfl; have x1 := (blk_cell (blk_new wr (.cells #[.string a, .string b, .int .i64 f] 89 (0, 0))) 1).trans rfl; have x2 := (blk_cell (blk_new wr (.cells #[.string a, .string b, .int .i64 f] 89 (0, 0))) 2).trans rfl; clear hc hcm hok hin; go_wp2_with fail
      have hlen2 : ((S.chg.take i).foldl turn S.safe).length ≤ 2097152 := by have := (leftD_ok HI.out i).2.1; omega
      have hfb : (0 : Int) ≤ f ∧ f ≤ 9223372036854775807 := by have h1 := HOKC.out; have h2 := HI.out.lenF; have h3 := HI.out.opsB; omega
      have hO4 : OwnE (wr.alloc (.cells #[.string a, .string b, .int .i64 f] 89)) m5 ((S.chg.take i).foldl turn S.safe) := HR.out.1.same (HW4.out.block m5 HR.out.1.lt); refine (disk_turn.calls hO4 (leftD_ok HI.out i).1 hlen2 a b f HOKC.out.2.2.1 HOKC.out.2.2.2 hfb).mono ?_; rintro x w5 ⟨⟨v5, rfl⟩, hO5, hK5⟩; have HN : Aside0 (OwnE w5 m5 ((S.chg.take (i + 1)).foldl turn S.safe) ∧ KeptL (fun k => k = m5) w2.drew w5) := ⟨by rw [take_foldl HIN.out, ← HC.out]; exact ⟨hO5, (HR.out.2.step HW4.out).trans hK5⟩⟩; clear o0 o1 o2 x0 x1 x2 HR hlen2 hfb hO4 hO5 hK5 HBW HD HW4; go_wp2_with fail
      go_roundw
      case rel => exact ⟨i + 1, by omega, by go_num, HN⟩
      case measure => simp [intOf]; omega
    · obtain rfl : i = nd := by omega
      have HOKL := HOK; obtain ⟨L, hL⟩ : ∃ L, L = (S.chg.take i).foldl turn S.safe := ⟨_, rfl⟩; rw [← hL] at HOKL HLD HR; have hO := HR.out.1; have HBC4 : Aside0 (wr.heap[Bc]? = some (.cells #[.int .i64 dN, .slice At ts.length ct] 37 (0, 0))) := ⟨(HR.out.2.block Bc (blk_lt (blk_drew HBC2.out)) (fun e => by have h1 := blk_lt HBC.out; have h2 := HMS.out; omega)).trans (blk_drew HBC2.out)⟩; clear hL HR; have HO := Aside0.mk hO; clear hO; go_wp2_with fail
      refine (keys.calls wr m5).mono ?_; rintro x w4 ⟨rfl, hw4⟩; have hb4 : Below wr.heap.size wr w4 := by rw [hw4]; exact below_alloc (Below.refl _ _) _
      have hB4 : w4.heap[wr.heap.size]? = some (.cells #[.map (some m5)] 82 (0, 0)) := by rw [hw4]; exact blk_new _ _
      have HB4 := Aside0.mk hb4; have HK4 := Aside0.mk hB4; clear hb4 hB4 hw4; go_wp2_with fail
      have hO4 : OwnE w4 m5 L := HO.out.same (HB4.out.block m5 HO.out.lt); refine (sorted.calls hO4 HOKL.out.1 (by have := HOKL.out.2.1; omega) HK4.out).mono ?_; rintro x w5 ⟨v5, rfl, hr5, hb5⟩; obtain ⟨An, cn, rfl, hcn, hCn⟩ := Kd.R_reads hr5; have HBR5 := Aside0.mk (below_step HB4.out hb5); have HBW5 := Aside0.mk (below_step HBW.out HBR5.out); have HD5 := Aside0.mk (HD.out.below HBR5.out); have HO5 : Aside0 (OwnE w5 m5 L) := ⟨HO.out.same (HBR5.out.block m5 HO.out.lt)⟩; have HBC5 := Aside0.mk (blk_below HBC4.out HBR5.out); obtain ⟨NL, hNL⟩ : ∃ NL, NL = L.length := ⟨_, rfl⟩; rw [List.length_map, ← hNL] at hCn; have HCN := Aside0.mk hCn; have HNL2 := Aside0.mk hNL; have hNB : (NL : Int) ≤ 1048640 := by have := HOKL.out.2.1; omega
      have hLM : (L.map (·.1)).length = NL := by rw [List.length_map, hNL]
      rw [hLM]; clear hr5 hb5 hcn hCn hO4 HO HBW HD HBC4 hNL hLM; go_wp2_with fail
      go_loopw [48, 8] (fun v48 v8 wr2 => ∃ k : Nat, k ≤ NL ∧ v48 = .int .i64 k ∧ Aside0 (Kd.R kF 65 wr2 w5.heap.size (fun _ => True) v8 (((L.take k).map (leftF S ts)).map mkF) ∧ Below w5.heap.size w5 wr2)) (fun v48 _ _ => NL - (intOf v48).toNat)
      case atStart => exact ⟨0, Nat.zero_le _, rfl, ⟨Kd.R_nil _ _ _ _ _, Below.refl _ _⟩⟩
      case round =>
        obtain ⟨k, hk, rfl, HJ⟩ := hrel; by_cases hlt2 : k < NL
        · obtain ⟨⟨nk, fk⟩, he⟩ : ∃ e, e = L.getD k (⟨#[]⟩, 0) := ⟨_, rfl⟩; have hkL : k < L.length := by rw [← HNL2.out]; exact hlt2
          have heL : L[k] = (nk, fk) := by rw [he, List.getD_eq_getElem?_getD, List.getElem?_eq_getElem hkL]; rfl
          have hem : (nk, fk) ∈ L := by rw [← heL]; exact List.getElem_mem hkL
          have hok := HOKL.out.2.2 _ hem; simp only at hok; have hhas : has L nk = some (nk, fk) := has_in HOKL.out.1.nodup hem rfl; obtain ⟨j, hj⟩ : ∃ j : Nat, (j : Int) = fk := ⟨fk.toNat, by omega⟩; subst hj; have hjS : j < S.files.length := by omega
          have HDR := Aside0.mk (HD5.out.below HJ.out.2); have HBCR := Aside0.mk (blk_below HBC5.out HJ.out.2); have hOr : OwnE wr.drew m5 L := HO5.out.same (HJ.out.2.block m5 HO5.out.lt); obtain ⟨i3, hl3, hi3⟩ := dir_get hOr nk (by omega); have hi4 : i3 = (j : Int) := hi3 _ hhas; subst hi4; obtain ⟨adn, hAn, o0⟩ := str_at (Kd.C_below HCN.out HJ.out.2) k (by rw [List.length_map]; exact hkL); have hnm : (L.map (·.1)).getD k ⟨#[]⟩ = nk := by rw [List.getD_eq_getElem?_getD, List.getElem?_map, List.getElem?_eq_getElem hkL, heL]; rfl
          rw [hnm] at o0; subst hAn; obtain ⟨A5, c5, hv5, hb5, hc5, hC5⟩ := HDR.out.fileCell j hjS; have hR5 := (HDR.out.at_ j hjS).2; rw [hv5] at hR5; obtain ⟨fj, hfj⟩ : ∃ fj, fj = S.files.getD j ([], 0) := ⟨_, rfl⟩; have hfo : fileOf S (j : Int) = fj := by rw [hfj]; unfold fileOf; rw [Int.toNat_natCast]
          rw [← hfj] at hb5 hR5 hc5; have hfl := HI.out.fil _ (fileOf_mem (S := S) (i := (j : Int)) (by omega) (by omega)); rw [hfo] at hfl; obtain ⟨b5, hbb⟩ : ∃ b5, b5 = (fm.getD j fm0).1 := ⟨_, rfl⟩; rw [← hbb] at hb5; obtain ⟨Ap, cp, hvf, _, hCp⟩ := Kd.R_reads HDR.out.own; obtain ⟨adp, hAp, hp0⟩ := ptr_at hCp j (by rw [List.length_map, HDR.out.len]; exact hjS); rw [getD_map1 (by rw [HDR.out.len]; exact hjS), ← hbb] at hp0; subst hAp; have hc2 := (blk_cell HDR.out.blk 2).trans rfl; have c2 : wr.cell? ⟨d, 2, none⟩ = some (.slice (some adp) fm.length cp) := by rw [hc2]; show some vf = _; rw [hvf, List.length_map]
          have hj8 : j < fm.length := by rw [HDR.out.len]; exact hjS
          have hjB : (j : Int) ≤ 9223372036854775807 := by have h2 := HI.out.lenF; have h3 := HI.out.opsB; omega
          obtain ⟨sy, hsy⟩ : ∃ sy, sy = fj.2 := ⟨_, rfl⟩; obtain ⟨n5, hn5⟩ : ∃ n5, n5 = fj.1.length := ⟨_, rfl⟩; rw [← hsy, ← hn5] at hb5; rw [← hn5] at hR5 hc5; rw [← hsy, ← hn5] at hfl; have HB5 := Aside0.mk hb5; have HR5 := Aside0.mk hR5; have HFO := Aside0.mk (And.intro hfo (And.intro hsy hn5)); have HKL : Aside0 (k < L.length) := ⟨hkL⟩; have HGE : Aside0 (L.take (k + 1) = L.take k ++ [(nk, (j : Int))]) := ⟨by rw [List.take_succ_eq_append_getElem hkL, heL]⟩; have HFL := Aside0.mk hfl; obtain ⟨ib, hib, _⟩ := Option.map_eq_some_iff.1 infoB; have hcut := fun (x : Int) (h0 : 0 ≤ x) (h1 : x ≤ n5) => cut_to (P := Try.prog) 53 5 .i64 Try.underlying53 hib A5 n5 c5 x h0 h1 hc5; have HCUT5 := Aside0.mk hcut; have HXL : Aside0 ((((L.take k).map (leftF S ts)).map mkF).length + 1 ≤ 1048641) := ⟨by rw [List.length_map, List.length_map, List.length_take]; omega⟩; clear he hem hok hhas hi3 hnm hv5 hb5 hC5 hR5 hfj hfo hbb hvf hCp hc2 hOr hsy hn5 hfl hib hcut hkL heL hc5; have o0' := o0; go_wp2_with fail
          refine start_ (n := 10) (S := fun w' => w'.cell? ⟨d, 2, none⟩ = some (.slice (some adp) fm.length cp) ∧ (Instr.lookup 82 (.map (some m5)) (.string nk) false).run Try.prog w' = .ok (.int .i64 (j : Int)) w' ∧ w'.cell? (adp.add j) = some (.pointer (some ⟨b5, 0, none⟩))) (ds := []) (bm 10 0) (by kernel_rfl) rfl rfl ⟨c2, hl3, hp0⟩ (fun hHeld => ?_); refine pure_ (i := 0) (N := some 52) (v:=?_) (a':=?_) (bm 10 1) rfl rfl (by kernel_rfl) (fun _ _ _ h => h) (Or.inl ⟨by rfl, ?_⟩) ?_ ?_; rotate_left
          · intro w'; go_simp; with_reducible rfl
          rotate_left
          · simp only [Act.put,s_a,s_b,s_c,i64_w,i32_w]; rfl
          refine pure_ (i := 1) (N := some 53) (v:=?_) (a':=?_) (bm 10 3) rfl rfl (by kernel_rfl) (fun _ _ _ h => h) (Or.inl ⟨by rfl, ?_⟩) ?_ ?_; rotate_left
          · intro w'; go_simp; with_reducible rfl
          rotate_left
          · simp only [Act.put,s_a,s_b,s_c,i64_w,i32_w]; rfl
          refine pure_ (i := 2) (N := some 54) (v:=?_) (a':=?_) (bm 10 7) rfl rfl (by kernel_rfl) (fun _ _ _ h => h) (Or.inl ⟨by rfl, ?_⟩) ?_ ?_; rotate_left
          · intro w'; go_simp; with_reducible rfl
          rotate_left
          · simp only [Act.put,s_a,s_b,s_c,i64_w,i32_w]; rfl
          refine pure_ (i := 4) (N := some 56) (v:=?_) (a':=?_) (bm 10 23) rfl rfl (by kernel_rfl) (fun _ _ _ h => h) (Or.inl ⟨by rfl, ?_⟩) ?_ ?_; rotate_left
          · intro w'; go_simp; with_reducible rfl
          rotate_left
          · simp only [Act.put,s_a,s_b,s_c,i64_w,i32_w]; rfl
          refine pure_ (i := 5) (N := some 57) (v:=?_) (a':=?_) (bm 10 55) rfl rfl (by kernel_rfl) (fun _ _ _ h => h) (Or.inl ⟨by rfl, ?_⟩) ?_ ?_; rotate_left
          · intro w'; go_simp; with_reducible rfl
          rotate_left
          · simp only [Act.put,s_a,s_b,s_c,i64_w,i32_w]; rfl
          refine take_ (i := 3) (N := some 55) (v:=?_) (a':=?_) (bm 10 63) rfl rfl (by kernel_rfl) (fun _ _ _ h => h) (Or.inl ⟨by rfl, ?_⟩) hHeld ?_ ?_; rotate_left
          · rintro w' ⟨s0, s1, s2⟩; go_simp; with_reducible rfl
          rotate_left
          · simp only [Act.put,s_a,s_b,s_c,i64_w,i32_w]; rfl
          refine take_ (i := 6) (N := some 58) (v:=?_) (a':=?_) (bm 10 127) rfl rfl (by kernel_rfl) (fun _ _ _ h => h) (Or.inl ⟨by rfl, ?_⟩) hHeld ?_ ?_; rotate_left
          · rintro w' ⟨s0, s1, s2⟩; go_simp; with_reducible rfl
          rotate_left
          · simp only [Act.put,s_a,s_b,s_c,i64_w,i32_w]; rfl
          refine pure_ (i := 7) (N := some 59) (v:=?_) (a':=?_) (bm 10 255) rfl rfl (by kernel_rfl) (fun _ _ _ h => h) (Or.inl ⟨by rfl, ?_⟩) ?_ ?_; rotate_left
          · intro w'; go_simp; with_reducible rfl
          rotate_left
          · simp only [Act.put,s_a,s_b,s_c,i64_w,i32_w]; rfl
          refine take_ (i := 8) (N := some 60) (v:=?_) (a':=?_) (bm 10 511) rfl rfl (by kernel_rfl) (fun _ _ _ h => h) (Or.inl ⟨by rfl, ?_⟩) hHeld ?_ ?_; rotate_left
          · rintro w' ⟨s0, s1, s2⟩; go_simp; with_reducible rfl
          rotate_left
          · simp only [Act.put,s_a,s_b,s_c,i64_w,i32_w]; rfl
          refine pure_ (i := 9) (N := some 11) (v:=?_) (a':=?_) (bm 10 1023) rfl rfl (by kernel_rfl) (fun _ _ _ h => h) (Or.inl ⟨by rfl, ?_⟩) ?_ ?_; rotate_left
          · intro w'; go_simp; with_reducible rfl
          rotate_left
          · simp only [Act.put,s_a,s_b,s_c,i64_w,i32_w]; rfl
          refine done_ (by kernel_rfl) ?_; clear c2 hp0 o0 o0'; have b1 := (blk_cell (blk_drew HBCR.out) 1).trans rfl; have HDW := Aside0.mk (below_drew1 (Below.refl wr.heap.size wr)); have hw1 : wrap64 ((n5 : Int) - sy) = (n5 : Int) - sy := by have := HFL.out; rw [w64L (by omega) (by omega)]
          have HSY : Aside0 (0 ≤ sy ∧ sy ≤ n5 ∧ n5 ≤ 4194304) := ⟨by have := HFL.out; omega⟩; have k0 := (blk_cell HB5.out 0).trans rfl; have k1 := (blk_cell HB5.out 1).trans rfl; by_cases hjt : j < ts.length
          · have t1 : decide ((j : Int) < (ts.length : Int)) = true := decide_eq_true (by omega); obtain ⟨att, hAtt, p0⟩ := int_at (Kd.C_below HCT.out.1 (HBW5.out.trans (HJ.out.2.mono HBW5.out.size))) j hjt; subst hAtt; have HTV := Aside0.mk (HCT.out.2.2 _ (getD_mem (z := (0 : Int)) hjt)); obtain ⟨tv, htv⟩ : ∃ tv, tv = ts.getD j 0 := ⟨_, rfl⟩; rw [← htv] at p0 HTV; have HTG := Aside0.mk htv; clear htv; go_wp2_with fail
            refine start_ (n := 18) (S := fun w' => w'.cell? ⟨Bc, 1, none⟩ = some (.slice (some att) ts.length ct) ∧ w'.cell? (att.add j) = some (.int .i64 tv) ∧ w'.cell? ⟨b5, 0, none⟩ = some (.slice A5 n5 c5) ∧ w'.cell? ⟨b5, 1, none⟩ = some (.int .i64 sy)) (ds := []) (bm 18 0) (by kernel_rfl) rfl rfl ⟨b1, p0, k0, k1⟩ (fun hHeld => ?_); refine pure_ (i := 0) (N := some 69) (v:=?_) (a':=?_) (bm 18 1) rfl rfl (by kernel_rfl) (fun _ _ _ h => h) (Or.inl ⟨by rfl, ?_⟩) ?_ ?_; rotate_left
            · intro w'; go_simp; with_reducible rfl
            rotate_left
            · simp only [Act.put,s_a,s_b,s_c,i64_w,i32_w]; rfl
            refine pure_ (i := 2) (N := some 71) (v:=?_) (a':=?_) (bm 18 5) rfl rfl (by kernel_rfl) (fun _ _ _ h => h) (Or.inl ⟨by rfl, ?_⟩) ?_ ?_; rotate_left
            · intro w'; go_simp; with_reducible rfl
            rotate_left
            · simp only [Act.put,s_a,s_b,s_c,i64_w,i32_w]; rfl
            refine pure_ (i := 6) (N := some 75) (v:=?_) (a':=?_) (bm 18 69) rfl rfl (by kernel_rfl) (fun _ _ _ h => h) (Or.inl ⟨by rfl, ?_⟩) ?_ ?_; rotate_left
            · intro w'; go_simp; with_reducible rfl
            rotate_left
            · simp only [Act.put,s_a,s_b,s_c,i64_w,i32_w]; rfl
            refine pure_ (i := 7) (N := some 76) (v:=?_) (a':=?_) (bm 18 197) rfl rfl (by kernel_rfl) (fun _ _ _ h => h) (Or.inl ⟨by rfl, ?_⟩) ?_ ?_; rotate_left
            · intro w'; go_simp; with_reducible rfl
            rotate_left
            · simp only [Act.put,s_a,s_b,s_c,i64_w,i32_w]; rfl
            refine pure_ (i := 8) (N := some 77) (v:=?_) (a':=?_) (bm 18 453) rfl rfl (by kernel_rfl) (fun _ _ _ h => h) (Or.inl ⟨by rfl, ?_⟩) ?_ ?_; rotate_left
            · intro w'; go_simp; with_reducible rfl
            rotate_left
            · simp only [Act.put,s_a,s_b,s_c,i64_w,i32_w]; rfl
            refine pure_ (i := 11) (N := some 80) (v:=?_) (a':=?_) (bm 18 2501) rfl rfl (by kernel_rfl) (fun _ _ _ h => h) (Or.inl ⟨by rfl, ?_⟩) ?_ ?_; rotate_left
            · intro w'; go_simp; with_reducible rfl
            rotate_left
            · simp only [Act.put,s_a,s_b,s_c,i64_w,i32_w]; rfl
            refine pure_ (i := 12) (N := some 81) (v:=?_) (a':=?_) (bm 18 6597) rfl rfl (by kernel_rfl) (fun _ _ _ h => h) (Or.inl ⟨by rfl, ?_⟩) ?_ ?_; rotate_left
            · intro w'; go_simp; with_reducible rfl
            rotate_left
            · simp only [Act.put,s_a,s_b,s_c,i64_w,i32_w]; rfl
            refine pure_ (i := 13) (N := some 82) (v:=?_) (a':=?_) (bm 18 14789) rfl rfl (by kernel_rfl) (fun _ _ _ h => h) (Or.inl ⟨by rfl, ?_⟩) ?_ ?_; rotate_left
            · intro w'; go_simp; with_reducible rfl
            rotate_left
            · simp only [Act.put,s_a,s_b,s_c,i64_w,i32_w]; rfl
            refine take_ (i := 1) (N := some 70) (v:=?_) (a':=?_) (bm 18 14791) rfl rfl (by kernel_rfl) (fun _ _ _ h => h) (Or.inl ⟨by rfl, ?_⟩) hHeld ?_ ?_; rotate_left
            · rintro w' ⟨s0, s1, s2, s3⟩; go_simp; with_reducible rfl
            rotate_left
            · simp only [Act.put,s_a,s_b,s_c,i64_w,i32_w]; rfl
            refine pure_ (i := 3) (N := some 72) (v:=?_) (a':=?_) (bm 18 14799) rfl rfl (by kernel_rfl) (fun _ _ _ h => h) (Or.inl ⟨by rfl, ?_⟩) ?_ ?_; rotate_left
            · intro w'; go_simp; with_reducible rfl
            rotate_left
            · simp only [Act.put,s_a,s_b,s_c,i64_w,i32_w]; rfl
            refine take_ (i := 4) (N := some 73) (v:=?_) (a':=?_) (bm 18 14815) rfl rfl (by kernel_rfl) (fun _ _ _ h => h) (Or.inl ⟨by rfl, ?_⟩) hHeld ?_ ?_; rotate_left
            · rintro w' ⟨s0, s1, s2, s3⟩; go_simp; with_reducible rfl
            rotate_left
            · simp only [Act.put,s_a,s_b,s_c,i64_w,i32_w]; rfl
            refine pure_ (i := 5) (N := some 74) (v:=?_) (a':=?_) (bm 18 14847) rfl rfl (by kernel_rfl) (fun _ _ _ h => h) (Or.inl ⟨by rfl, ?_⟩) ?_ ?_; rotate_left
            · intro w'; go_simp; with_reducible rfl
            rotate_left
            · simp only [Act.put,s_a,s_b,s_c,i64_w,i32_w]; rfl
            refine take_ (i := 9) (N := some 78) (v:=?_) (a':=?_) (bm 18 15359) rfl rfl (by kernel_rfl) (fun _ _ _ h => h) (Or.inl ⟨by rfl, ?_⟩) hHeld ?_ ?_; rotate_left
            · rintro w' ⟨s0, s1, s2, s3⟩; go_simp; with_reducible rfl
            rotate_left
            · simp only [Act.put,s_a,s_b,s_c,i64_w,i32_w]; rfl
            refine pure_ (i := 10) (N := some 79) (v:=?_) (a':=?_) (bm 18 16383) rfl rfl (by kernel_rfl) (fun _ _ _ h => h) (Or.inl ⟨by rfl, ?_⟩) ?_ ?_; rotate_left
            · intro w'; go_simp; with_reducible rfl
            rotate_left
            · simp only [Act.put,s_a,s_b,s_c,i64_w,i32_w]; rfl
            refine take_ (i := 14) (N := some 83) (v:=?_) (a':=?_) (bm 18 32767) rfl rfl (by kernel_rfl) (fun _ _ _ h => h) (Or.inl ⟨by rfl, ?_⟩) hHeld ?_ ?_; rotate_left
            · rintro w' ⟨s0, s1, s2, s3⟩; go_simp; with_reducible rfl
            rotate_left
            · simp only [Act.put,s_a,s_b,s_c,i64_w,i32_w]; rfl
            refine pure_ (i := 15) (N := some 84) (v:=?_) (a':=?_) (bm 18 65535) rfl rfl (by kernel_rfl) (fun _ _ _ h => h) (Or.inl ⟨by rfl, ?_⟩) ?_ ?_; rotate_left
            · intro w'; go_simp; with_reducible rfl
            rotate_left
            · simp only [Act.put,s_a,s_b,s_c,i64_w,i32_w]; rfl
            refine pure_ (i := 16) (N := some 85) (v:=?_) (a':=?_) (bm 18 131071) rfl rfl (by kernel_rfl) (fun _ _ _ h => h) (Or.inl ⟨by rfl, ?_⟩) ?_ ?_; rotate_left
            · intro w'; go_simp; with_reducible rfl
            rotate_left
            · simp only [Act.put,s_a,s_b,s_c,i64_w,i32_w]; rfl
            refine pure_ (i := 17) (N := some 12) (v:=?_) (a':=?_) (bm 18 262143) rfl rfl (by kernel_rfl) (fun _ _ _ h => h) (Or.inl ⟨by rfl, ?_⟩) ?_ ?_; rotate_left
            · intro w'; go_simp; with_reducible rfl
            rotate_left
            · simp only [Act.put,s_a,s_b,s_c,i64_w,i32_w]; rfl
            refine done_ (by kernel_rfl) ?_; clear b1 p0 t1; go_wp2_with fail
            rw [hw1]; obtain ⟨kk, hkk⟩ : ∃ kk, kk = min (max tv 0) ((n5 : Int) - sy) := ⟨_, rfl⟩; rw [← hkk]; have hkb : 0 ≤ kk ∧ kk ≤ (n5 : Int) - sy := by have := HSY.out; omega
            have HKM : Aside0 (leftF S ts (nk, (j : Int)) = (nk, fj.1.take (sy + kk).toNat)) := ⟨by
              unfold leftF; rw [HFO.out.1]; show (nk, _) = _; rw [if_pos (show (j : Int) < (ts.length : Int) by omega), ← HFO.out.2.1, ← HFO.out.2.2, partI_eq (by have := HSY.out; omega), Int.toNat_natCast, ← HTG.out, ← hkk]⟩
            have hw2 : wrap64 (sy + kk) = sy + kk := by have := HSY.out; rw [w64L (by omega) (by omega)]
            have hcut2 := HCUT5.out (sy + kk) (by have := HSY.out; omega) (by omega); rw [← hw2] at hcut2; rw [hw2] at hcut2; have hcut3 := hcut2; rw [← hw2] at hcut3; obtain ⟨mm, hmm⟩ : ∃ mm, mm = (sy + kk).toNat := ⟨_, rfl⟩; have hmn : mm ≤ n5 := by have := HSY.out; omega
            rw [hw2, ← hmm] at hcut3; rw [← hmm] at hcut2 HKM; have hcut4 : ∀ W : World, (Instr.slice 53 (.slice A5 n5 c5) none (some (.int .i64 (wrap64 (sy + kk)))) none).run Try.prog W = .ok (.slice A5 mm c5) W := by rw [hw2]; exact hcut2
            clear hkk hkb hmm hw1; have HBD : Aside0 (Below wr.heap.size wr (wr.drew.drew.drew)) := ⟨by exact below_drew1 (below_drew1 HDW.out)⟩; refine start_ (n := 18) (S := fun w' => w'.cell? ⟨b5, 0, none⟩ = some (.slice A5 n5 c5) ∧ w'.cell? ⟨b5, 1, none⟩ = some (.int .i64 sy)) (ds := [13, 15, 16]) (bm 18 0) (by kernel_rfl) rfl rfl ⟨k0, k1⟩ (fun hHeld => ?_); refine pure_ (i := 0) (N := some 86) (v:=?_) (a':=?_) (bm 18 1) rfl rfl (by kernel_rfl) (fun _ _ _ h => h) (Or.inl ⟨by rfl, ?_⟩) ?_ ?_; rotate_left
            · intro w'; go_simp; with_reducible rfl
            rotate_left
            · simp only [Act.put,s_a,s_b,s_c,i64_w,i32_w]; rfl
            refine pure_ (i := 1) (N := some 87) (v:=?_) (a':=?_) (bm 18 3) rfl rfl (by kernel_rfl) (fun _ _ _ h => h) (Or.inl ⟨by rfl, ?_⟩) ?_ ?_; rotate_left
            · intro w'; go_simp; with_reducible rfl
            rotate_left
            · simp only [Act.put,s_a,s_b,s_c,i64_w,i32_w]; rfl
            refine pure_ (i := 2) (N := some 88) (v:=?_) (a':=?_) (bm 18 7) rfl rfl (by kernel_rfl) (fun _ _ _ h => h) (Or.inl ⟨by rfl, ?_⟩) ?_ ?_; rotate_left
            · intro w'; go_simp; with_reducible rfl
            rotate_left
            · simp only [Act.put,s_a,s_b,s_c,i64_w,i32_w]; rfl
            refine pure_ (i := 3) (N := some 89) (v:=?_) (a':=?_) (bm 18 15) rfl rfl (by kernel_rfl) (fun _ _ _ h => h) (Or.inl ⟨by rfl, ?_⟩) ?_ ?_; rotate_left
            · intro w'; go_simp; with_reducible rfl
            rotate_left
            · simp only [Act.put,s_a,s_b,s_c,i64_w,i32_w]; rfl
            refine pure_ (i := 4) (N := some 90) (v:=?_) (a':=?_) (bm 18 31) rfl rfl (by kernel_rfl) (fun _ _ _ h => h) (Or.inl ⟨by rfl, ?_⟩) ?_ ?_; rotate_left
            · intro w'; go_simp; with_reducible rfl
            rotate_left
            · simp only [Act.put,s_a,s_b,s_c,i64_w,i32_w]; rfl
            refine pure_ (i := 6) (N := some 92) (v:=?_) (a':=?_) (bm 18 95) rfl rfl (by kernel_rfl) (fun _ _ _ h => h) (Or.inl ⟨by rfl, ?_⟩) ?_ ?_; rotate_left
            · intro w'; go_simp; with_reducible rfl
            rotate_left
            · simp only [Act.put,s_a,s_b,s_c,i64_w,i32_w]; rfl
            refine pure_ (i := 7) (N := some 93) (v:=?_) (a':=?_) (bm 18 223) rfl rfl (by kernel_rfl) (fun _ _ _ h => h) (Or.inl ⟨by rfl, ?_⟩) ?_ ?_; rotate_left
            · intro w'; go_simp; with_reducible rfl
            rotate_left
            · simp only [Act.put,s_a,s_b,s_c,i64_w,i32_w]; rfl
            refine pure_ (i := 8) (N := some 94) (v:=?_) (a':=?_) (bm 18 479) rfl rfl (by kernel_rfl) (fun _ _ _ h => h) (Or.inl ⟨by rfl, ?_⟩) ?_ ?_; rotate_left
            · intro w'; go_simp; with_reducible rfl
            rotate_left
            · simp only [Act.put,s_a,s_b,s_c,i64_w,i32_w]; rfl
            refine pure_ (i := 10) (N := some 96) (v:=?_) (a':=?_) (bm 18 1503) rfl rfl (by kernel_rfl) (fun _ _ _ h => h) (Or.inl ⟨by rfl, ?_⟩) ?_ ?_; rotate_left
            · intro w'; go_simp; with_reducible rfl
            rotate_left
            · simp only [Act.put,s_a,s_b,s_c,i64_w,i32_w]; rfl
            refine take_ (i := 5) (N := some 91) (v:=?_) (a':=?_) (bm 18 1535) rfl rfl (by kernel_rfl) (fun _ _ _ h => h) (Or.inl ⟨by rfl, ?_⟩) hHeld ?_ ?_; rotate_left
            · rintro w' ⟨s0, s1⟩; go_simp; with_reducible rfl
            rotate_left
            · simp only [Act.put,s_a,s_b,s_c,i64_w,i32_w]; rfl
            refine take_ (i := 9) (N := some 95) (v:=?_) (a':=?_) (bm 18 2047) rfl rfl (by kernel_rfl) (fun _ _ _ h => h) (Or.inl ⟨by rfl, ?_⟩) hHeld ?_ ?_; rotate_left
            · rintro w' ⟨s0, s1⟩; go_simp; with_reducible rfl
            rotate_left
            · simp only [Act.put,s_a,s_b,s_c,i64_w,i32_w]; rfl
            refine pure_ (i := 11) (N := some 97) (v:=?_) (a':=?_) (bm 18 4095) rfl rfl (by kernel_rfl) (fun _ _ _ h => h) (Or.inl ⟨by rfl, ?_⟩) ?_ ?_; rotate_left
            · intro w'; go_simp; with_reducible rfl
            rotate_left
            · simp only [Act.put,s_a,s_b,s_c,i64_w,i32_w]; rfl
            refine pure_ (i := 12) (N := some 98) (v:=?_) (a':=?_) (bm 18 8191) rfl rfl (by kernel_rfl) (fun _ _ _ h => h) (Or.inl ⟨by rfl, ?_⟩) ?_ ?_; rotate_left
            · intro w'; go_simp; with_reducible rfl
            rotate_left
            · simp only [Act.put,s_a,s_b,s_c,i64_w,i32_w]; rfl
            refine last_ (i := 13) (N := some 99) (bm 18 16383) rfl rfl (by kernel_rfl) (by decide) (fun K hK => ?_); refine goes_ Try.func52 (by kernel_rfl) rfl #[.slice A5 mm c5] (by rfl) rfl rfl (by simp only [List.map_toArray, List.map_cons, List.map_nil]; rfl) ?_; refine (clone_bytes (Kd.R_take (Kd.R_below HR5.out HBD.out) (by rw [← HFO.out.2.2]; exact hmn)) (by rw [List.length_take]; have := HSY.out; have := HFO.out.2.2; omega)).mono ?_; rintro e w7 ⟨v7, rfl, hr7, hb7⟩; obtain ⟨A7, c7, hv7⟩ := Kd.R_slice hr7; obtain ⟨n7, hn7⟩ : ∃ n7, n7 = (List.take mm fj.1).length := ⟨_, rfl⟩; rw [← hn7] at hv7; clear hn7; subst hv7; have HR7 := Aside0.mk hr7; have HB7 := Aside0.mk hb7; clear hr7 hb7; refine ⟨_, rfl, ?_⟩; refine hK.out _ _ ?_; clear hK K; refine norm_ (a' := ?_) ?_ ?_; rotate_left
            · show Act.put _ (some 99) _ = _; simp only [Act.put,s_a,s_b,s_c,i64_w,i32_w]; rfl
            refine pure_ (i := 14) (N := some 100) (v:=?_) (a':=?_) (bm 18 32767) rfl rfl (by kernel_rfl) (fun _ _ _ h => h) (Or.inl ⟨by rfl, ?_⟩) ?_ ?_; rotate_left
            · intro w'; go_simp; with_reducible rfl
            rotate_left
            · simp only [Act.put,s_a,s_b,s_c,i64_w,i32_w]; rfl
            refine last_ (i := 15) (N := some 101) (bm 18 65535) rfl rfl (by kernel_rfl) (by decide) (fun K hK => ?_); refine value_ (w1 := w7.alloc (.cells #[.string nk, .slice A7 n7 c7] 65)) (v := .slice (some ⟨w7.heap.size, 0, none⟩) 1 1) (by rfl) rfl ?_ ?_
            · go_simp
              try rfl
            refine hK.out _ _ ?_; clear hK K; refine norm_ (a' := ?_) ?_ ?_; rotate_left
            · show Act.put _ (some 101) _ = _; simp only [Act.put,s_a,s_b,s_c,i64_w,i32_w]; rfl
            refine last_ (i := 16) (N := some 102) (bm 18 131071) rfl rfl (by kernel_rfl) (by decide) (fun K hK => ?_); refine Kd.R_append_step kF (w0 := w5) (W := w7) w5.heap.size (by rfl) (.tmp 86) (.tmp 101) 25 65 (.agg #[.string ⟨#[]⟩, .slice none 0 0]) 40 (by rfl) Try.underlying25 info65 rfl (by decide) (by decide) u8 (((L.take k).map (leftF S ts)).map mkF) (mkF (nk, fj.1.take mm)) [.string nk, .slice A7 n7 c7] (fun _ => True) (fun k => some k ≠ u8.ownBlock) (by rfl) (by rfl) ?aP (fun k hk => ⟨trivial, hk⟩) (fun _ _ => trivial) ?aO ?aB ?aS ?aL ?_
            case aP => exact k65_mkM _ _ _ (mkF (nk, fj.1.take mm)) (Kd.R_lower (Kd.R_mono (Kd.R_bound HR7.out) (fun k hk e => by have h1 := Kd.R_lt HJ.out.1 k e.symm; have h2 := hk.2.1; have h3 := HBD.out.size; omega)) (Nat.le_trans HJ.out.2.size HBD.out.size))
            case aO => exact Kd.R_below HJ.out.1 (below_step HBD.out HB7.out)
            case aB => exact below_step HJ.out.2 (below_step HBD.out HB7.out)
            case aS => exact Nat.le_trans HJ.out.2.size (below_step HBD.out HB7.out).size
            case aL => have := HXL.out; omega
            intro v8' w8 ho hb hg hat; have HN : Aside0 (Kd.R kF 65 w8 w5.heap.size (fun _ => True) v8' (((L.take (k + 1)).map (leftF S ts)).map mkF) ∧ Below w5.heap.size w5 w8) := ⟨by rw [HGE.out, List.map_append, List.map_append]; simp only [List.map_cons, List.map_nil]; rw [HKM.out]; exact ⟨ho, hb⟩⟩; clear ho hb hg hat; refine hK.out _ _ ?_; clear hK K; refine norm_ (a' := ?_) ?_ ?_; rotate_left
            · show Act.put _ (some 102) _ = _; simp only [Act.put,s_a,s_b,s_c,i64_w,i32_w]; rfl
            refine pure_ (i := 17) (N := some 8) (v:=?_) (a':=?_) (bm 18 262143) rfl rfl (by kernel_rfl) (fun _ _ _ h => h) (Or.inl ⟨by rfl, ?_⟩) ?_ ?_; rotate_left
            · intro w'; go_simp; with_reducible rfl
            rotate_left
            · simp only [Act.put,s_a,s_b,s_c,i64_w,i32_w]; rfl
            refine done_ (by kernel_rfl) ?_; clear k0 k1 hcut2 hcut4 hmn; go_wp2_with fail
            go_roundw
            case rel => exact ⟨k + 1, by omega, by go_num, HN⟩
            case measure => simp [intOf]; omega
          · have t1 : decide ((j : Int) < (ts.length : Int)) = false := decide_eq_false (by omega); go_wp2_with fail
            clear b1 t1
            have HKM : Aside0 (leftF S ts (nk, (j : Int)) = (nk, fj.1.take sy.toNat)) := ⟨by
              unfold leftF; rw [HFO.out.1]; show (nk, _) = _; rw [if_neg (show ¬ (j : Int) < (ts.length : Int) by omega), ← HFO.out.2.1, Int.add_zero]⟩
            have hw2 : wrap64 sy = sy := by have := HSY.out; rw [w64L (by omega) (by omega)]
            have hcut2 := HCUT5.out sy HSY.out.1 HSY.out.2.1; obtain ⟨mm, hmm⟩ : ∃ mm, mm = sy.toNat := ⟨_, rfl⟩; have hmn : mm ≤ n5 := by have := HSY.out; omega
            rw [← hmm] at hcut2 HKM; have hcut4 : ∀ W : World, (Instr.slice 53 (.slice A5 n5 c5) none (some (.int .i64 (wrap64 sy))) none).run Try.prog W = .ok (.slice A5 mm c5) W := by rw [hw2]; exact hcut2
            clear hmm hw1; have HBD : Aside0 (Below wr.heap.size wr (wr.drew.drew)) := ⟨by exact below_drew1 HDW.out⟩; refine start_ (n := 18) (S := fun w' => w'.cell? ⟨b5, 0, none⟩ = some (.slice A5 n5 c5) ∧ w'.cell? ⟨b5, 1, none⟩ = some (.int .i64 sy)) (ds := [13, 15, 16]) (bm 18 0) (by kernel_rfl) rfl rfl ⟨k0, k1⟩ (fun hHeld => ?_); refine pure_ (i := 0) (N := some 86) (v:=?_) (a':=?_) (bm 18 1) rfl rfl (by kernel_rfl) (fun _ _ _ h => h) (Or.inl ⟨by rfl, ?_⟩) ?_ ?_; rotate_left
            · intro w'; go_simp; with_reducible rfl
            rotate_left
            · simp only [Act.put,s_a,s_b,s_c,i64_w,i32_w]; rfl
            refine pure_ (i := 1) (N := some 87) (v:=?_) (a':=?_) (bm 18 3) rfl rfl (by kernel_rfl) (fun _ _ _ h => h) (Or.inl ⟨by rfl, ?_⟩) ?_ ?_; rotate_left
            · intro w'; go_simp; with_reducible rfl
            rotate_left
            · simp only [Act.put,s_a,s_b,s_c,i64_w,i32_w]; rfl
            refine pure_ (i := 2) (N := some 88) (v:=?_) (a':=?_) (bm 18 7) rfl rfl (by kernel_rfl) (fun _ _ _ h => h) (Or.inl ⟨by rfl, ?_⟩) ?_ ?_; rotate_left
            · intro w'; go_simp; with_reducible rfl
            rotate_left
            · simp only [Act.put,s_a,s_b,s_c,i64_w,i32_w]; rfl
            refine pure_ (i := 3) (N := some 89) (v:=?_) (a':=?_) (bm 18 15) rfl rfl (by kernel_rfl) (fun _ _ _ h => h) (Or.inl ⟨by rfl, ?_⟩) ?_ ?_; rotate_left
            · intro w'; go_simp; with_reducible rfl
            rotate_left
            · simp only [Act.put,s_a,s_b,s_c,i64_w,i32_w]; rfl
            refine pure_ (i := 4) (N := some 90) (v:=?_) (a':=?_) (bm 18 31) rfl rfl (by kernel_rfl) (fun _ _ _ h => h) (Or.inl ⟨by rfl, ?_⟩) ?_ ?_; rotate_left
            · intro w'; go_simp; with_reducible rfl
            rotate_left
            · simp only [Act.put,s_a,s_b,s_c,i64_w,i32_w]; rfl
            refine pure_ (i := 6) (N := some 92) (v:=?_) (a':=?_) (bm 18 95) rfl rfl (by kernel_rfl) (fun _ _ _ h => h) (Or.inl ⟨by rfl, ?_⟩) ?_ ?_; rotate_left
            · intro w'; go_simp; with_reducible rfl
            rotate_left
            · simp only [Act.put,s_a,s_b,s_c,i64_w,i32_w]; rfl
            refine pure_ (i := 7) (N := some 93) (v:=?_) (a':=?_) (bm 18 223) rfl rfl (by kernel_rfl) (fun _ _ _ h => h) (Or.inl ⟨by rfl, ?_⟩) ?_ ?_; rotate_left
            · intro w'; go_simp; with_reducible rfl
            rotate_left
            · simp only [Act.put,s_a,s_b,s_c,i64_w,i32_w]; rfl
            refine pure_ (i := 8) (N := some 94) (v:=?_) (a':=?_) (bm 18 479) rfl rfl (by kernel_rfl) (fun _ _ _ h => h) (Or.inl ⟨by rfl, ?_⟩) ?_ ?_; rotate_left
            · intro w'; go_simp; with_reducible rfl
            rotate_left
            · simp only [Act.put,s_a,s_b,s_c,i64_w,i32_w]; rfl
            refine pure_ (i := 10) (N := some 96) (v:=?_) (a':=?_) (bm 18 1503) rfl rfl (by kernel_rfl) (fun _ _ _ h => h) (Or.inl ⟨by rfl, ?_⟩) ?_ ?_; rotate_left
            · intro w'; go_simp; with_reducible rfl
            rotate_left
            · simp only [Act.put,s_a,s_b,s_c,i64_w,i32_w]; rfl
            refine take_ (i := 5) (N := some 91) (v:=?_) (a':=?_) (bm 18 1535) rfl rfl (by kernel_rfl) (fun _ _ _ h => h) (Or.inl ⟨by rfl, ?_⟩) hHeld ?_ ?_; rotate_left
            · rintro w' ⟨s0, s1⟩; go_simp; with_reducible rfl
            rotate_left
            · simp only [Act.put,s_a,s_b,s_c,i64_w,i32_w]; rfl
            refine take_ (i := 9) (N := some 95) (v:=?_) (a':=?_) (bm 18 2047) rfl rfl (by kernel_rfl) (fun _ _ _ h => h) (Or.inl ⟨by rfl, ?_⟩) hHeld ?_ ?_; rotate_left
            · rintro w' ⟨s0, s1⟩; go_simp; with_reducible rfl
            rotate_left
            · simp only [Act.put,s_a,s_b,s_c,i64_w,i32_w]; rfl
            refine pure_ (i := 11) (N := some 97) (v:=?_) (a':=?_) (bm 18 4095) rfl rfl (by kernel_rfl) (fun _ _ _ h => h) (Or.inl ⟨by rfl, ?_⟩) ?_ ?_; rotate_left
            · intro w'; go_simp; with_reducible rfl
            rotate_left
            · simp only [Act.put,s_a,s_b,s_c,i64_w,i32_w]; rfl
            refine pure_ (i := 12) (N := some 98) (v:=?_) (a':=?_) (bm 18 8191) rfl rfl (by kernel_rfl) (fun _ _ _ h => h) (Or.inl ⟨by rfl, ?_⟩) ?_ ?_; rotate_left
            · intro w'; go_simp; with_reducible rfl
            rotate_left
            · simp only [Act.put,s_a,s_b,s_c,i64_w,i32_w]; rfl
            refine last_ (i := 13) (N := some 99) (bm 18 16383) rfl rfl (by kernel_rfl) (by decide) (fun K hK => ?_); refine goes_ Try.func52 (by kernel_rfl) rfl #[.slice A5 mm c5] (by rfl) rfl rfl (by simp only [List.map_toArray, List.map_cons, List.map_nil]; rfl) ?_; refine (clone_bytes (Kd.R_take (Kd.R_below HR5.out HBD.out) (by rw [← HFO.out.2.2]; exact hmn)) (by rw [List.length_take]; have := HSY.out; have := HFO.out.2.2; omega)).mono ?_; rintro e w7 ⟨v7, rfl, hr7, hb7⟩; obtain ⟨A7, c7, hv7⟩ := Kd.R_slice hr7; obtain ⟨n7, hn7⟩ : ∃ n7, n7 = (List.take mm fj.1).length := ⟨_, rfl⟩; rw [← hn7] at hv7; clear hn7; subst hv7; have HR7 := Aside0.mk hr7; have HB7 := Aside0.mk hb7; clear hr7 hb7; refine ⟨_, rfl, ?_⟩; refine hK.out _ _ ?_; clear hK K; refine norm_ (a' := ?_) ?_ ?_; rotate_left
            · show Act.put _ (some 99) _ = _; simp only [Act.put,s_a,s_b,s_c,i64_w,i32_w]; rfl
            refine pure_ (i := 14) (N := some 100) (v:=?_) (a':=?_) (bm 18 32767) rfl rfl (by kernel_rfl) (fun _ _ _ h => h) (Or.inl ⟨by rfl, ?_⟩) ?_ ?_; rotate_left
            · intro w'; go_simp; with_reducible rfl
            rotate_left
            · simp only [Act.put,s_a,s_b,s_c,i64_w,i32_w]; rfl
            refine last_ (i := 15) (N := some 101) (bm 18 65535) rfl rfl (by kernel_rfl) (by decide) (fun K hK => ?_); refine value_ (w1 := w7.alloc (.cells #[.string nk, .slice A7 n7 c7] 65)) (v := .slice (some ⟨w7.heap.size, 0, none⟩) 1 1) (by rfl) rfl ?_ ?_
            · go_simp
              try rfl
            refine hK.out _ _ ?_; clear hK K; refine norm_ (a' := ?_) ?_ ?_; rotate_left
            · show Act.put _ (some 101) _ = _; simp only [Act.put,s_a,s_b,s_c,i64_w,i32_w]; rfl
            refine last_ (i := 16) (N := some 102) (bm 18 131071) rfl rfl (by kernel_rfl) (by decide) (fun K hK => ?_); refine Kd.R_append_step kF (w0 := w5) (W := w7) w5.heap.size (by rfl) (.tmp 86) (.tmp 101) 25 65 (.agg #[.string ⟨#[]⟩, .slice none 0 0]) 40 (by rfl) Try.underlying25 info65 rfl (by decide) (by decide) u8 (((L.take k).map (leftF S ts)).map mkF) (mkF (nk, fj.1.take mm)) [.string nk, .slice A7 n7 c7] (fun _ => True) (fun k => some k ≠ u8.ownBlock) (by rfl) (by rfl) ?aP (fun k hk => ⟨trivial, hk⟩) (fun _ _ => trivial) ?aO ?aB ?aS ?aL ?_
            case aP => exact k65_mkM _ _ _ (mkF (nk, fj.1.take mm)) (Kd.R_lower (Kd.R_mono (Kd.R_bound HR7.out) (fun k hk e => by have h1 := Kd.R_lt HJ.out.1 k e.symm; have h2 := hk.2.1; have h3 := HBD.out.size; omega)) (Nat.le_trans HJ.out.2.size HBD.out.size))
            case aO => exact Kd.R_below HJ.out.1 (below_step HBD.out HB7.out)
            case aB => exact below_step HJ.out.2 (below_step HBD.out HB7.out)
            case aS => exact Nat.le_trans HJ.out.2.size (below_step HBD.out HB7.out).size
            case aL => have := HXL.out; omega
            intro v8' w8 ho hb hg hat; have HN : Aside0 (Kd.R kF 65 w8 w5.heap.size (fun _ => True) v8' (((L.take (k + 1)).map (leftF S ts)).map mkF) ∧ Below w5.heap.size w5 w8) := ⟨by rw [HGE.out, List.map_append, List.map_append]; simp only [List.map_cons, List.map_nil]; rw [HKM.out]; exact ⟨ho, hb⟩⟩; clear ho hb hg hat; refine hK.out _ _ ?_; clear hK K; refine norm_ (a' := ?_) ?_ ?_; rotate_left
            · show Act.put _ (some 102) _ = _; simp only [Act.put,s_a,s_b,s_c,i64_w,i32_w]; rfl
            refine pure_ (i := 17) (N := some 8) (v:=?_) (a':=?_) (bm 18 262143) rfl rfl (by kernel_rfl) (fun _ _ _ h => h) (Or.inl ⟨by rfl, ?_⟩) ?_ ?_; rotate_left
            · intro w'; go_simp; with_reducible rfl
            rotate_left
            · simp only [Act.put,s_a,s_b,s_c,i64_w,i32_w]; rfl
            refine done_ (by kernel_rfl) ?_; clear k0 k1 hcut2 hcut4 hmn; go_wp2_with fail
            go_roundw
            case rel => exact ⟨k + 1, by omega, by go_num, HN⟩
            case measure => simp [intOf]; omega
        · obtain rfl : NL = k := by omega
          have HFIN : Aside0 (Kd.R kF 65 wr w.heap.size (fun _ => True) u8 ((leftOf S dN ts).map mkF) ∧ Below w.heap.size w wr) := ⟨by
            have e : leftOf S dN ts = (L.take NL).map (leftF S ts) := by unfold leftOf; rw [HLD.out, HNL2.out, List.take_length]
            rw [e]; exact ⟨Kd.R_lower HJ.out.1 HBW5.out.size, HBW5.out.trans (HJ.out.2.mono HBW5.out.size)⟩⟩
          clear HJ; go_wp2_with fail
          go_ret; exact ⟨_, rfl, HFIN.out.1, HFIN.out.2⟩
end Go.Proofs.Ytdekcjopgnfmdaa.Hand
