/- The law's changes: both disks take one act. -/
import Derived.Test.YtdekcjopgnfmdaaDskBK
import Derived.Test.YtdekcjopgnfmdaaDskBJ
namespace Go.Proofs.Ytdekcjopgnfmdaa.Hand
open Go.RowKit Go.Maps Go.Proofs.YtdekcjopgnfmdaaW.PrintWords Go.Proofs.YtdekcjopgnfmdaaW.PrintLast Go.Proofs.YtdekcjopgnfmdaaW.PrintMore Go.Proofs.Ytdekcjopgnfmdaa.Q
set_option linter.unusedVariables false
set_option linter.unusedSimpArgs false
theorem row_block {w : World} {A : Option Addr} {p : List Int} (hC : Kd.C kB w A p.length p) (ad : Addr) (hA : A = some ad) (hp : 0 < p.length) : ad.block < w.heap.size := by
  obtain ⟨ad', cs, hA', hcl, hK, hcc⟩ := Kd.C_get hC 0 0 (by omega) (by omega); rw [hA] at hA'; injection hA' with hA'; subst hA'; rw [show cs = [Value.int .u8 (p.getD (0 : Int).toNat 0)] from hK] at hcc; have h1 := hcc 0 _ rfl; have h2 := block_lt_of_cell h1; exact h2
theorem str_add (p : List Int) : ((strOfNums (p ++ [1, 2, 3])).toList == (strOfNums p ++ (⟨#[1, 2, 3]⟩ : ByteArray)).toList) = true := by
  have h : strOfNums (p ++ [1, 2, 3]) = strOfNums p ++ (⟨#[1, 2, 3]⟩ : ByteArray) := by
    apply ByteArray.ext
    rw [ByteArray.data_append]; unfold strOfNums
    simp
  rw [h]; exact beq_self_eq_true _
theorem add_blk {ag : Addr} (h : ag = ⟨ag.block, 0, none⟩) (k : Nat) : (ag.add k).block = ag.block := by
  obtain ⟨g, o, q⟩ := ag; simp only at h; injection h with _ h1 h2; subst h1 h2; rw [add_at]
theorem str_size (p : List Int) : (strOfNums p).size = p.length := by
  unfold strOfNums; show (p.map _).toArray.size = _
  simp
theorem DuoD.grown {w wb w8 : World} {B d r : Nat} {S T : DS} (h : DuoD w wb (fun k => B ≤ k ∧ k < wb.heap.size) d r S T) (hb : Below wb.heap.size wb w8) : DuoD w w8 (fun k => B ≤ k ∧ k < w8.heap.size) d r S T := by
  obtain ⟨F, G, h1, h2, h3, h4, h5, h6, h7⟩ := h; refine ⟨F, G, h1.below hb, h2.below hb, h3, h4, h5, fun k hk => ?_, below_step h7 hb⟩; rcases Nat.lt_or_ge k wb.heap.size with h8 | h8
  · have := h6 k ⟨hk.1, h8⟩; exact ⟨this.1, this.2.1, hk.2, this.2.2.2⟩
  · exact ⟨fun hf => by have := h1.lt k hf; omega, fun hf => by have := h2.lt k hf; omega, hk.2, Nat.le_trans h7.size h8⟩
set_option maxHeartbeats 4000000 in
set_option maxRecDepth 100000 in
theorem law_changes.calls {w wr : World} {d r : Nat} {S : DS} (h : DuoD w wr (fun _ => False) d r S S) (x : ActD) (hx : ActB x) (A : Option Addr) (c : Nat) (A2 : Option Addr) (c2 : Nat) (hC : Kd.C kB w A x.p.length x.p) (hc : x.p.length ≤ c) :
    Calls Try.prog 31 #[.pointer (some ⟨d, 0, none⟩), .pointer (some ⟨r, 0, none⟩), .agg (actCells x A c A2 c2)] wr fun e w' => e = .returned (.bool true) ∧ DuoD w w' (fun _ => False) d r (actS S x) (actS S x) := by
  obtain ⟨kd, nm, ds, p, n, cd, ct⟩ := x; obtain ⟨hnm, hds, hpb, hpl, hn, -⟩ := hx; simp only at hnm hds hpb hpl hn hC hc; have HNM := Aside0.mk (And.intro hnm hds); have HPB := Aside0.mk (And.intro hpb hpl); have HNB := Aside0.mk hn; obtain ⟨L, hL⟩ : ∃ L, L = p.length := ⟨_, rfl⟩; have HL := Aside0.mk hL; have HPN := Aside0.mk (row_block hC); have H := Aside0.mk (h.made (below_alloc (Below.refl _ _) (.cells #[.int .i64 kd, .string nm, .string ds, .slice A L c, .int .i64 n, .int .i64 cd, .slice A2 ct.length c2] 55))); have BK := Aside0.mk (blk_new wr (.cells #[.int .i64 kd, .string nm, .string ds, .slice A L c, .int .i64 n, .int .i64 cd, .slice A2 ct.length c2] 55)); have HXB : Aside0 (wr.heap.size ≤ wr.heap.size ∧ wr.heap.size < (wr.alloc (.cells #[.int .i64 kd, .string nm, .string ds, .slice A L c, .int .i64 n, .int .i64 cd, .slice A2 ct.length c2] 55)).heap.size) := ⟨⟨Nat.le_refl _, by simp⟩⟩; have HC := Aside0.mk (And.intro hc hC); clear hnm hds hpb hpl hn hC hc h; show Calls Try.prog 31 #[.pointer (some ⟨d, 0, none⟩), .pointer (some ⟨r, 0, none⟩), .agg #[.int .i64 kd, .string nm, .string ds, .slice A p.length c, .int .i64 n, .int .i64 cd, .slice A2 ct.length c2]] wr _; rw [← hL]; clear hL; go_enter Try.func31, Try.ntmps31
  go_upto_region 1 with (fail)
  obtain ⟨wb, hwb⟩ : ∃ wb, wb = wr.alloc (.cells #[.int .i64 kd, .string nm, .string ds, .slice A L c, .int .i64 n, .int .i64 cd, .slice A2 ct.length c2] 55) := ⟨_, rfl⟩; obtain ⟨B, hB⟩ : ∃ B, B = wr.heap.size := ⟨_, rfl⟩; rw [← hwb] at H BK HXB; rw [← hB] at H BK HXB; rw [← hwb]; rw [← hB]; clear hwb hB; have b0 := (blk_cell BK.out 0).trans rfl; have b1 := (blk_cell BK.out 1).trans rfl; have b2 := (blk_cell BK.out 2).trans rfl; have b3 := (blk_cell BK.out 3).trans rfl; have b4 := (blk_cell BK.out 4).trans rfl; by_cases hk1 : kd = 1
  · subst hk1
    skip
    go_upto_region 3 with (fail)
    refine start_ (n := 11) (S := fun w' => w'.cell? ⟨B, 1, none⟩ = some (.string nm)) (ds := []) (bm 11 0) (by kernel_rfl) rfl rfl (b1) (fun hHeld => ?_); refine pure_ (i := 0) (N := some 15) (v:=?_) (a':=?_) (bm 11 1) rfl rfl (by kernel_rfl) (fun _ _ _ h => h) (Or.inl ⟨by rfl, ?_⟩) ?_ ?_; rotate_left
    · intro w'; go_simp; with_reducible rfl
    rotate_left
    · simp only [Act.put,s_a,s_b,s_c,i64_w,i32_w]; rfl
    refine pure_ (i := 1) (N := some 16) (v:=?_) (a':=?_) (bm 11 3) rfl rfl (by kernel_rfl) (fun _ _ _ h => h) (Or.inl ⟨by rfl, ?_⟩) ?_ ?_; rotate_left
    · intro w'; go_simp; with_reducible rfl
    rotate_left
    · simp only [Act.put,s_a,s_b,s_c,i64_w,i32_w]; rfl
    refine pure_ (i := 5) (N := some 20) (v:=?_) (a':=?_) (bm 11 35) rfl rfl (by kernel_rfl) (fun _ _ _ h => h) (Or.inl ⟨by rfl, ?_⟩) ?_ ?_; rotate_left
    · intro w'; go_simp; with_reducible rfl
    rotate_left
    · simp only [Act.put,s_a,s_b,s_c,i64_w,i32_w]; rfl
    refine pure_ (i := 6) (N := some 21) (v:=?_) (a':=?_) (bm 11 99) rfl rfl (by kernel_rfl) (fun _ _ _ h => h) (Or.inl ⟨by rfl, ?_⟩) ?_ ?_; rotate_left
    · intro w'; go_simp; with_reducible rfl
    rotate_left
    · simp only [Act.put,s_a,s_b,s_c,i64_w,i32_w]; rfl
    refine take_ (i := 2) (N := some 17) (v:=?_) (a':=?_) (bm 11 103) rfl rfl (by kernel_rfl) (fun _ _ _ h => h) (Or.inl ⟨by rfl, ?_⟩) hHeld ?_ ?_; rotate_left
    · intro w' s0; go_simp; with_reducible rfl
    rotate_left
    · simp only [Act.put,s_a,s_b,s_c,i64_w,i32_w]; rfl
    refine take_ (i := 7) (N := some 22) (v:=?_) (a':=?_) (bm 11 231) rfl rfl (by kernel_rfl) (fun _ _ _ h => h) (Or.inl ⟨by rfl, ?_⟩) hHeld ?_ ?_; rotate_left
    · intro w' s0; go_simp; with_reducible rfl
    rotate_left
    · simp only [Act.put,s_a,s_b,s_c,i64_w,i32_w]; rfl
    refine one_ (i := 3) (N := some 18) (bm 11 239) rfl rfl (by kernel_rfl) (by decide) (fun K hK => ?_); refine goes_ Try.func38 (by kernel_rfl) rfl #[.pointer (some ⟨d, 0, none⟩), .string nm] (by rfl) rfl rfl (by simp only [List.map_toArray, List.map_cons, List.map_nil]; rfl) ?_; refine (disk_Create.duo (H.out.tell (below_drew1 (Below.refl _ _))) nm HNM.out.1).mono ?_; rintro e w5 ⟨rfl, hh, hx5⟩; have H5 := Aside0.mk hh; have BK5 := Aside0.mk ((hx5 B HXB.out).trans BK.out); clear hh hx5; refine ⟨_, rfl, ?_⟩; refine hK.out _ _ ((blk_cell BK5.out 1).trans rfl) (fun hHeld => ?_); clear hK K; refine norm_ (a' := ?_) ?_ ?_; rotate_left
    · show Act.put _ (some 18) _ = _; simp only [Act.put,s_a,s_b,s_c,i64_w,i32_w]; rfl
    refine one_ (i := 4) (N := some 19) (bm 11 255) rfl rfl (by kernel_rfl) (by decide) (fun K hK => ?_); refine goes_ Try.func12 (by kernel_rfl) rfl #[.int .i64 (opCreate S nm).2] (by rfl) rfl rfl (by simp only [List.map_toArray, List.map_cons, List.map_nil]; rfl) ?_; with_reducible refine (wicketlaw05_num.calls _ _ _ rfl).mono ?_
    rintro e w6 ⟨rfl, hd6⟩; have HB6 := Aside0.mk hd6.below; have BK6 := Aside0.mk (blk_below BK5.out HB6.out); have H6 := Aside0.mk (H5.out.tell HB6.out); clear hd6; refine ⟨_, rfl, ?_⟩; refine hK.out _ _ ((blk_cell BK6.out 1).trans rfl) (fun hHeld => ?_); clear hK K; refine norm_ (a' := ?_) ?_ ?_; rotate_left
    · show Act.put _ (some 19) _ = _; simp only [Act.put,s_a,s_b,s_c,i64_w,i32_w]; rfl
    refine one_ (i := 8) (N := some 23) (bm 11 511) rfl rfl (by kernel_rfl) (by decide) (fun K hK => ?_); refine goes_ Try.func55 (by kernel_rfl) rfl #[.pointer (some ⟨r, 0, none⟩), .string nm] (by rfl) rfl rfl (by simp only [List.map_toArray, List.map_cons, List.map_nil]; rfl) ?_; refine (ref_Create.duo H6.out nm HNM.out.1).mono ?_; rintro e w7 ⟨rfl, hh, hx7⟩; have H7 := Aside0.mk hh; have BK7 := Aside0.mk ((hx7 B HXB.out).trans BK6.out); clear hh hx7; refine ⟨_, rfl, ?_⟩; refine hK.out _ _ ((blk_cell BK7.out 1).trans rfl) (fun hHeld => ?_); clear hK K; refine norm_ (a' := ?_) ?_ ?_; rotate_left
    · show Act.put _ (some 23) _ = _; simp only [Act.put,s_a,s_b,s_c,i64_w,i32_w]; rfl
    refine pure_ (i := 9) (N := some 24) (v:=?_) (a':=?_) (bm 11 1023) rfl rfl (by kernel_rfl) (fun _ _ _ h => h) (Or.inl ⟨by rfl, ?_⟩) ?_ ?_; rotate_left
    · intro w'; go_simp; with_reducible rfl
    rotate_left
    · simp only [Act.put,s_a,s_b,s_c,i64_w,i32_w]; rfl
    refine pure_ (i := 10) (N := some 6) (v:=?_) (a':=?_) (bm 11 2047) rfl rfl (by kernel_rfl) (fun _ _ _ h => h) (Or.inl ⟨by rfl, ?_⟩) ?_ ?_; rotate_left
    · intro w'; go_simp; with_reducible rfl
    rotate_left
    · simp only [Act.put,s_a,s_b,s_c,i64_w,i32_w]; rfl
    refine done_ (by kernel_rfl) ?_; go_wp2_with fail
    go_ret; have he : actS S ⟨1, nm, ds, p, n, cd, ct⟩ = (opCreate S nm).1 := rfl; rw [he]; exact ⟨by first | rfl | simp, H7.out.free⟩
  have k1 : (kd == 1) = false := beq_eq_false_iff_ne.mpr hk1; by_cases hk2 : kd = 2
  · subst hk2; clear hk1; clear b1 b2 b4; go_upto_region 5 with (fail)
    clear b0; go_upto_region 6 with (first | ((with_reducible refine gate_dst (N := 27) rfl ?_); refine Kd.R_lit (Kd.int .u8) (w0 := wb) wb.heap.size 5 rfl (N := 27) rfl (xs := ([] : List Int)) (inner := []) (ok := fun _ => True) (okp := fun _ => True) ?hrun (Kd.reps_scalar (enc := Value.int .u8) []) (fun _ h => h) trivial (Below.refl _ _) (Nat.le_refl _) (by simp) ?_; (case hrun => first | (go_simp; done) | (go_simp; rfl)); intro v5 w5 ho hb hg hat; have HO5 := Aside0.mk ho; have HB5 := Aside0.mk hb; have BK5 := Aside0.mk (blk_below BK.out HB5.out); clear ho hb hg hat b3; have b3 := (blk_cell BK5.out 3).trans rfl) | ((with_reducible refine gate_builtin (b := .append) (xs := #[.tmp 27, .tmp 29]) rfl ?_); at_builtin; refine Kd.R_append_rows (Kd.int .u8) (w0 := wb) wb.heap.size rfl (.tmp 27) (.tmp 29) 53 5 (.int .u8 0) 1 rfl Try.underlying53 infoB rfl (by decide) (by decide) v5 ([] : List Int) p A L c (fun _ => True) (fun _ => False) rfl rfl HO5.out (HL.out ▸ Kd.C_below HC.out.2 (below_step H.out.below HB5.out)) (fun _ _ h => h) (fun _ h => h.elim) (fun _ _ => trivial) HB5.out HB5.out.size (by simp only [List.length_nil]; have := HPB.out.2; have := HL.out; omega) ?_; intro v6 w6 ho hb hg hat; rw [List.nil_append] at ho; have HO6 := Aside0.mk ho; have HB6 := Aside0.mk hb; clear ho hb hg hat) | ((with_reducible refine gate_dst (N := 31) rfl ?_); refine Kd.R_lit (Kd.int .u8) (w0 := wb) wb.heap.size 5 rfl (N := 31) rfl (xs := ([1, 2, 3] : List Int)) (inner := [.int .u8 1, .int .u8 2, .int .u8 3]) (ok := fun _ => True) (okp := fun _ => True) ?hrun (Kd.reps_scalar (enc := Value.int .u8) [1, 2, 3]) (fun _ h => h) trivial HB6.out HB6.out.size (by decide) ?_; (case hrun => first | (go_simp; done) | (go_simp; rfl)); intro v7 w7 ho hb hg hat; obtain ⟨A7, c7, hv7⟩ := Kd.R_slice ho; obtain ⟨n7, hn7⟩ : ∃ n7, n7 = ([1, 2, 3] : List Int).length := ⟨_, rfl⟩; rw [← hn7] at hv7; subst hv7; have HN7 := Aside0.mk hn7; have HO7 := Aside0.mk ho; have HB7 := Aside0.mk hb; have HO67 := Aside0.mk (Kd.R_grown HO6.out hg (fun _ _ => by simp)); clear hn7 ho hb hg hat) | ((with_reducible refine gate_builtin (b := .append) (xs := #[.tmp 30, .tmp 31]) rfl ?_); at_builtin; refine Kd.R_append_rows (Kd.int .u8) (w0 := wb) wb.heap.size rfl (.tmp 30) (.tmp 31) 53 5 (.int .u8 0) 1 rfl Try.underlying53 infoB rfl (by decide) (by decide) v6 p [1, 2, 3] A7 n7 c7 (fun _ => True) (fun _ => False) rfl rfl HO67.out (show ReadsRow (Kd.K (Kd.int .u8) w7) 1 w7 A7 n7 [1, 2, 3] from by rw [HN7.out]; exact (Kd.R_reads' HO7.out).2.2) (fun _ _ h => h) (fun _ h => h.elim) (fun _ _ => trivial) HB7.out HB7.out.size (by have h1 := HPB.out.2; have h2 : n7 = 3 := HN7.out; omega) ?_; intro v8 w8 ho hb hg hat; have HO8 := Aside0.mk ho; have HB8 := Aside0.mk hb; clear ho hb hg hat)); obtain ⟨A8, c8, hv8⟩ := Kd.R_slice HO8.out; obtain ⟨n8, hn8⟩ : ∃ n8, n8 = (p ++ [1, 2, 3]).length := ⟨_, rfl⟩; rw [← hn8] at hv8; have HN8 : Aside0 (n8 = L + 3) := ⟨by rw [hn8, List.length_append, HL.out]; rfl⟩; clear hn8; subst hv8; have hLc : (L : Int) ≤ c8 := by have h1 := (Kd.R_reads' HO8.out).2.1; have h2 := HN8.out; omega
    have HAG : Aside0 (∀ ad, A8 = some ad → B ≤ ad.block ∧ ad.block < w8.heap.size) := ⟨fun ad e => by subst e; have h1 := Kd.R_base HO8.out ad.block (by simp [Value.ownBlock]); have h2 := Kd.R_lt HO8.out ad.block (by simp [Value.ownBlock]); have h3 := HXB.out.2; omega⟩; have HCP : Aside0 (Kd.C kB w8 A8 L p) := ⟨by have h1 := Kd.C_take (m := L) (Kd.R_reads' HO8.out).2.2 (by rw [List.length_append]; have := HL.out; omega); rw [HL.out, List.take_left] at h1; rw [HL.out]; exact h1⟩; have H8 := Aside0.mk (H.out.grown HB8.out); have BK8 := Aside0.mk (blk_below BK.out HB8.out); have hApp := fun (w2 : World) (hD : DuoD w w2 (fun k => B ≤ k ∧ k < w8.heap.size) d r S S) (hC2 : Kd.C kB w2 A8 p.length p) => disk_Append.duo hD nm HNM.out.1 A8 c8 p hC2 (fun x hx => HPB.out.1 x hx) (by have := HPB.out.2; omega) (fun ad e hp => .inr (HAG.out ad e)); rw [← HL.out] at hApp; have HAPP := Aside0.mk hApp; clear hApp b3; have b1 := (blk_cell BK8.out 1).trans rfl; have b3 := (blk_cell BK8.out 3).trans rfl; refine start_ (n := 10) (S := fun w' => w'.cell? ⟨B, 1, none⟩ = some (.string nm) ∧ w'.cell? ⟨B, 3, none⟩ = some (.slice A L c)) (ds := []) (bm 10 0) (by kernel_rfl) rfl rfl ⟨b1, b3⟩ (fun hHeld => ?_); refine pure_ (i := 0) (N := some 33) (v:=?_) (a':=?_) (bm 10 1) rfl rfl (by kernel_rfl) (fun _ _ _ h => h) (Or.inl ⟨by rfl, ?_⟩) ?_ ?_; rotate_left
    · intro w'; go_simp; with_reducible rfl
    rotate_left
    · simp only [Act.put,s_a,s_b,s_c,i64_w,i32_w]; rfl
    refine pure_ (i := 1) (N := some 34) (v:=?_) (a':=?_) (bm 10 3) rfl rfl (by kernel_rfl) (fun _ _ _ h => h) (Or.inl ⟨by rfl, ?_⟩) ?_ ?_; rotate_left
    · intro w'; go_simp; with_reducible rfl
    rotate_left
    · simp only [Act.put,s_a,s_b,s_c,i64_w,i32_w]; rfl
    refine pure_ (i := 3) (N := some 36) (v:=?_) (a':=?_) (bm 10 11) rfl rfl (by kernel_rfl) (fun _ _ _ h => h) (Or.inl ⟨by rfl, ?_⟩) ?_ ?_; rotate_left
    · intro w'; go_simp; with_reducible rfl
    rotate_left
    · simp only [Act.put,s_a,s_b,s_c,i64_w,i32_w]; rfl
    refine pure_ (i := 4) (N := some 37) (v:=?_) (a':=?_) (bm 10 27) rfl rfl (by kernel_rfl) (fun _ _ _ h => h) (Or.inl ⟨by rfl, ?_⟩) ?_ ?_; rotate_left
    · intro w'; go_simp; with_reducible rfl
    rotate_left
    · simp only [Act.put,s_a,s_b,s_c,i64_w,i32_w]; rfl
    refine take_ (i := 2) (N := some 35) (v:=?_) (a':=?_) (bm 10 31) rfl rfl (by kernel_rfl) (fun _ _ _ h => h) (Or.inl ⟨by rfl, ?_⟩) hHeld ?_ ?_; rotate_left
    · rintro w' ⟨s0, s1⟩; go_simp; with_reducible rfl
    rotate_left
    · simp only [Act.put,s_a,s_b,s_c,i64_w,i32_w]; rfl
    refine take_ (i := 5) (N := some 38) (v:=?_) (a':=?_) (bm 10 63) rfl rfl (by kernel_rfl) (fun _ _ _ h => h) (Or.inl ⟨by rfl, ?_⟩) hHeld ?_ ?_; rotate_left
    · rintro w' ⟨s0, s1⟩; go_simp; with_reducible rfl
    rotate_left
    · simp only [Act.put,s_a,s_b,s_c,i64_w,i32_w]; rfl
    refine pure_ (i := 6) (N := some 39) (v:=?_) (a':=?_) (bm 10 127) rfl rfl (by kernel_rfl) (fun _ _ _ h => h) (Or.inl ⟨by rfl, ?_⟩) ?_ ?_; rotate_left
    · intro w'; go_simp; with_reducible rfl
    rotate_left
    · simp only [Act.put,s_a,s_b,s_c,i64_w,i32_w]; rfl
    refine pure_ (i := 7) (N := some 40) (v:=?_) (a':=?_) (bm 10 255) rfl rfl (by kernel_rfl) (fun _ _ _ h => h) (Or.inl ⟨by rfl, ?_⟩) ?_ ?_; rotate_left
    · intro w'; go_simp; with_reducible rfl
    rotate_left
    · simp only [Act.put,s_a,s_b,s_c,i64_w,i32_w]; rfl
    refine one_ (i := 8) (N := some 41) (bm 10 511) rfl rfl (by kernel_rfl) (by decide) (fun K hK => ?_); refine goes_ Try.func39 (by kernel_rfl) rfl #[.pointer (some ⟨d, 0, none⟩), .string nm, .slice A8 L c8] (by rfl) rfl rfl (by simp only [List.map_toArray, List.map_cons, List.map_nil]; rfl) ?_; refine (HAPP.out _ (H8.out.tell (below_drew1 (Below.refl _ _))) (Kd.C_below HCP.out (below_drew1 (Below.refl _ _)))).mono ?_; rintro e w9 ⟨rfl, hh, hx9⟩; have H9 := Aside0.mk hh; have BK9 := Aside0.mk ((hx9 B ⟨Nat.le_refl _, blk_lt BK8.out⟩).trans BK8.out); have HO9 : Aside0 (Kd.R kB 5 w9 wb.heap.size (fun _ => True) (.slice A8 n8 c8) (p ++ [1, 2, 3])) := ⟨Kd.R_mono (Kd.R_move (Kd.R_bound HO8.out) (fun k hk => hx9 k ⟨by have h1 := hk.2.1; have h2 := HXB.out.2; omega, hk.2.2.1⟩)) (fun _ _ => trivial)⟩; clear hh hx9; refine ⟨_, rfl, ?_⟩; refine hK.out _ _ ⟨(blk_cell BK9.out 1).trans rfl, (blk_cell BK9.out 3).trans rfl⟩ (fun hHeld => ?_); clear hK K; refine norm_ (a' := ?_) ?_ ?_; rotate_left
    · show Act.put _ (some 41) _ = _; simp only [Act.put,s_a,s_b,s_c,i64_w,i32_w]; rfl
    refine pure_ (i := 9) (N := some 8) (v:=?_) (a':=?_) (bm 10 1023) rfl rfl (by kernel_rfl) (fun _ _ _ h => h) (Or.inl ⟨by rfl, ?_⟩) ?_ ?_; rotate_left
    · intro w'; go_simp; with_reducible rfl
    rotate_left
    · simp only [Act.put,s_a,s_b,s_c,i64_w,i32_w]; rfl
    refine done_ (by kernel_rfl) ?_; clear b1 b3 hLc HAPP; have b3 := (blk_cell BK9.out 3).trans rfl; have k5 := conv_str (c := c8) (show Kd.C kB w9 A8 n8 (p ++ [1, 2, 3]) from by have h1 := (Kd.R_reads' HO9.out); rw [h1.1]; exact h1.2.2); have k6 := conv_str (c := c) (show Kd.C kB w9 A L p from HL.out ▸ Kd.C_below HC.out.2 H9.out.below); have hst := str_add p; have hsz : ¬ 9223372036854775807 < (strOfNums p).size + 3 := by rw [str_size]; have := HPB.out.2; omega
    go_upto_region 9 with (fail)
    clear k5 k6 hst hsz b3; have hn8 : (n8 : Int) ≤ 9223372036854775807 := by have h1 := HN8.out; have h2 := HPB.out.2; have h3 := HL.out; omega
    obtain ⟨S1, hS1⟩ : ∃ S1, S1 = opAppend S nm p := ⟨_, rfl⟩; have HS1 := Aside0.mk hS1; rw [← hS1] at H9; rw [← hS1]; clear hS1; go_loopw [10] (fun v10 wq => ∃ k : Nat, k ≤ n8 ∧ v10 = .int .i64 k ∧ Aside0 (DuoD w wq (fun k => B ≤ k ∧ k < w8.heap.size) d r S1.1 S ∧ wq.heap[B]? = some (.cells #[.int .i64 2, .string nm, .string ds, .slice A L c, .int .i64 n, .int .i64 cd, .slice A2 ct.length c2] 55 (0, 0)) ∧ ∃ bs : List Int, Kd.R kB 5 wq wb.heap.size (fun _ => True) (.slice A8 n8 c8) bs)) (fun v10 _ => n8 - (intOf v10).toNat)
    case atStart => exact ⟨0, Nat.zero_le _, rfl, H9.out, BK9.out, _, HO9.out⟩
    case round =>
      clear H9 BK9 HO9; obtain ⟨k, hk, rfl, HQ⟩ := hrel; by_cases hlk : k < n8
      · obtain ⟨bs, hby⟩ := HQ.out.2.2; obtain ⟨ag, x, hA1, hpg, y1, y2, hbg, hbk⟩ := byte_ownB hby hlk; subst hA1; have HP := Aside0.mk (And.intro hpg (And.intro hbg hbk)); have HY := Aside0.mk hby; clear hpg hbg hbk hby; go_wp2_with fail
        obtain ⟨t1, t2, t3⟩ := put_byteB (k := k) HP.out.1 HP.out.2.2 HP.out.2.1 238; have hx := HAG.out ag rfl; have hd := HQ.out.1.write ((KeptL.refl (fun k => B ≤ k ∧ k < w8.heap.size) wr).setCell (ag.add k) (.int .u8 238) (.inl (by rw [add_blk HP.out.1 k]; exact hx))); obtain ⟨bs', _, hb'⟩ := bytes_turn HY.out t1; have HN2 := Aside0.mk (And.intro hd (And.intro (t1.other B _ HQ.out.2.1 (fun c e => by injection e with _ e _; exact absurd e (by decide))) (Exists.intro bs' hb'))); clear t1 t2 t3 hx hd hb' y1 y2; go_roundw
        case rel => exact ⟨k + 1, by omega, by go_num, HN2⟩
        case measure => simp [intOf]; omega
      · have HRAPP := Aside0.mk (by
          have hApp := fun (w2 : World) (hD : DuoD w w2 (fun k => B ≤ k ∧ k < w8.heap.size) d r S1.1 S) (hC2 : Kd.C kB w2 A p.length p) => ref_Append.duo hD nm HNM.out.1 A c p hC2 (fun x hx => HPB.out.1 x hx) (by have := HPB.out.2; omega) (fun ad e hp => .inl (HPN.out ad e hp)); rw [← HL.out, ← HS1.out] at hApp; exact hApp)
        have HPC : Aside0 (Kd.C kB w A L p) := ⟨HL.out ▸ HC.out.2⟩; have b1 := (blk_cell HQ.out.2.1 1).trans rfl; have b3 := (blk_cell HQ.out.2.1 3).trans rfl; go_upto_region 12 with (fail)
        refine start_ (n := 13) (S := fun w' => w'.cell? ⟨B, 1, none⟩ = some (.string nm) ∧ w'.cell? ⟨B, 3, none⟩ = some (.slice A L c)) (ds := []) (bm 13 0) (by kernel_rfl) rfl rfl ⟨b1, b3⟩ (fun hHeld => ?_); refine pure_ (i := 0) (N := some 58) (v:=?_) (a':=?_) (bm 13 1) rfl rfl (by kernel_rfl) (fun _ _ _ h => h) (Or.inl ⟨by rfl, ?_⟩) ?_ ?_; rotate_left
        · intro w'; go_simp; with_reducible rfl
        rotate_left
        · simp only [Act.put,s_a,s_b,s_c,i64_w,i32_w]; rfl
        refine pure_ (i := 2) (N := some 60) (v:=?_) (a':=?_) (bm 13 5) rfl rfl (by kernel_rfl) (fun _ _ _ h => h) (Or.inl ⟨by rfl, ?_⟩) ?_ ?_; rotate_left
        · intro w'; go_simp; with_reducible rfl
        rotate_left
        · simp only [Act.put,s_a,s_b,s_c,i64_w,i32_w]; rfl
        refine pure_ (i := 3) (N := some 61) (v:=?_) (a':=?_) (bm 13 13) rfl rfl (by kernel_rfl) (fun _ _ _ h => h) (Or.inl ⟨by rfl, ?_⟩) ?_ ?_; rotate_left
        · intro w'; go_simp; with_reducible rfl
        rotate_left
        · simp only [Act.put,s_a,s_b,s_c,i64_w,i32_w]; rfl
        refine pure_ (i := 5) (N := some 63) (v:=?_) (a':=?_) (bm 13 45) rfl rfl (by kernel_rfl) (fun _ _ _ h => h) (Or.inl ⟨by rfl, ?_⟩) ?_ ?_; rotate_left
        · intro w'; go_simp; with_reducible rfl
        rotate_left
        · simp only [Act.put,s_a,s_b,s_c,i64_w,i32_w]; rfl
        refine take_ (i := 4) (N := some 62) (v:=?_) (a':=?_) (bm 13 61) rfl rfl (by kernel_rfl) (fun _ _ _ h => h) (Or.inl ⟨by rfl, ?_⟩) hHeld ?_ ?_; rotate_left
        · rintro w' ⟨s0, s1⟩; go_simp; with_reducible rfl
        rotate_left
        · simp only [Act.put,s_a,s_b,s_c,i64_w,i32_w]; rfl
        refine take_ (i := 6) (N := some 64) (v:=?_) (a':=?_) (bm 13 125) rfl rfl (by kernel_rfl) (fun _ _ _ h => h) (Or.inl ⟨by rfl, ?_⟩) hHeld ?_ ?_; rotate_left
        · rintro w' ⟨s0, s1⟩; go_simp; with_reducible rfl
        rotate_left
        · simp only [Act.put,s_a,s_b,s_c,i64_w,i32_w]; rfl
        refine one_ (i := 1) (N := some 59) (bm 13 127) rfl rfl (by kernel_rfl) (by decide) (fun K hK => ?_); refine goes_ Try.func12 (by kernel_rfl) rfl #[.int .i64 S1.2] (by rfl) rfl rfl (by simp only [List.map_toArray, List.map_cons, List.map_nil]; rfl) ?_; with_reducible refine (wicketlaw05_num.calls _ _ _ rfl).mono ?_
        rintro e w10 ⟨rfl, hd10⟩; have HB10 := Aside0.mk (below_step (below_drew1 (Below.refl wr.heap.size wr)) hd10.below); have BK10 := Aside0.mk (blk_below HQ.out.2.1 HB10.out); have H10 := Aside0.mk (HQ.out.1.tell HB10.out); clear hd10; refine ⟨_, rfl, ?_⟩; refine hK.out _ _ ⟨(blk_cell BK10.out 1).trans rfl, (blk_cell BK10.out 3).trans rfl⟩ (fun hHeld => ?_); clear hK K; refine norm_ (a' := ?_) ?_ ?_; rotate_left
        · show Act.put _ (some 59) _ = _; simp only [Act.put,s_a,s_b,s_c,i64_w,i32_w]; rfl
        refine one_ (i := 7) (N := some 65) (bm 13 255) rfl rfl (by kernel_rfl) (by decide) (fun K hK => ?_); refine goes_ Try.func56 (by kernel_rfl) rfl #[.pointer (some ⟨r, 0, none⟩), .string nm, .slice A L c] (by rfl) rfl rfl (by simp only [List.map_toArray, List.map_cons, List.map_nil]; rfl) ?_; refine (HRAPP.out _ H10.out (Kd.C_below HPC.out H10.out.below)).mono ?_; rintro e w11 ⟨rfl, hh, hx11⟩; have H11 := Aside0.mk hh; have BK11 := Aside0.mk ((hx11 B ⟨Nat.le_refl _, Nat.lt_of_lt_of_le (blk_lt BK8.out) (Nat.le_refl _)⟩).trans BK10.out); clear hh hx11; refine ⟨_, rfl, ?_⟩; refine hK.out _ _ ⟨(blk_cell BK11.out 1).trans rfl, (blk_cell BK11.out 3).trans rfl⟩ (fun hHeld => ?_); clear hK K; refine norm_ (a' := ?_) ?_ ?_; rotate_left
        · show Act.put _ (some 65) _ = _; simp only [Act.put,s_a,s_b,s_c,i64_w,i32_w]; rfl
        refine pure_ (i := 8) (N := some 66) (v:=?_) (a':=?_) (bm 13 511) rfl rfl (by kernel_rfl) (fun _ _ _ h => h) (Or.inl ⟨by rfl, ?_⟩) ?_ ?_; rotate_left
        · intro w'; go_simp; with_reducible rfl
        rotate_left
        · simp only [Act.put,s_a,s_b,s_c,i64_w,i32_w]; rfl
        refine pure_ (i := 9) (N := some 67) (v:=?_) (a':=?_) (bm 13 1023) rfl rfl (by kernel_rfl) (fun _ _ _ h => h) (Or.inl ⟨by rfl, ?_⟩) ?_ ?_; rotate_left
        · intro w'; go_simp; with_reducible rfl
        rotate_left
        · simp only [Act.put,s_a,s_b,s_c,i64_w,i32_w]; rfl
        refine pure_ (i := 10) (N := some 68) (v:=?_) (a':=?_) (bm 13 2047) rfl rfl (by kernel_rfl) (fun _ _ _ h => h) (Or.inl ⟨by rfl, ?_⟩) ?_ ?_; rotate_left
        · intro w'; go_simp; with_reducible rfl
        rotate_left
        · simp only [Act.put,s_a,s_b,s_c,i64_w,i32_w]; rfl
        refine pure_ (i := 11) (N := some 69) (v:=?_) (a':=?_) (bm 13 4095) rfl rfl (by kernel_rfl) (fun _ _ _ h => h) (Or.inl ⟨by rfl, ?_⟩) ?_ ?_; rotate_left
        · intro w'; go_simp; with_reducible rfl
        rotate_left
        · simp only [Act.put,s_a,s_b,s_c,i64_w,i32_w]; rfl
        refine pure_ (i := 12) (N := some 6) (v:=?_) (a':=?_) (bm 13 8191) rfl rfl (by kernel_rfl) (fun _ _ _ h => h) (Or.inl ⟨by rfl, ?_⟩) ?_ ?_; rotate_left
        · intro w'; go_simp; with_reducible rfl
        rotate_left
        · simp only [Act.put,s_a,s_b,s_c,i64_w,i32_w]; rfl
        refine done_ (by kernel_rfl) ?_; go_wp2_with fail
        go_ret; have he : actS S ⟨2, nm, ds, p, n, cd, ct⟩ = (opAppend S nm p).1 := rfl; rw [he, ← HS1.out]; exact ⟨by first | rfl | simp, H11.out.free⟩
  have k2 : (kd == 2) = false := beq_eq_false_iff_ne.mpr hk2; by_cases hk3 : kd = 3
  · subst hk3; clear hk1 hk2; go_upto_region 14 with (fail)
    refine start_ (n := 11) (S := fun w' => w'.cell? ⟨B, 1, none⟩ = some (.string nm)) (ds := []) (bm 11 0) (by kernel_rfl) rfl rfl (b1) (fun hHeld => ?_); refine pure_ (i := 0) (N := some 72) (v:=?_) (a':=?_) (bm 11 1) rfl rfl (by kernel_rfl) (fun _ _ _ h => h) (Or.inl ⟨by rfl, ?_⟩) ?_ ?_; rotate_left
    · intro w'; go_simp; with_reducible rfl
    rotate_left
    · simp only [Act.put,s_a,s_b,s_c,i64_w,i32_w]; rfl
    refine pure_ (i := 1) (N := some 73) (v:=?_) (a':=?_) (bm 11 3) rfl rfl (by kernel_rfl) (fun _ _ _ h => h) (Or.inl ⟨by rfl, ?_⟩) ?_ ?_; rotate_left
    · intro w'; go_simp; with_reducible rfl
    rotate_left
    · simp only [Act.put,s_a,s_b,s_c,i64_w,i32_w]; rfl
    refine pure_ (i := 5) (N := some 77) (v:=?_) (a':=?_) (bm 11 35) rfl rfl (by kernel_rfl) (fun _ _ _ h => h) (Or.inl ⟨by rfl, ?_⟩) ?_ ?_; rotate_left
    · intro w'; go_simp; with_reducible rfl
    rotate_left
    · simp only [Act.put,s_a,s_b,s_c,i64_w,i32_w]; rfl
    refine pure_ (i := 6) (N := some 78) (v:=?_) (a':=?_) (bm 11 99) rfl rfl (by kernel_rfl) (fun _ _ _ h => h) (Or.inl ⟨by rfl, ?_⟩) ?_ ?_; rotate_left
    · intro w'; go_simp; with_reducible rfl
    rotate_left
    · simp only [Act.put,s_a,s_b,s_c,i64_w,i32_w]; rfl
    refine take_ (i := 2) (N := some 74) (v:=?_) (a':=?_) (bm 11 103) rfl rfl (by kernel_rfl) (fun _ _ _ h => h) (Or.inl ⟨by rfl, ?_⟩) hHeld ?_ ?_; rotate_left
    · intro w' s0; go_simp; with_reducible rfl
    rotate_left
    · simp only [Act.put,s_a,s_b,s_c,i64_w,i32_w]; rfl
    refine take_ (i := 7) (N := some 79) (v:=?_) (a':=?_) (bm 11 231) rfl rfl (by kernel_rfl) (fun _ _ _ h => h) (Or.inl ⟨by rfl, ?_⟩) hHeld ?_ ?_; rotate_left
    · intro w' s0; go_simp; with_reducible rfl
    rotate_left
    · simp only [Act.put,s_a,s_b,s_c,i64_w,i32_w]; rfl
    refine one_ (i := 3) (N := some 75) (bm 11 239) rfl rfl (by kernel_rfl) (by decide) (fun K hK => ?_); refine goes_ Try.func32 (by kernel_rfl) rfl #[.pointer (some ⟨d, 0, none⟩), .string nm] (by rfl) rfl rfl (by simp only [List.map_toArray, List.map_cons, List.map_nil]; rfl) ?_; refine (disk_Sync.duo (H.out.tell (below_drew1 (Below.refl _ _))) nm HNM.out.1).mono ?_; rintro e w5 ⟨rfl, hh, hx5⟩; have H5 := Aside0.mk hh; have BK5 := Aside0.mk ((hx5 B HXB.out).trans BK.out); clear hh hx5; refine ⟨_, rfl, ?_⟩; refine hK.out _ _ ((blk_cell BK5.out 1).trans rfl) (fun hHeld => ?_); clear hK K; refine norm_ (a' := ?_) ?_ ?_; rotate_left
    · show Act.put _ (some 75) _ = _; simp only [Act.put,s_a,s_b,s_c,i64_w,i32_w]; rfl
    refine one_ (i := 4) (N := some 76) (bm 11 255) rfl rfl (by kernel_rfl) (by decide) (fun K hK => ?_); refine goes_ Try.func12 (by kernel_rfl) rfl #[.int .i64 (opSync S nm).2] (by rfl) rfl rfl (by simp only [List.map_toArray, List.map_cons, List.map_nil]; rfl) ?_; with_reducible refine (wicketlaw05_num.calls _ _ _ rfl).mono ?_
    rintro e w6 ⟨rfl, hd6⟩; have HB6 := Aside0.mk hd6.below; have BK6 := Aside0.mk (blk_below BK5.out HB6.out); have H6 := Aside0.mk (H5.out.tell HB6.out); clear hd6; refine ⟨_, rfl, ?_⟩; refine hK.out _ _ ((blk_cell BK6.out 1).trans rfl) (fun hHeld => ?_); clear hK K; refine norm_ (a' := ?_) ?_ ?_; rotate_left
    · show Act.put _ (some 76) _ = _; simp only [Act.put,s_a,s_b,s_c,i64_w,i32_w]; rfl
    refine one_ (i := 8) (N := some 80) (bm 11 511) rfl rfl (by kernel_rfl) (by decide) (fun K hK => ?_); refine goes_ Try.func57 (by kernel_rfl) rfl #[.pointer (some ⟨r, 0, none⟩), .string nm] (by rfl) rfl rfl (by simp only [List.map_toArray, List.map_cons, List.map_nil]; rfl) ?_; refine (ref_Sync.duo H6.out nm HNM.out.1).mono ?_; rintro e w7 ⟨rfl, hh, hx7⟩; have H7 := Aside0.mk hh; have BK7 := Aside0.mk ((hx7 B HXB.out).trans BK6.out); clear hh hx7; refine ⟨_, rfl, ?_⟩; refine hK.out _ _ ((blk_cell BK7.out 1).trans rfl) (fun hHeld => ?_); clear hK K; refine norm_ (a' := ?_) ?_ ?_; rotate_left
    · show Act.put _ (some 80) _ = _; simp only [Act.put,s_a,s_b,s_c,i64_w,i32_w]; rfl
    refine pure_ (i := 9) (N := some 81) (v:=?_) (a':=?_) (bm 11 1023) rfl rfl (by kernel_rfl) (fun _ _ _ h => h) (Or.inl ⟨by rfl, ?_⟩) ?_ ?_; rotate_left
    · intro w'; go_simp; with_reducible rfl
    rotate_left
    · simp only [Act.put,s_a,s_b,s_c,i64_w,i32_w]; rfl
    refine pure_ (i := 10) (N := some 6) (v:=?_) (a':=?_) (bm 11 2047) rfl rfl (by kernel_rfl) (fun _ _ _ h => h) (Or.inl ⟨by rfl, ?_⟩) ?_ ?_; rotate_left
    · intro w'; go_simp; with_reducible rfl
    rotate_left
    · simp only [Act.put,s_a,s_b,s_c,i64_w,i32_w]; rfl
    refine done_ (by kernel_rfl) ?_; go_wp2_with fail
    go_ret; have he : actS S ⟨3, nm, ds, p, n, cd, ct⟩ = (opSync S nm).1 := rfl; rw [he]; exact ⟨by first | rfl | simp, H7.out.free⟩
  have k3 : (kd == 3) = false := beq_eq_false_iff_ne.mpr hk3; by_cases hk4 : kd = 4
  · subst hk4; clear hk1 hk2 hk3; go_upto_region 16 with (fail)
    refine start_ (n := 15) (S := fun w' => w'.cell? ⟨B, 1, none⟩ = some (.string nm) ∧ w'.cell? ⟨B, 2, none⟩ = some (.string ds)) (ds := []) (bm 15 0) (by kernel_rfl) rfl rfl ⟨b1, b2⟩ (fun hHeld => ?_); refine pure_ (i := 0) (N := some 84) (v:=?_) (a':=?_) (bm 15 1) rfl rfl (by kernel_rfl) (fun _ _ _ h => h) (Or.inl ⟨by rfl, ?_⟩) ?_ ?_; rotate_left
    · intro w'; go_simp; with_reducible rfl
    rotate_left
    · simp only [Act.put,s_a,s_b,s_c,i64_w,i32_w]; rfl
    refine pure_ (i := 1) (N := some 85) (v:=?_) (a':=?_) (bm 15 3) rfl rfl (by kernel_rfl) (fun _ _ _ h => h) (Or.inl ⟨by rfl, ?_⟩) ?_ ?_; rotate_left
    · intro w'; go_simp; with_reducible rfl
    rotate_left
    · simp only [Act.put,s_a,s_b,s_c,i64_w,i32_w]; rfl
    refine pure_ (i := 3) (N := some 87) (v:=?_) (a':=?_) (bm 15 11) rfl rfl (by kernel_rfl) (fun _ _ _ h => h) (Or.inl ⟨by rfl, ?_⟩) ?_ ?_; rotate_left
    · intro w'; go_simp; with_reducible rfl
    rotate_left
    · simp only [Act.put,s_a,s_b,s_c,i64_w,i32_w]; rfl
    refine pure_ (i := 7) (N := some 91) (v:=?_) (a':=?_) (bm 15 139) rfl rfl (by kernel_rfl) (fun _ _ _ h => h) (Or.inl ⟨by rfl, ?_⟩) ?_ ?_; rotate_left
    · intro w'; go_simp; with_reducible rfl
    rotate_left
    · simp only [Act.put,s_a,s_b,s_c,i64_w,i32_w]; rfl
    refine pure_ (i := 8) (N := some 92) (v:=?_) (a':=?_) (bm 15 395) rfl rfl (by kernel_rfl) (fun _ _ _ h => h) (Or.inl ⟨by rfl, ?_⟩) ?_ ?_; rotate_left
    · intro w'; go_simp; with_reducible rfl
    rotate_left
    · simp only [Act.put,s_a,s_b,s_c,i64_w,i32_w]; rfl
    refine pure_ (i := 10) (N := some 94) (v:=?_) (a':=?_) (bm 15 1419) rfl rfl (by kernel_rfl) (fun _ _ _ h => h) (Or.inl ⟨by rfl, ?_⟩) ?_ ?_; rotate_left
    · intro w'; go_simp; with_reducible rfl
    rotate_left
    · simp only [Act.put,s_a,s_b,s_c,i64_w,i32_w]; rfl
    refine take_ (i := 2) (N := some 86) (v:=?_) (a':=?_) (bm 15 1423) rfl rfl (by kernel_rfl) (fun _ _ _ h => h) (Or.inl ⟨by rfl, ?_⟩) hHeld ?_ ?_; rotate_left
    · rintro w' ⟨s0, s1⟩; go_simp; with_reducible rfl
    rotate_left
    · simp only [Act.put,s_a,s_b,s_c,i64_w,i32_w]; rfl
    refine take_ (i := 4) (N := some 88) (v:=?_) (a':=?_) (bm 15 1439) rfl rfl (by kernel_rfl) (fun _ _ _ h => h) (Or.inl ⟨by rfl, ?_⟩) hHeld ?_ ?_; rotate_left
    · rintro w' ⟨s0, s1⟩; go_simp; with_reducible rfl
    rotate_left
    · simp only [Act.put,s_a,s_b,s_c,i64_w,i32_w]; rfl
    refine take_ (i := 9) (N := some 93) (v:=?_) (a':=?_) (bm 15 1951) rfl rfl (by kernel_rfl) (fun _ _ _ h => h) (Or.inl ⟨by rfl, ?_⟩) hHeld ?_ ?_; rotate_left
    · rintro w' ⟨s0, s1⟩; go_simp; with_reducible rfl
    rotate_left
    · simp only [Act.put,s_a,s_b,s_c,i64_w,i32_w]; rfl
    refine take_ (i := 11) (N := some 95) (v:=?_) (a':=?_) (bm 15 3999) rfl rfl (by kernel_rfl) (fun _ _ _ h => h) (Or.inl ⟨by rfl, ?_⟩) hHeld ?_ ?_; rotate_left
    · rintro w' ⟨s0, s1⟩; go_simp; with_reducible rfl
    rotate_left
    · simp only [Act.put,s_a,s_b,s_c,i64_w,i32_w]; rfl
    refine one_ (i := 5) (N := some 89) (bm 15 4031) rfl rfl (by kernel_rfl) (by decide) (fun K hK => ?_); refine goes_ Try.func40 (by kernel_rfl) rfl #[.pointer (some ⟨d, 0, none⟩), .string nm, .string ds] (by rfl) rfl rfl (by simp only [List.map_toArray, List.map_cons, List.map_nil]; rfl) ?_; refine (disk_Rename.duo (H.out.tell (below_drew1 (Below.refl _ _))) nm ds HNM.out).mono ?_; rintro e w5 ⟨rfl, hh, hx5⟩; have H5 := Aside0.mk hh; have BK5 := Aside0.mk ((hx5 B HXB.out).trans BK.out); clear hh hx5; refine ⟨_, rfl, ?_⟩; refine hK.out _ _ ⟨(blk_cell BK5.out 1).trans rfl, (blk_cell BK5.out 2).trans rfl⟩ (fun hHeld => ?_); clear hK K; refine norm_ (a' := ?_) ?_ ?_; rotate_left
    · show Act.put _ (some 89) _ = _; simp only [Act.put,s_a,s_b,s_c,i64_w,i32_w]; rfl
    refine one_ (i := 6) (N := some 90) (bm 15 4095) rfl rfl (by kernel_rfl) (by decide) (fun K hK => ?_); refine goes_ Try.func12 (by kernel_rfl) rfl #[.int .i64 (opRename S nm ds).2] (by rfl) rfl rfl (by simp only [List.map_toArray, List.map_cons, List.map_nil]; rfl) ?_; with_reducible refine (wicketlaw05_num.calls _ _ _ rfl).mono ?_
    rintro e w6 ⟨rfl, hd6⟩; have HB6 := Aside0.mk hd6.below; have BK6 := Aside0.mk (blk_below BK5.out HB6.out); have H6 := Aside0.mk (H5.out.tell HB6.out); clear hd6; refine ⟨_, rfl, ?_⟩; refine hK.out _ _ ⟨(blk_cell BK6.out 1).trans rfl, (blk_cell BK6.out 2).trans rfl⟩ (fun hHeld => ?_); clear hK K; refine norm_ (a' := ?_) ?_ ?_; rotate_left
    · show Act.put _ (some 90) _ = _; simp only [Act.put,s_a,s_b,s_c,i64_w,i32_w]; rfl
    refine one_ (i := 12) (N := some 96) (bm 15 8191) rfl rfl (by kernel_rfl) (by decide) (fun K hK => ?_); refine goes_ Try.func58 (by kernel_rfl) rfl #[.pointer (some ⟨r, 0, none⟩), .string nm, .string ds] (by rfl) rfl rfl (by simp only [List.map_toArray, List.map_cons, List.map_nil]; rfl) ?_; refine (ref_Rename.duo H6.out nm ds HNM.out).mono ?_; rintro e w7 ⟨rfl, hh, hx7⟩; have H7 := Aside0.mk hh; have BK7 := Aside0.mk ((hx7 B HXB.out).trans BK6.out); clear hh hx7; refine ⟨_, rfl, ?_⟩; refine hK.out _ _ ⟨(blk_cell BK7.out 1).trans rfl, (blk_cell BK7.out 2).trans rfl⟩ (fun hHeld => ?_); clear hK K; refine norm_ (a' := ?_) ?_ ?_; rotate_left
    · show Act.put _ (some 96) _ = _; simp only [Act.put,s_a,s_b,s_c,i64_w,i32_w]; rfl
    refine pure_ (i := 13) (N := some 97) (v:=?_) (a':=?_) (bm 15 16383) rfl rfl (by kernel_rfl) (fun _ _ _ h => h) (Or.inl ⟨by rfl, ?_⟩) ?_ ?_; rotate_left
    · intro w'; go_simp; with_reducible rfl
    rotate_left
    · simp only [Act.put,s_a,s_b,s_c,i64_w,i32_w]; rfl
    refine pure_ (i := 14) (N := some 6) (v:=?_) (a':=?_) (bm 15 32767) rfl rfl (by kernel_rfl) (fun _ _ _ h => h) (Or.inl ⟨by rfl, ?_⟩) ?_ ?_; rotate_left
    · intro w'; go_simp; with_reducible rfl
    rotate_left
    · simp only [Act.put,s_a,s_b,s_c,i64_w,i32_w]; rfl
    refine done_ (by kernel_rfl) ?_; go_wp2_with fail
    go_ret; have he : actS S ⟨4, nm, ds, p, n, cd, ct⟩ = (opRename S nm ds).1 := rfl; rw [he]; exact ⟨by first | rfl | simp, H7.out.free⟩
  have k4 : (kd == 4) = false := beq_eq_false_iff_ne.mpr hk4; by_cases hk5 : kd = 5
  · subst hk5; clear hk1 hk2 hk3 hk4; go_upto_region 18 with (fail)
    refine start_ (n := 11) (S := fun w' => w'.cell? ⟨B, 1, none⟩ = some (.string nm)) (ds := []) (bm 11 0) (by kernel_rfl) rfl rfl (b1) (fun hHeld => ?_); refine pure_ (i := 0) (N := some 100) (v:=?_) (a':=?_) (bm 11 1) rfl rfl (by kernel_rfl) (fun _ _ _ h => h) (Or.inl ⟨by rfl, ?_⟩) ?_ ?_; rotate_left
    · intro w'; go_simp; with_reducible rfl
    rotate_left
    · simp only [Act.put,s_a,s_b,s_c,i64_w,i32_w]; rfl
    refine pure_ (i := 1) (N := some 101) (v:=?_) (a':=?_) (bm 11 3) rfl rfl (by kernel_rfl) (fun _ _ _ h => h) (Or.inl ⟨by rfl, ?_⟩) ?_ ?_; rotate_left
    · intro w'; go_simp; with_reducible rfl
    rotate_left
    · simp only [Act.put,s_a,s_b,s_c,i64_w,i32_w]; rfl
    refine pure_ (i := 5) (N := some 105) (v:=?_) (a':=?_) (bm 11 35) rfl rfl (by kernel_rfl) (fun _ _ _ h => h) (Or.inl ⟨by rfl, ?_⟩) ?_ ?_; rotate_left
    · intro w'; go_simp; with_reducible rfl
    rotate_left
    · simp only [Act.put,s_a,s_b,s_c,i64_w,i32_w]; rfl
    refine pure_ (i := 6) (N := some 106) (v:=?_) (a':=?_) (bm 11 99) rfl rfl (by kernel_rfl) (fun _ _ _ h => h) (Or.inl ⟨by rfl, ?_⟩) ?_ ?_; rotate_left
    · intro w'; go_simp; with_reducible rfl
    rotate_left
    · simp only [Act.put,s_a,s_b,s_c,i64_w,i32_w]; rfl
    refine take_ (i := 2) (N := some 102) (v:=?_) (a':=?_) (bm 11 103) rfl rfl (by kernel_rfl) (fun _ _ _ h => h) (Or.inl ⟨by rfl, ?_⟩) hHeld ?_ ?_; rotate_left
    · intro w' s0; go_simp; with_reducible rfl
    rotate_left
    · simp only [Act.put,s_a,s_b,s_c,i64_w,i32_w]; rfl
    refine take_ (i := 7) (N := some 107) (v:=?_) (a':=?_) (bm 11 231) rfl rfl (by kernel_rfl) (fun _ _ _ h => h) (Or.inl ⟨by rfl, ?_⟩) hHeld ?_ ?_; rotate_left
    · intro w' s0; go_simp; with_reducible rfl
    rotate_left
    · simp only [Act.put,s_a,s_b,s_c,i64_w,i32_w]; rfl
    refine one_ (i := 3) (N := some 103) (bm 11 239) rfl rfl (by kernel_rfl) (by decide) (fun K hK => ?_); refine goes_ Try.func41 (by kernel_rfl) rfl #[.pointer (some ⟨d, 0, none⟩), .string nm] (by rfl) rfl rfl (by simp only [List.map_toArray, List.map_cons, List.map_nil]; rfl) ?_; refine (disk_Remove.duo (H.out.tell (below_drew1 (Below.refl _ _))) nm HNM.out.1).mono ?_; rintro e w5 ⟨rfl, hh, hx5⟩; have H5 := Aside0.mk hh; have BK5 := Aside0.mk ((hx5 B HXB.out).trans BK.out); clear hh hx5; refine ⟨_, rfl, ?_⟩; refine hK.out _ _ ((blk_cell BK5.out 1).trans rfl) (fun hHeld => ?_); clear hK K; refine norm_ (a' := ?_) ?_ ?_; rotate_left
    · show Act.put _ (some 103) _ = _; simp only [Act.put,s_a,s_b,s_c,i64_w,i32_w]; rfl
    refine one_ (i := 4) (N := some 104) (bm 11 255) rfl rfl (by kernel_rfl) (by decide) (fun K hK => ?_); refine goes_ Try.func12 (by kernel_rfl) rfl #[.int .i64 (opRemove S nm).2] (by rfl) rfl rfl (by simp only [List.map_toArray, List.map_cons, List.map_nil]; rfl) ?_; with_reducible refine (wicketlaw05_num.calls _ _ _ rfl).mono ?_
    rintro e w6 ⟨rfl, hd6⟩; have HB6 := Aside0.mk hd6.below; have BK6 := Aside0.mk (blk_below BK5.out HB6.out); have H6 := Aside0.mk (H5.out.tell HB6.out); clear hd6; refine ⟨_, rfl, ?_⟩; refine hK.out _ _ ((blk_cell BK6.out 1).trans rfl) (fun hHeld => ?_); clear hK K; refine norm_ (a' := ?_) ?_ ?_; rotate_left
    · show Act.put _ (some 104) _ = _; simp only [Act.put,s_a,s_b,s_c,i64_w,i32_w]; rfl
    refine one_ (i := 8) (N := some 108) (bm 11 511) rfl rfl (by kernel_rfl) (by decide) (fun K hK => ?_); refine goes_ Try.func59 (by kernel_rfl) rfl #[.pointer (some ⟨r, 0, none⟩), .string nm] (by rfl) rfl rfl (by simp only [List.map_toArray, List.map_cons, List.map_nil]; rfl) ?_; refine (ref_Remove.duo H6.out nm HNM.out.1).mono ?_; rintro e w7 ⟨rfl, hh, hx7⟩; have H7 := Aside0.mk hh; have BK7 := Aside0.mk ((hx7 B HXB.out).trans BK6.out); clear hh hx7; refine ⟨_, rfl, ?_⟩; refine hK.out _ _ ((blk_cell BK7.out 1).trans rfl) (fun hHeld => ?_); clear hK K; refine norm_ (a' := ?_) ?_ ?_; rotate_left
    · show Act.put _ (some 108) _ = _; simp only [Act.put,s_a,s_b,s_c,i64_w,i32_w]; rfl
    refine pure_ (i := 9) (N := some 109) (v:=?_) (a':=?_) (bm 11 1023) rfl rfl (by kernel_rfl) (fun _ _ _ h => h) (Or.inl ⟨by rfl, ?_⟩) ?_ ?_; rotate_left
    · intro w'; go_simp; with_reducible rfl
    rotate_left
    · simp only [Act.put,s_a,s_b,s_c,i64_w,i32_w]; rfl
    refine pure_ (i := 10) (N := some 6) (v:=?_) (a':=?_) (bm 11 2047) rfl rfl (by kernel_rfl) (fun _ _ _ h => h) (Or.inl ⟨by rfl, ?_⟩) ?_ ?_; rotate_left
    · intro w'; go_simp; with_reducible rfl
    rotate_left
    · simp only [Act.put,s_a,s_b,s_c,i64_w,i32_w]; rfl
    refine done_ (by kernel_rfl) ?_; go_wp2_with fail
    go_ret; have he : actS S ⟨5, nm, ds, p, n, cd, ct⟩ = (opRemove S nm).1 := rfl; rw [he]; exact ⟨by first | rfl | simp, H7.out.free⟩
  have k5 : (kd == 5) = false := beq_eq_false_iff_ne.mpr hk5; by_cases hk6 : kd = 6
  · subst hk6; clear hk1 hk2 hk3 hk4 hk5; go_upto_region 20 with (fail)
    go_wp2_with fail
    refine (disk_SyncDir.duo H.out).mono ?_; rintro e w5 ⟨rfl, hh, hx5⟩; have H5 := Aside0.mk hh; clear hh hx5; go_wp2_with fail
    refine (wicketlaw05_num.calls _ _ _ rfl).mono ?_; rintro e w6 ⟨rfl, hd6⟩; have H6 := Aside0.mk (H5.out.tell hd6.below); clear hd6; go_wp2_with fail
    refine (ref_SyncDir.duo H6.out).mono ?_; rintro e w7 ⟨rfl, hh, hx7⟩; have H7 := Aside0.mk hh; clear hh hx7; go_wp2_with fail
    go_ret; have he : actS S ⟨6, nm, ds, p, n, cd, ct⟩ = (opSyncDir S).1 := rfl; rw [he]; exact ⟨by first | rfl | simp, H7.out.free⟩
  have k6 : (kd == 6) = false := beq_eq_false_iff_ne.mpr hk6; by_cases hk10 : kd = 10
  · subst hk10; clear hk1 hk2 hk3 hk4 hk5 hk6; go_wp2_with fail
    refine (disk_Arm.duo H.out n HNB.out).mono ?_; rintro e w5 ⟨⟨v5, rfl⟩, hh, hx5⟩; have H5 := Aside0.mk hh; have BK5 := Aside0.mk ((hx5 B HXB.out).trans BK.out); clear hh hx5 b0 b1 b2 b3 b4; have b4 := (blk_cell BK5.out 4).trans rfl; go_wp2_with fail
    refine (ref_Arm.duo H5.out n HNB.out).mono ?_; rintro e w6 ⟨⟨v6, rfl⟩, hh, hx6⟩; have H6 := Aside0.mk hh; clear hh hx6; go_wp2_with fail
    go_ret; have he : actS S ⟨10, nm, ds, p, n, cd, ct⟩ = opArm S n := rfl; rw [he]; exact ⟨rfl, H6.out.free⟩
  · have k10 : (kd == 10) = false := beq_eq_false_iff_ne.mpr hk10; have HE : Aside0 (actS S ⟨kd, nm, ds, p, n, cd, ct⟩ = S) := ⟨by unfold actS; rw [if_neg hk10, if_neg (by simp only; omega)]⟩; clear hk1 hk2 hk3 hk4 hk5 hk6 hk10; go_wp2_with fail
    go_ret; rw [HE.out]; exact ⟨rfl, H.out.free⟩
end Go.Proofs.Ytdekcjopgnfmdaa.Hand
