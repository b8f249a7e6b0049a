/- law01's loads(): the loads of two lists of frames, each on a block of its own: the walk. -/
import Derived.Test.YtdlfhpkkkhfhdaaDoorQx
import Derived.Test.YtdlfhpkkkhfhdaaDoorHAlone
import Derived.Outline
namespace Go.Proofs.YtdlfhpkkkhfhdaaDoor.Hand
open Go.RowKit Go.Proofs.YtdlfhpkkkhfhdaaDoorW.PrintWords Go.Proofs.YtdlfhpkkkhfhdaaDoorW.PrintLast Go.Proofs.YtdlfhpkkkhfhdaaDoorW.PrintMore Go.Proofs.YtdlfhpkkkhfhdaaDoor.Q
set_option linter.unusedVariables false
set_option linter.unusedSimpArgs false

/-- The lists that a row of frames leads to. -/
structure Elems (w : World) (A : Option Addr) (rs : List Sl) : Prop where
  at_ : ∀ k, k < rs.length → ∃ ad, A = some ad ∧ w.cell? (ad.add (k * 2 + 1)) = some (Sl.v (rs.getD k Sl0))
theorem Elems.below {w w' : World} {A : Option Addr} {rs : List Sl} (h : Elems w A rs) (hb : Below w.heap.size w w') : Elems w' A rs :=
  ⟨fun k hk => by
    obtain ⟨ad, e, hc⟩ := h.at_ k hk
    exact ⟨ad, e, pw_cell_below hb hc⟩⟩
theorem getD_map_range (g : Nat → Sl) (n k : Nat) (hk : k < n) : ((List.range n).map g).getD k Sl0 = g k := by
  rw [List.getD_eq_getElem?_getD, List.getElem?_map, List.getElem?_range hk]
  rfl
theorem S_rows {w : World} {base : Nat} {ok : Nat → Prop} {v : Value} {xs : List S40} (h : Kd.S k40 40 w base ok v xs) :
    ∃ rs : List Sl, rs.length = xs.length ∧ (∀ k, k < rs.length → RB w base (Sl.v (rs.getD k Sl0)) (xs.getD k z40).f1) ∧ Pair rs ∧ (∀ b, Blk rs b → ok b) ∧ ∃ A c, v = .slice A xs.length c ∧ Elems w A rs := by
  obtain ⟨A, c, hv⟩ := Kd.S_slice h
  obtain ⟨f, h0, inner, ho, hr⟩ := h
  rw [List.length_zipIdx] at ho
  have hex : ∀ j, j < xs.length → ∃ r : Sl, Kd.R (Kd.int .u8) 5 w base (fun k => ok k ∧ f k = j) (Sl.v r) (xs.getD j z40).f1 ∧ ∃ ad, A = some ad ∧ w.cell? (ad.add (j * 2 + 1)) = some (Sl.v r) := by
    intro j hj
    have hM := hr.2 j (xs[j], j) (Kd.zip_at (List.getElem?_eq_getElem hj))
    obtain ⟨v1, hcs, hR⟩ := k40_openM (x := xs[j]) (show k40.M w base (fun k => (ok k ∧ some k ≠ v.ownBlock) ∧ f k = j) xs[j] ((inner.drop (j * 2)).take 2) from hM)
    obtain ⟨A1, c1, hv1⟩ := Kd.R_slice hR
    have hx : xs.getD j z40 = xs[j] := by rw [List.getD_eq_getElem?_getD, List.getElem?_eq_getElem hj]; rfl
    subst hv1
    refine ⟨(A1, xs[j].f1.length, c1), by rw [hx]; exact Kd.R_mono hR (fun k hk => ⟨hk.1.1, hk.2⟩), ?_⟩
    obtain ⟨g, cap, he, _, _⟩ := ho.form (by omega)
    have hb : v.ownBlock = some g := by rw [he]; rfl
    rw [hv] at he
    injection he with e1 _ _
    refine ⟨⟨g, 0, none⟩, e1, ho.cells hb (j * 2 + 1) _ ?_⟩
    have h2 : ((inner.drop (j * 2)).take 2)[1]? = some (.slice A1 xs[j].f1.length c1) := by rw [hcs]; rfl
    rw [List.getElem?_take, if_pos (by omega), List.getElem?_drop] at h2
    exact h2
  refine ⟨(List.range xs.length).map (fun j => if hj : j < xs.length then Classical.choose (hex j hj) else Sl0), by simp, ?_, ?_, ?_, A, c, hv, ⟨?_⟩⟩
  · intro k hk
    rw [List.length_map, List.length_range] at hk
    rw [getD_map_range _ _ _ hk, dif_pos hk]
    exact Kd.R_mono (Classical.choose_spec (hex k hk)).1 (fun _ _ => trivial)
  · intro i j hi hj hne b h1 h2
    rw [List.length_map, List.length_range] at hi hj
    rw [getD_map_range _ _ _ hi, dif_pos hi] at h1
    rw [getD_map_range _ _ _ hj, dif_pos hj] at h2
    have e1 := (Classical.choose_spec (hex i hi)).1.1 b h1
    have e2 := (Classical.choose_spec (hex j hj)).1.1 b h2
    exact hne (e1.2.symm.trans e2.2)
  · rintro b ⟨k, hk, hb⟩
    rw [List.length_map, List.length_range] at hk
    rw [getD_map_range _ _ _ hk, dif_pos hk] at hb
    exact ((Classical.choose_spec (hex k hk)).1.1 b hb).1
  · intro k hk
    rw [List.length_map, List.length_range] at hk
    rw [getD_map_range _ _ _ hk, dif_pos hk]
    exact (Classical.choose_spec (hex k hk)).2

theorem add_next (ad : Addr) (n : Nat) : ad.add (n + 1) = ⟨(ad.add n).block, (ad.add n).off + 1, none⟩ := by
  unfold Addr.add
  by_cases h : n = 0
  · subst h; simp
  · simp [h, Nat.add_assoc]
/-- How far the lists have been gathered. -/
structure Gath (w : World) (rs : List Sl) (v : Value) (w' : World) : Prop where
  own : w'.ownsRow w.heap.size 22 1 v rs.length (encs Sl.v rs)
  below : Below w.heap.size w w'

theorem Gath.next {w W w1 : World} {rs : List Sl} {v v1 : Value} {r : Sl} (h : Gath w rs v W) (ho : w1.ownsRow w.heap.size 22 1 v1 (encs Sl.v rs ++ [Sl.v r]).length (encs Sl.v rs ++ [Sl.v r])) (hb : Below w.heap.size w w1) : Gath w (rs ++ [r]) v1 w1 := by
  refine ⟨?_, hb⟩
  have e : encs Sl.v (rs ++ [r]) = encs Sl.v rs ++ [Sl.v r] := by simp [encs]
  rw [e]
  have e2 : (rs ++ [r]).length = (encs Sl.v rs ++ [Sl.v r]).length := by simp [encs]
  rw [e2]
  exact ho
theorem take_next (rs : List Sl) (i : Nat) (h : i < rs.length) : rs.take i ++ [rs.getD i Sl0] = rs.take (i + 1) := by
  rw [List.take_succ_eq_append_getElem h, List.getD_eq_getElem?_getD, List.getElem?_eq_getElem h]
  rfl

set_option maxHeartbeats 1000000 in
theorem wicketlaw01_loads.calls (A1 A2 : Option Addr) (c1 c2 : Nat) (r1 r2 : List Sl) (w : World) (h1 : Elems w A1 r1) (h2 : Elems w A2 r2) (n1 : r1.length ≤ 1000000) (n2 : r2.length ≤ 1000000) :
    Calls Tryd.prog 30 #[.slice A1 r1.length c1, .slice A2 r2.length c2] w fun e w' => ∃ v, e = .returned v ∧ Gath w (r1 ++ r2) v w' := by
  have hG : Aside0 (Gath w [] (.slice none 0 0) w) := ⟨⟨World.ownsRow_nil _ _ _ _, Below.refl _ _⟩⟩
  have H1 := Aside0.mk h1
  have H2 := Aside0.mk h2
  clear h1 h2
  obtain ⟨N, hNe⟩ : ∃ N, N = r1.length := ⟨_, rfl⟩
  obtain ⟨M, hMe⟩ : ∃ M, M = r2.length := ⟨_, rfl⟩
  rw [← hNe] at n1 ⊢
  rw [← hMe] at n2 ⊢
  have HN := Aside0.mk hNe
  have HM := Aside0.mk hMe
  clear hNe hMe
  go_enter Tryd.func30, Tryd.ntmps30
  go_wp2_with fail
  go_loopw [5, 6] (fun v5 v6 w' => ∃ i : Nat, i ≤ N ∧ v6 = .int .i64 i ∧ Aside0 (Gath w (r1.take i) v5 w')) (fun _ v6 _ => N - (intOf v6).toNat)
  case atStart => exact ⟨0, Nat.zero_le _, rfl, hG⟩
  case round =>
    clear hG
    obtain ⟨i, hi, rfl, HG⟩ := hrel
    by_cases hlt : i < N
    · have hir : i < r1.length := by rw [← HN.out]; exact hlt
      obtain ⟨⟨B, n, c⟩, hrow⟩ : ∃ r : Sl, r = r1.getD i Sl0 := ⟨_, rfl⟩
      obtain ⟨ad, hA, hc⟩ := (Elems.below H1.out HG.out.below).at_ i hir
      rw [← hrow, add_next] at hc
      unfold Sl.v at hc
      simp only at hc
      subst hA
      have HW := Aside0.mk hrow
      have HT := Aside0.mk (take_next r1 i hir)
      clear hrow
      go_wp2_with (first | ((with_reducible refine gate_builtin (b := .append) (xs := #[.tmp 14, .tmp 20]) rfl ?_); at_builtin; refine print_append (w0 := w) w.heap.size rfl (.tmp 14) (.tmp 20) 37 22 (.slice none 0 0) 24 rfl Tryd.underlying37 al_info22 rfl (by decide) _ (encs Sl.v (r1.take i)) (.slice B n c) rfl rfl rfl (by rw [encs_length]; exact HG.out.own) HG.out.below HG.out.below.size (by rw [encs_length]; simp only [List.length_append, List.length_take]; omega) ?_; intro v1 w2 ho hb hg hat; have HG2 := Aside0.mk (Gath.next (r := (B, n, c)) HG.out ho hb); clear ho hb hg hat))
      go_roundw
      case rel => exact ⟨i + 1, by omega, by go_num, ⟨by rw [← HT.out, ← HW.out]; exact HG2.out⟩⟩
      case measure => simp [intOf]; omega
    · obtain rfl : N = i := by omega
      have hG2 : Aside0 (Gath w (r1 ++ r2.take 0) u5 wr) := ⟨by
        have h := HG.out
        rw [HN.out, List.take_length] at h
        simpa using h⟩
      clear HG
      go_wp2_with fail
      go_loopw [5, 7] (fun v5 v7 w' => ∃ i : Nat, i ≤ M ∧ v7 = .int .i64 i ∧ Aside0 (Gath w (r1 ++ r2.take i) v5 w')) (fun _ v7 _ => M - (intOf v7).toNat)
      case atStart => exact ⟨0, Nat.zero_le _, rfl, hG2⟩
      case round =>
        clear hG2
        obtain ⟨i, hi, rfl, HG⟩ := hrel
        by_cases hlt : i < M
        · have hir : i < r2.length := by rw [← HM.out]; exact hlt
          have hn1 : r1.length ≤ 1000000 := by rw [← HN.out]; exact n1
          obtain ⟨⟨B, n, c⟩, hrow⟩ : ∃ r : Sl, r = r2.getD i Sl0 := ⟨_, rfl⟩
          obtain ⟨ad, hA, hc⟩ := (Elems.below H2.out HG.out.below).at_ i hir
          rw [← hrow, add_next] at hc
          unfold Sl.v at hc
          simp only at hc
          subst hA
          have HW := Aside0.mk hrow
          have HT := Aside0.mk (take_next r2 i hir)
          clear hrow
          go_wp2_with (first | ((with_reducible refine gate_builtin (b := .append) (xs := #[.tmp 28, .tmp 34]) rfl ?_); at_builtin; refine print_append (w0 := w) w.heap.size rfl (.tmp 28) (.tmp 34) 37 22 (.slice none 0 0) 24 rfl Tryd.underlying37 al_info22 rfl (by decide) _ (encs Sl.v (r1 ++ r2.take i)) (.slice B n c) rfl rfl rfl (by rw [encs_length]; exact HG.out.own) HG.out.below HG.out.below.size (by rw [encs_length]; simp only [List.length_append, List.length_take]; omega) ?_; intro v1 w2 ho hb hg hat; have HG2 := Aside0.mk (Gath.next (r := (B, n, c)) HG.out ho hb); clear ho hb hg hat))
          go_roundw
          case rel => exact ⟨i + 1, by omega, by go_num, ⟨by rw [← HT.out, ← HW.out, ← List.append_assoc]; exact HG2.out⟩⟩
          case measure => simp [intOf]; omega
        · obtain rfl : M = i := by omega
          have hG2 : Aside0 (Gath w (r1 ++ r2) u5 wr) := ⟨by
            have h := HG.out
            rw [HM.out, List.take_length] at h
            exact h⟩
          go_wp2_with fail
          go_ret
          exact ⟨_, rfl, hG2.out⟩
theorem getD_left {r1 r2 : List Sl} {k : Nat} (h : k < r1.length) : (r1 ++ r2).getD k Sl0 = r1.getD k Sl0 := by
  rw [List.getD_eq_getElem?_getD, List.getD_eq_getElem?_getD, List.getElem?_append_left h]
theorem getD_right {r1 r2 : List Sl} {k : Nat} (h : ¬ k < r1.length) : (r1 ++ r2).getD k Sl0 = r2.getD (k - r1.length) Sl0 := by
  rw [List.getD_eq_getElem?_getD, List.getD_eq_getElem?_getD, List.getElem?_append_right (by omega)]
theorem blk_append {r1 r2 : List Sl} {b : Nat} (h : Blk (r1 ++ r2) b) : Blk r1 b ∨ Blk r2 b := by
  obtain ⟨k, hk, hb⟩ := h
  rw [List.length_append] at hk
  by_cases hl : k < r1.length
  · rw [getD_left hl] at hb
    exact .inl ⟨k, hl, hb⟩
  · rw [getD_right hl] at hb
    exact .inr ⟨_, by omega, hb⟩
theorem pair_append {r1 r2 : List Sl} (h1 : Pair r1) (h2 : Pair r2) (h : ∀ b, Blk r1 b → ¬ Blk r2 b) : Pair (r1 ++ r2) := by
  intro i j hi hj hne b hb hb2
  rw [List.length_append] at hi hj
  by_cases hl : i < r1.length
  · rw [getD_left hl] at hb
    by_cases hm : j < r1.length
    · rw [getD_left hm] at hb2
      exact h1 i j hl hm hne b hb hb2
    · rw [getD_right hm] at hb2
      exact h b ⟨i, hl, hb⟩ ⟨_, by omega, hb2⟩
  · rw [getD_right hl] at hb
    by_cases hm : j < r1.length
    · rw [getD_left hm] at hb2
      exact h b ⟨j, hm, hb2⟩ ⟨_, by omega, hb⟩
    · rw [getD_right hm] at hb2
      exact h2 _ _ (by omega) (by omega) (by omega) b hb hb2
/-- Two scans' loads, gathered, are alone. -/
theorem alone_loads {w W : World} {v : Value} {B : Nat} {r1 r2 : List Sl} (hB : B ≤ w.heap.size) (hG : Gath w (r1 ++ r2) v W) (h1 : ∀ k, k < r1.length → ∃ X, RB w B (Sl.v (r1.getD k Sl0)) X) (h2 : ∀ k, k < r2.length → ∃ X, RB w B (Sl.v (r2.getD k Sl0)) X)
    (p1 : Pair r1) (p2 : Pair r2) (hd : ∀ b, Blk r1 b → ¬ Blk r2 b) (hN : r1.length + r2.length ≤ 1000000) (m1 : ∀ k, k < r1.length → nk r1 k ≤ 140737488355000) (m2 : ∀ k, k < r2.length → nk r2 k ≤ 140737488355000) (n : Nat) (hn : (r1 ++ r2).length = n) :
    ∃ A c, v = .slice A n c ∧ Calls Tryd.prog 24 #[.slice A n c] W fun e w' => e = .returned (.bool true) ∧ Kept (Blk (r1 ++ r2)) W w' := by
  have hR : ∀ k, k < (r1 ++ r2).length → ∃ X, RB w B (Sl.v ((r1 ++ r2).getD k Sl0)) X := fun k hk => by
    rw [List.length_append] at hk
    by_cases hl : k < r1.length
    · rw [getD_left hl]; exact h1 k hl
    · rw [getD_right hl]; exact h2 _ (by omega)
  subst hn
  obtain ⟨A, c, rfl, hr⟩ := own_reads_of (d := Sl0) hG.own
  refine ⟨A, c, rfl, wicketlaw01_alone.calls A c (r1 ++ r2) B W (Nat.le_trans hB hG.below.size) hr (fun ad e hb => ?_) (fun k hk => ?_) (pair_append p1 p2 hd) (by rw [List.length_append]; exact hN) (fun k hk => ?_)⟩
  · have h3 := own_base hG.own ad.block (by rw [e]; rfl)
    have h4 := (Blk.of hR _ hb).2
    omega
  · obtain ⟨X, hX⟩ := hR k hk
    exact ⟨X, Kd.R_below hX hG.below⟩
  · unfold nk
    rw [List.length_append] at hk
    by_cases hl : k < r1.length
    · rw [getD_left hl]; exact m1 k hl
    · rw [getD_right hl]; exact m2 _ (by omega)
end Go.Proofs.YtdlfhpkkkhfhdaaDoor.Hand
