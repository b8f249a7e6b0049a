/- Wheel: Each: the timers by rising numbers; the function that hands them on. -/
import Derived.Test.YtkgdlmgodpgcoaaWhlU
import Derived.Test.YtkgdlmgodpgcoaaWhlW
import Derived.Test.YtkgdlmgodpgcoaaWhlZ
namespace Go.Proofs.Ytkgdlmgodpgcoaa.Hand
open Go.RowKit Go.Maps Go.Proofs.YtkgdlmgodpgcoaaW.PrintWords Go.Proofs.YtkgdlmgodpgcoaaW.PrintLast Go.Proofs.YtkgdlmgodpgcoaaW.PrintMore
open Go.Shelf Go.Sort
set_option linter.unusedVariables false
set_option linter.unusedSimpArgs false

def cfA (x y : Int) : Int := cmpI x y
theorem ltA (x y : Int) : ltOf cfA x y = decide (x < y) := by
  unfold ltOf cfA cmpI
  by_cases h1 : x < y
  · simp [h1]
  · by_cases h2 : y < x
    · simp [h1, h2]
    · simp [h1, h2]
theorem swoA : SWO (ltOf cfA) where
  irrefl x := by rw [ltA]; simp
  trans x y z h1 h2 := by rw [ltA] at *; simp at *; omega
  ntrans x y z h1 h2 := by rw [ltA] at *; simp at *; omega
theorem eqA (x y : Int) (h1 : ltOf cfA x y = false) (h2 : ltOf cfA y x = false) : x = y := by
  rw [ltA] at h1 h2
  simp at h1 h2
  omega
def encA (l : List TimT) (x : Int) : List Value := [.int .u64 x, .int .u64 (atOf l x)]
def withAt (l : List TimT) (x : Int) : TimT := (x, atOf l x)
theorem withAt_map {l l' : List TimT} (hN : (l.map (·.1)).Nodup) (h : ∀ t, t ∈ l' → t ∈ l) : (l'.map (·.1)).map (withAt l) = l' := by
  rw [List.map_map]
  refine (List.map_congr_left (fun t ht => ?_)).trans (List.map_id l')
  show (t.1, atOf l t.1) = t
  rw [atOf_mem hN (h t ht)]
theorem flat_eqA (l : List TimT) (ids : List Int) : flatK (encA l) 2 ids.toArray = flatK encT 2 (ids.map (withAt l)).toArray := by
  unfold flatK
  simp only [List.size_toArray, List.length_map]
  apply Array.ext
  · simp
  · intro t h1 h2
    have ht : t / 2 < ids.length := by simp at h1; omega
    simp only [Array.getElem_map, Array.getElem_range]
    rw [getElem!_pos ids.toArray (t / 2) (by simpa using ht), getElem!_pos (ids.map (withAt l)).toArray (t / 2) (by simpa using ht)]
    simp
    rfl
def byId (l : List TimT) : List TimT := ((l.map (·.1)).mergeSort fun x y => !(ltOf cfA) y x).map (withAt l)
theorem byId_eq {l Ls : List TimT} (hp : l.Perm Ls) (hS : Srt Ls) : byId l = Ls := by
  have hN : (l.map (·.1)).Nodup := ((hp.map _).nodup_iff).2 hS.nodup
  have hle : ∀ x y : Int, (!(ltOf cfA) y x) = true ↔ x ≤ y := fun x y => by rw [ltA]; simp
  have e : (l.map (·.1)).mergeSort (fun x y => !(ltOf cfA) y x) = Ls.map (·.1) := by
    refine List.Perm.eq_of_pairwise (le := fun a b : Int => a ≤ b) (fun a b _ _ h1 h2 => by omega) ?_ ?_ ((List.mergeSort_perm _ _).trans (hp.map _))
    · have h := List.pairwise_mergeSort (le := fun x y => !(ltOf cfA) y x) (fun a b c h1 h2 => by rw [hle] at *; omega) (fun a b => by
        rw [Bool.or_eq_true, hle, hle]
        omega) (l.map (·.1))
      exact h.imp (fun h => (hle _ _).1 h)
    · rw [List.pairwise_map]
      exact List.Pairwise.imp (fun h => by omega) hS
  unfold byId
  rw [e]
  exact withAt_map hN (fun t ht => hp.mem_iff.2 ht)
set_option maxHeartbeats 2000000 in
set_option maxRecDepth 100000 in
theorem closure53 (xi xa yi ya : Int) (W : World) : Calls Try.prog 53 #[.agg #[.int .u64 xi, .int .u64 xa], .agg #[.int .u64 yi, .int .u64 ya]] W fun e w' => e = .returned (.int .i64 (cmpI xi yi)) ∧ ∃ q os', w' = Sort.grow (W.drewN q) os' := by
  go_enter Try.func53, Try.ntmps53
  go_wp2_with fail
  obtain ⟨X, hX⟩ : ∃ X, X = (W.alloc (.cells #[.int .u64 xi, .int .u64 xa] 84)).alloc (.cells #[.int .u64 yi, .int .u64 ya] 84) := ⟨_, rfl⟩
  refine (cmp_Compare.calls _ _ _).mono ?_
  rintro e w5 ⟨rfl, rfl⟩
  go_wp2_with fail
  go_ret
  refine ⟨rfl, 0, #[.cells #[.int .u64 xi, .int .u64 xa] 84, .cells #[.int .u64 yi, .int .u64 ya] 84], ?_⟩
  rw [Sort.alloc_eq_grow, Sort.alloc_eq_grow, Sort.grow_grow]
  rfl
theorem cmpLays53 (l : List TimT) (blk off size : Nat) (w : World) : CmpLays Try.prog 53 #[] (encA l) 2 cfA blk off size w :=
  fun _ _ _ _ x y => closure53 x (atOf l x) y (atOf l y) _
abbrev KT (w : World) (base : Nat) (ok : Nat → Prop) (v : Value) (l : List TimT) : Prop := Kd.R kT 84 w base ok v l
set_option maxHeartbeats 1000000 in
theorem sort_ids.calls (w : World) (base : Nat) (ok : Nat → Prop) (A : Option Addr) (c N : Nat) (l : List TimT) (h : KT w base ok (.slice A N c) l) (hNl : N = l.length) (hl : l.length ≤ 1000000) (hN : (l.map (·.1)).Nodup) :
    Calls Try.prog 43 #[.slice A N c, .func (.func 53) #[] #[]] w fun e w' => e = .returned (.tuple #[]) ∧ KT w' base ok (.slice A N c) (byId l) ∧ w.grownBy w' (Value.slice A N c).ownBlock := by
  subst hNl
  have hbl : (byId l).length = l.length := by unfold byId; rw [List.length_map, List.length_mergeSort, List.length_map]
  cases hz : l with
  | nil =>
    subst hz
    have hcon := AnyF.slices_SortFunc_none sortT A c (.func (.func 53) #[] #[]) w
    refine Calls.mono hcon ?_
    rintro e w' ⟨rfl, rfl⟩
    exact ⟨rfl, by rw [show byId [] = [] from by unfold byId; rw [List.map_nil, List.mergeSort_nil, List.map_nil]]; exact h, ⟨rfl, rfl, rfl, Nat.le_refl _, fun _ _ _ => rfl⟩⟩
  | cons t r =>
    rw [← hz]
    have hpos : 0 < l.length := by rw [hz]; simp
    obtain ⟨h0, inner, ho, hr⟩ := h
    rcases ho.2 with ⟨e, _⟩ | ⟨g, cap, cur, e, hbase, hb, h1, h2, h3, h4⟩
    · injection e with e1 e2 e3
      omega
    · injection e with e1 e2 e3
      subst e1 e3
      have hin := reps_flat hr
      have hll : (l.map (·.1)).map (withAt l) = l := withAt_map hN (fun _ h => h)
      have hH : HoldsK (encA l) 2 w g 0 (l.map (·.1)).toArray := by
        unfold HoldsK
        rw [flat_eqA, hll]
        exact holds_of_row hb (by rw [← hin]; exact h4)
      have eg : ∀ args w, (callFunc 53 args).run Try.prog w = .ok (.enter 53 args) w := enters_of Try.func53 (by kernel_rfl) rfl
      have hcon := AnyQ.slices_SortFunc_total sortT 2 agg84 size84 (encA l) (fun _ => rfl) (fun x v hv => by simp [encA] at hv; rcases hv with rfl | rfl <;> rfl) cfA swoA 53 #[] g 0 c (l.map (·.1)).toArray w eg (cmpLays53 l g 0 _ w) hH (Array.getElem?_eq_some_iff.1 hb).1 (by simp; omega) eqA
      rw [List.size_toArray, List.length_map, show (l.map (·.1)).toArray.toList = l.map (·.1) from rfl] at hcon
      refine Calls.mono hcon ?_
      rintro e w' ⟨rfl, n, os, rfl⟩
      have hw : sortWorldK (encA l) 2 w g 0 n ((l.map (·.1)).mergeSort fun x y => !(ltOf cfA) y x).toArray os = sortWorldK encT 2 w g 0 n (byId l).toArray os := by
        unfold sortWorldK putRowK
        rw [flat_eqA]
        rfl
      rw [hw]
      clear hw hcon
      obtain ⟨B, hB⟩ : ∃ B, B = byId l := ⟨_, rfl⟩
      rw [← hB] at hbl ⊢
      have hfl : (flatK encT 2 B.toArray).size = B.length * 2 := by simp
      have hhp := heap_sortedT (n := n) (os := os) B.toArray hb
      have hgr := grownBy_sortedT (w := w) (g := g) (n := n) (os := os) B.toArray
      have hrp : Reps (kT.M (sortWorldK encT 2 w g 0 n B.toArray os) base ok) 2 B (flatK encT 2 B.toArray).toList := flat_reps _ _ _ _
      refine ⟨rfl, ⟨h0, (flatK encT 2 B.toArray).toList, ⟨?_, .inr ⟨g, c, _, ?_, hbase, hhp, ?_, h2, ?_, ?_⟩⟩, hrp⟩, hgr⟩
      · simp [kT, Kd.iso, Kd.pair, Kd.int, Kd.scalar]
      · rw [hbl]
      · rw [hbl]; exact h1
      · rw [show (putCells id 0 (flatK encT 2 B.toArray) cur).size = cur.size by simp [putCells]]; exact h3
      · show (putCells id 0 (flatK encT 2 B.toArray) cur).toList.take (B.length * 2) = _
        rw [← hfl]
        exact take_putFlat _ _ (by rw [hfl, hbl, h3]; exact Nat.mul_le_mul_right 2 h1)
theorem KT.not_list {w : World} {base r : Nat} {ok : Nat → Prop} {v : Value} {l : List TimT} {cs : Array Value} (h : KT w base ok v l) (hW : w.heap[r]? = some (.cells cs 76 (0, 0))) : some r ≠ v.ownBlock := fun e => by
  obtain ⟨_, _, _, q, hq, cells, hc⟩ := (Kd.R_bound h).1 r e.symm
  rw [hW] at hc
  injection hc with hc
  injection hc with _ ht _
  rw [← ht] at hq
  revert hq
  decide
theorem EachI.rg_step {w3 w5 : World} {m r n cnt base b : Nat} {ok : Nat → Prop} {D : DT} {left : Lit → Bool} {v : Value} {l : List TimT} {cs : Array Value} {t : TypeId} (h : w3.ranges Try.prog 22 (plainElem Try.prog 22) m r n D left cnt) (hr : KT w3 base ok v l) (hg : w3.grownBy w5 v.ownBlock) (hb : w5.heap[b]? = some (.cells cs t (0, 0))) (u : Value) :
    (w5.setCell ⟨b, 0, none⟩ u).ranges Try.prog 22 (plainElem Try.prog 22) m r n D left cnt := by
  have typed : ∀ k, v.ownBlock = some k → ∃ q cells, w3.heap[k]? = some (.cells cells q (0, 0)) := fun k hk => by
    obtain ⟨_, _, _, q, hq, cells, hc⟩ := (Kd.R_bound hr).1 k hk
    exact ⟨q, cells, hc⟩
  have h2 : w5.ranges Try.prog 22 (plainElem Try.prog 22) m r n D left cnt := by
    refine h.kept hg (fun e => ?_) (fun e => ?_)
    · obtain ⟨q, cells, hc⟩ := typed m e.symm
      obtain ⟨es, clock, since, seen, c0, h1, _, _, _, h5, _⟩ := h
      rw [h1] at hc
      cases hc
    · obtain ⟨q, cells, hc⟩ := typed r e.symm
      obtain ⟨es, clock, since, seen, c0, h1, _, _, _, h5, _⟩ := h
      rw [h5] at hc
      cases hc
  refine h2.kept (grown_set w5 b 0 u) (fun e => ?_) (fun e => ?_)
  · injection e with e
    obtain ⟨es, clock, since, seen, c0, h1, _, _, _, h5, _⟩ := h2
    rw [e, hb] at h1
    cases h1
  · injection e with e
    obtain ⟨es, clock, since, seen, c0, h1, _, _, _, h5, _⟩ := h2
    rw [e, hb] at h5
    cases h5
/-- Each's list while the map is gone over. -/
structure EachI (w wr : World) (m r n : Nat) (D : DT) (Ls : List TimT) (left : Lit → Bool) (cnt : Nat) (Xs : List TimT) (v : Value) : Prop where
  rg : wr.ranges Try.prog 22 (plainElem Try.prog 22) m r n D left cnt
  blk : wr.heap[w.heap.size]? = some (.cells #[v] 76 (0, 0))
  row : KT wr w.heap.size (fun _ => True) v Xs
  came : Came Ls left Xs
  bel : Below w.heap.size w wr
theorem Came.len {Ls : List TimT} {left : Lit → Bool} {Xs : List TimT} (h : Came Ls left Xs) : Xs.length ≤ Ls.length := by
  have h2 := h.length_eq
  rw [List.length_append] at h2
  omega
set_option maxHeartbeats 4000000 in
set_option maxRecDepth 100000 in
theorem wheel_Each.all {w : World} {F : Nat → Prop} {g m : Nat} {now : Int} {Ls : List TimT} (h : Wst w F g m now Ls) (hS : Srt Ls) :
    Calls Try.prog 37 #[.pointer (some ⟨g, 0, none⟩)] w fun e w' => ∃ A c, e = .returned (.func (.func 54) #[] #[.pointer (some ⟨w.heap.size, 0, none⟩)]) ∧ w.heap.size < w'.heap.size ∧ w'.cell? ⟨w.heap.size, 0, none⟩ = some (.slice A Ls.length c) ∧ KT w' w.heap.size (fun _ => True) (.slice A Ls.length c) Ls ∧ Below w.heap.size w w' := by
  obtain ⟨D, R, f, L, hSt, hF⟩ := h.open_
  have cm := pw_cell_below (below_alloc (Below.refl w.heap.size w) (.cells #[.slice none 0 0] 76)) hSt.whl.map_
  have HD : Aside0 (Due (w.alloc (.cells #[.slice none 0 0] 76)) m (Maps.size D) D) := ⟨hSt.due.alloc _⟩
  have HF := Aside0.mk hF
  have HS := Aside0.mk hS
  have hbl := blk_new w (.cells #[.slice none 0 0] 76 (0, 0))
  have HBL := Aside0.mk hbl
  have HB1 := Aside0.mk (below_alloc (Below.refl w.heap.size w) (.cells #[.slice none 0 0] 76))
  clear h hS hF hSt hbl
  go_enter Try.func37, Try.ntmps37
  go_wp2_with (first
    | (at_range; refine wpList_range_own _ rfl _ 75 rfl 22 22 law22 Try.underlying75 (plainElem Try.prog 22) m (Maps.size D) D rfl HD.out ?_; intro w2 hrg0 hg0 hs0; have HI0 : Aside0 (EachI w w2 m (w.heap.size + 1) (Maps.size D) D Ls (Maps.has D) (Maps.size D) [] (.slice none 0 0)) := ⟨⟨by simpa using hrg0, (hg0.block _ (blk_lt HBL.out) (by simp)).trans HBL.out, Kd.R_nil _ _ _ _ _, Came.start HF.out.map, HB1.out.grown hg0 HB1.out.size (fun k e => by cases e)⟩⟩; clear hrg0 hg0 hs0)
    | go_in)
  go_frame
  rw [World.size_alloc]
  clear cm
  go_loopw [4] (fun _ wr => ∃ (left : Lit → Bool) (cnt : Nat) (Xs : List TimT) (v : Value), Aside0 (EachI w wr m (w.heap.size + 1) (Maps.size D) D Ls left cnt Xs v)) (fun _ wr => wr.rangeLeft m (w.heap.size + 1))
  case atStart => exact ⟨_, _, _, _, HI0⟩
  case round =>
    clear HI0 HB1 HBL HD
    obtain ⟨left, cnt, Xs, v, HI⟩ := hrel
    obtain ⟨A, c, hv⟩ := Kd.R_slice HI.out.row
    obtain ⟨N, hN⟩ : ∃ N, N = Xs.length := ⟨_, rfl⟩
    rw [← hN] at hv
    have HN := Aside0.mk hN
    clear hN
    subst hv
    rcases HI.out.rg.next law22 0 with ⟨h0, hl0, hrun⟩ | ⟨key, u, kl, y, w3, cnt3, hkey, hlk, hu, hat, hrun, hrg1, hlt, hg1, hs1, hen⟩
    · have HP : Aside0 (Xs.Perm Ls) := ⟨HI.out.came.fin hl0⟩
      have d0 := (blk_cell HI.out.blk 0).trans rfl
      have hcon := sort_ids.calls wr w.heap.size (fun _ => True) A c N Xs HI.out.row HN.out (by rw [HP.out.length_eq]; have := HF.out.len; omega) (((HP.out.map _).nodup_iff).2 HF.out.nodup)
      rw [byId_eq HP.out HS.out] at hcon
      have HNL : Aside0 (N = Ls.length) := ⟨by rw [HN.out, HP.out.length_eq]⟩
      clear hl0 h0
      go_wp2_with fail
      refine hcon.mono ?_
      clear hcon
      rintro e w4 ⟨rfl, hr4, hg4⟩
      have HR4 := Aside0.mk hr4
      have HC4 : Aside0 (w4.heap[w.heap.size]? = some (.cells #[.slice A N c] 76 (0, 0))) := ⟨(hg4.block _ (blk_lt HI.out.blk) (KT.not_list HI.out.row HI.out.blk)).trans HI.out.blk⟩
      have HB4 : Aside0 (Below w.heap.size w w4) := ⟨HI.out.bel.grown hg4 HI.out.bel.size (fun k e => ((Kd.R_bound HI.out.row).1 k e).2.1)⟩
      clear hr4 hg4
      go_wp2_with fail
      go_ret
      rw [HNL.out] at HR4 HC4
      exact ⟨A, c, rfl, blk_lt HC4.out, (blk_cell HC4.out 0).trans rfl, HR4.out, HB4.out⟩
    · obtain ⟨x, rfl, rfl, hwx⟩ := Maps.keyOf_int_inv Try.underlying22 hkey
      obtain ⟨z, rfl, rfl, hwz⟩ := plainElem_int_inv Try.underlying22 hu
      have hcm := Came.entry HF.out.map HF.out.nodup HI.out.came hlk hat
      have hne : some w.heap.size ≠ some (w.heap.size + 1) := fun e => by injection e with e; omega
      have hrow3 : KT w3 w.heap.size (fun _ => True) (.slice A N c) Xs := by
        have hb := Kd.R_bound HI.out.row
        refine Kd.R_mono (Kd.R_step hb (fun k hk hkl => hg1.block k hkl (fun e => ?_))) (fun _ _ => trivial)
        obtain ⟨_, _, _, q, hq, cells, hc⟩ := hk
        injection e with e
        obtain ⟨es, clock, since, seen, c0, _, _, _, _, h5, _⟩ := HI.out.rg
        rw [← e] at h5
        rw [h5] at hc
        cases hc
      have hblk3 : w3.heap[w.heap.size]? = some (.cells #[.slice A N c] 76 (0, 0)) := (hg1.block _ (blk_lt HI.out.blk) hne).trans HI.out.blk
      have hbel3 : Below w.heap.size w w3 := HI.out.bel.grown hg1 HI.out.bel.size (fun k e => by injection e with e; omega)
      have d0 := (blk_cell hblk3 0).trans rfl
      have HB3 := Aside0.mk hblk3
      have HR3 := Aside0.mk hrow3
      have HE := Aside0.mk hbel3
      have HG3 := Aside0.mk hrg1
      have HLT := Aside0.mk hlt
      have HCM := Aside0.mk hcm.1
      have HLN : Aside0 ((Xs.length + 1) * 16 ≤ 140737488355328) := ⟨by have := HI.out.came.len; have := HF.out.len; omega⟩
      clear hblk3 hrow3 hbel3 hrg1 hlt hcm hat hlk hkey hu hg1 hs1 hne
      go_wp2_with (first
        | ((with_reducible refine gate_builtin (b := .append) (xs := #[.tmp 18, .tmp 22]) rfl ?_); at_builtin; refine Kd.R_append kT (w0 := w) w.heap.size rfl (.tmp 18) (.tmp 22) 76 84 (.agg #[.int .u64 0, .int .u64 0]) 16 rfl Try.underlying76 info84 rfl (by decide) (by decide) (.slice A N c) Xs (x, z) [.int .u64 x, .int .u64 z] (fun _ => True) (fun _ => False) rfl rfl (kT_M _ _ _ _) (fun _ h => h.elim) (fun _ _ => trivial) HR3.out HE.out HE.out.size HLN.out ?_; intro v5 w5 ho hb hg hat; obtain ⟨A5, c5, hv5⟩ := Kd.R_slice ho; obtain ⟨N5, hN5⟩ : ∃ N5, N5 = (Xs ++ [(x, z)]).length := ⟨_, rfl⟩; rw [← hN5] at hv5; subst hv5; have hb5 := (hg.block _ (blk_lt HB3.out) (KT.not_list HR3.out HB3.out)).trans HB3.out; have d5 := (blk_cell hb5 0).trans rfl; have f5 := blk_frozen hb5 0; have HN5 : Aside0 (EachI w (w5.setCell ⟨w.heap.size, 0, none⟩ (.slice A5 N5 c5)) m (w.heap.size + 1) (Maps.size D) D Ls (fun q => left q && !q.sameKey (.int .u64 x)) cnt3 (Xs ++ [(x, z)]) (.slice A5 N5 c5)) := ⟨⟨EachI.rg_step HG3.out HR3.out hg hb5 _, blk_put hb5 0 _ rfl, Kd.R_set ho hb5 (by decide) 0 _, HCM.out, hb.setCell (p := ⟨w.heap.size, 0, none⟩) (Nat.le_refl _) _⟩⟩; clear ho hb hg hat hb5 hN5)
        | go_in)
      go_roundw
      case rel => exact ⟨_, cnt3, _, _, HN5⟩
      case measure => rw [HN5.out.rg.left_eq, HI.out.rg.left_eq]; exact HLT.out
end Go.Proofs.Ytkgdlmgodpgcoaa.Hand
