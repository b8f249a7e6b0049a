/- Limits: forward, Sweep, Forgive, Clear and Try, told by lists. Limits: Try, told by lists. Limits: sort.Strings laid; the program's Subjects. Limits: the program's Subjects. Limits: the document's limit in memory; its Sweep. Limits: the document's Forgive. Limits: the document's Try. -/
import Derived.Test.YtgdjoochbgeokaaLimMA
import Derived.Shelf.Sort.Plain
import Derived.Shelf.Slices.In.SortNone2
import Derived.Sort.OwnSorted
namespace Go.Proofs.Ytgdjoochbgeokaa.Hand
open Go.RowKit Go.Maps Go.Proofs.YtgdjoochbgeokaaW.PrintWords Go.Proofs.YtgdjoochbgeokaaW.PrintLast Go.Proofs.YtgdjoochbgeokaaW.PrintMore Go.Proofs.Ytgdjoochbgeokaa.Q
set_option linter.unusedVariables false
set_option linter.unusedSimpArgs false
abbrev Gm (g m : Nat) : Nat → Prop := fun b => b = g ∨ b = m
theorem LSt.purged {w w1 : World} {g m n : Nat} {tr mo sp ck t : Int} {Es : List Win} {D D1 : DW} (h : LSt w g m tr mo sp ck Es) (hM : MapW D Es) (ht : ck ≤ t ∧ t ≤ 18446744073709551615) (hL : LimAt w1 g m tr mo sp t) (hO : Owns w1 m n D1) (hP : Purged D D1 t sp) : LSt w1 g m tr mo sp t (Es.filter (al sp t)) where
  lim := hL
  own := ⟨n, D1, hO, hM.purge (fun x hx => ⟨(h.beg x hx).1, by have := (h.beg x hx).2; omega⟩) ht.2 hP⟩
  nodup := h.nodup.sublist (List.Sublist.map _ List.filter_sublist)
  beg := fun x hx => ⟨(h.beg x (List.mem_filter.1 hx).1).1, by have := (h.beg x (List.mem_filter.1 hx).1).2; omega⟩
  use := fun x hx => h.use x (List.mem_filter.1 hx).1
  len := by have := List.length_filter_le (al sp t) Es; have := h.len; omega
  ckB := by have := h.ckB; omega
  trB := h.trB
  moB := h.moB
  spB := h.spB
theorem limit_forward.all {w : World} {g m : Nat} {tr mo sp ck : Int} {Es : List Win} (h : LSt w g m tr mo sp ck Es) (now : Int) (hnow : 0 ≤ now ∧ now ≤ 18446744073709551615) (t : Int) (ht : t = max now ck) :
    Calls Try.prog 20 #[.pointer (some ⟨g, 0, none⟩), .int .u64 now] w fun e w' => (∃ v, e = .returned v) ∧ KeptL (Gm g m) w w' ∧ LSt w' g m tr mo sp t (Es.filter (al sp t)) := by
  obtain ⟨n, D, hO, hM⟩ := h.own
  refine (limit_forward.calls g m n tr mo sp ck now D w h.lim hO).mono ?_
  rintro e w' ⟨h1, h2, D', h3, h4, h5⟩
  rw [← ht] at h3 h5
  exact ⟨h1, h2, h.purged hM (by have := h.ckB; omega) h3 h4 h5⟩
set_option maxHeartbeats 1000000 in
theorem limit_Sweep.all {w : World} {g m : Nat} {tr mo sp ck : Int} {Es : List Win} (h : LSt w g m tr mo sp ck Es) (now : Int) (hnow : 0 ≤ now ∧ now ≤ 18446744073709551615) (t : Int) (ht : t = max now ck) :
    Calls Try.prog 12 #[.pointer (some ⟨g, 0, none⟩), .int .u64 now] w fun e w' => e = .returned (.int .i64 ((Es.filter (al sp t)).length : Int)) ∧ KeptL (Gm g m) w w' ∧ LSt w' g m tr mo sp t (Es.filter (al sp t)) := by
  have HS := Aside0.mk h
  have HT := Aside0.mk ht
  clear h ht
  go_enter Try.func12, Try.ntmps12
  go_wp2_with fail
  refine (limit_forward.all HS.out now hnow t HT.out).mono ?_
  rintro x w1 ⟨⟨v, rfl⟩, hK, hS⟩
  obtain ⟨n, D, hO, hM⟩ := hS.own
  have hlen := hO.len Try.underlying56
  rw [hS.size_ hO hM] at hlen
  have c4 := (blk_cell hS.lim 4).trans rfl
  have HR := Aside0.mk (And.intro hK hS)
  clear hK hS hO hM
  go_wp2_with fail
  go_ret
  exact ⟨rfl, HR.out.1, HR.out.2⟩
/-- A window is struck. -/
theorem LSt.struck {w w1 : World} {g m n : Nat} {tr mo sp ck : Int} {Es : List Win} {D : DW} {s : ByteArray} (h : LSt w g m tr mo sp ck Es) (hM : MapW D Es) (hL : LimAt w1 g m tr mo sp ck) (hO : Owns w1 m n (D.del (ks s))) : LSt w1 g m tr mo sp ck (Es.filter fun x => !decide (x.1 = s)) where
  lim := hL
  own := ⟨n, _, hO, hM.del⟩
  nodup := h.nodup.sublist (List.Sublist.map _ List.filter_sublist)
  beg := fun x hx => h.beg x (List.mem_filter.1 hx).1
  use := fun x hx => h.use x (List.mem_filter.1 hx).1
  len := by have := List.length_filter_le (fun x : Win => !decide (x.1 = s)) Es; have := h.len; omega
  ckB := h.ckB
  trB := h.trB
  moB := h.moB
  spB := h.spB
set_option maxHeartbeats 2000000 in
set_option maxRecDepth 100000 in
theorem limit_Forgive.all {w : World} {g m : Nat} {tr mo sp ck : Int} {Es : List Win} (h : LSt w g m tr mo sp ck Es) (s : ByteArray) (hsz : s.size ≤ 9223372036854775807) :
    Calls Try.prog 18 #[.pointer (some ⟨g, 0, none⟩), .string s] w fun e w' => e = .returned (.bool (look (Es.filter (al sp ck)) s).isSome) ∧ KeptL (Gm g m) w w' ∧ LSt w' g m tr mo sp ck ((Es.filter (al sp ck)).filter fun x => !decide (x.1 = s)) := by
  have HS := Aside0.mk h
  have HZ := Aside0.mk hsz
  clear h hsz
  go_enter Try.func18, Try.ntmps18
  go_wp2_with fail
  refine (limit_forward.all HS.out 0 (by omega) ck (by have := HS.out.ckB; omega)).mono ?_
  rintro x w1 ⟨⟨v, rfl⟩, hK, hS⟩
  obtain ⟨E, hE⟩ : ∃ E, E = Es.filter (al sp ck) := ⟨_, rfl⟩
  rw [← hE] at hS
  have HK := Aside0.mk hK
  have HS1 := Aside0.mk hS
  have HE := Aside0.mk hE
  clear hK hS hE HS
  obtain ⟨n, D, hO, hM⟩ := HS1.out.own
  have hkey := WideMaps.keyOf_string_mk (P := Try.prog) Try.underlying9 (s := s) (by have := HZ.out; unfold maxLen; omega)
  have HKY := Aside0.mk hkey
  obtain ⟨v, ps, hlook, hv⟩ := hO.look_ok lawS Try.underlying56 (zero54 _) (winElem_mk (b := 0) (u := 0) (by decide) (by decide)) hkey
  obtain ⟨⟨b, u⟩, rfl, hvd, hb, hu⟩ := winElem_inv hv
  simp only at hlook hb hu
  have hhas : Maps.has D (Lit.string s.data.toList) = (look E s).isSome := by
    show Maps.has D (ks s) = _
    rw [has_view, hM.look_ HS1.out.nodup s, Option.isSome_map]
  rw [hhas] at hlook
  have HM := Aside0.mk hM
  have c4 := (blk_cell HS1.out.lim 4).trans rfl
  have HLA : Aside0 (LimAt (w1.alloc (.cells #[.int .u64 b, .int .i64 u] 54)) g m tr mo sp ck) := ⟨blk_alloc HS1.out.lim _⟩
  have HOA := Aside0.mk (hO.alloc (.cells #[.int .u64 b, .int .i64 u] 54))
  have HKA := Aside0.mk (HK.out.alloc (.cells #[.int .u64 b, .int .i64 u] 54))
  have HBA : Aside0 ((w1.alloc (.cells #[.int .u64 b, .int .i64 u] 54)).heap[w1.heap.size]? = some (.cells #[.int .u64 b, .int .i64 u] 54 (0, 0))) := ⟨blk_new w1 _⟩
  have d0 := (blk_cell HBA.out 0).trans rfl
  have d1 := (blk_cell HBA.out 1).trans rfl
  have hgm := hO.not_lim HS1.out.lim
  clear hv hvd hkey hhas hM hO
  have c4A := (blk_cell HLA.out 4).trans rfl
  clear HBA
  go_wp2_with (first
    | (at_delete; refine wpList_delete_own _ rfl _ _ 56 9 rfl 54 lawS Try.underlying56 winElem m n D rfl HOA.out _ _ rfl HKY.out ?_; intro w6 ho6 hturn; have HO6 := Aside0.mk ho6; have HL6 : Aside0 (LimAt w6 g m tr mo sp ck) := Aside0.mk (HLA.out.grown hturn.grown (fun e => hgm (Option.some.inj e).symm)); have HK6 := Aside0.mk (HKA.out.grown hturn.grown (fun k e => by cases e; exact .inl (.inr rfl))); clear ho6 hturn)
    | go_in)
  go_ret
  rw [← HE.out]
  exact ⟨rfl, HK6.out, HS1.out.struck HM.out HL6.out HO6.out⟩
set_option maxHeartbeats 1000000 in
theorem limit_Clear.all {w : World} {g m : Nat} {tr mo sp ck : Int} {Es : List Win} (h : LSt w g m tr mo sp ck Es) :
    Calls Try.prog 15 #[.pointer (some ⟨g, 0, none⟩)] w fun e w' => (∃ v, e = .returned v) ∧ KeptL (Gm g m) w w' ∧ LSt w' g m tr mo sp 0 [] := by
  have HS := Aside0.mk h
  obtain ⟨n, D, hO, hM⟩ := h.own
  have hgm := hO.not_lim h.lim
  obtain ⟨es, clock, hb, _⟩ := hO
  have c4 := (blk_cell h.lim 4).trans rfl
  obtain ⟨w1, hw1⟩ : ∃ w1, w1 = ({ w with heap := w.heap.setIfInBounds m (.map #[] clock) } : World) := ⟨_, rfl⟩
  have hcl : ∀ ty, (Builtin.clear_ #[56] ty #[.map (some m)]).run Try.prog w = .ok (.tuple #[]) w1 := fun ty => by
    rw [hw1]
    simp [Builtin.clear_, run_underlying Try.underlying56, MapKept.run_getObj_map hb, MapKept.run_setObj_map _ hb, Result.andThen]
  have hm : m < w.heap.size := blk_lt hb
  have HKM : Aside0 (KeptL (Gm g m) w w1) := ⟨by
    rw [hw1]
    exact ⟨rfl, rfl, rfl, by simp, fun k hk hS => by
      show (w.heap.setIfInBounds m _)[k]? = _
      rw [Array.getElem?_setIfInBounds_ne (fun e => hS (.inr e.symm))]⟩⟩
  have HL1 : Aside0 (LimAt w1 g m tr mo sp ck) := ⟨by
    rw [hw1]
    show (w.heap.setIfInBounds m _)[g]? = _
    rw [Array.getElem?_setIfInBounds_ne hgm]
    exact h.lim⟩
  have HB1 : Aside0 (w1.heap[m]? = some (.map #[] clock)) := ⟨by
    rw [hw1]
    show (w.heap.setIfInBounds m _)[m]? = _
    rw [Array.getElem?_setIfInBounds_self_of_lt hm]⟩
  have c3 := (blk_cell HL1.out 3).trans rfl
  have hfz := blk_frozen HL1.out 3
  clear h hM hb hm hw1
  go_enter Try.func15, Try.ntmps15
  go_wp2_with fail
  go_end0
  refine ⟨⟨_, rfl⟩, HKM.out.setCell _ _ (.inl (.inl rfl)), ?_⟩
  exact { lim := HL1.out.clock 0
          own := ⟨0, .map [], ⟨#[], clock, (Below.heap_setCell _ ⟨g, 3, none⟩ _ m (fun e => hgm e)).trans HB1.out, ⟨by simp, MapKept.stamped_empty _, by simp⟩, Nat.le_refl _, rfl⟩, MapW.empty⟩
          nodup := List.nodup_nil
          beg := fun x hx => by cases hx
          use := fun x hx => by cases hx
          len := by have := HS.out.moB; simp; omega
          ckB := by omega
          trB := HS.out.trB
          moB := HS.out.moB
          spB := HS.out.spB }
end Go.Proofs.Ytgdjoochbgeokaa.Hand
namespace Go.Proofs.Ytgdjoochbgeokaa.Hand
open Go.RowKit Go.Maps Go.Proofs.YtgdjoochbgeokaaW.PrintWords Go.Proofs.YtgdjoochbgeokaaW.PrintLast Go.Proofs.YtgdjoochbgeokaaW.PrintMore Go.Proofs.Ytgdjoochbgeokaa.Q
set_option linter.unusedVariables false
set_option linter.unusedSimpArgs false
def tryN (tr mo : Int) (s : ByteArray) (E : List Win) : Int := if whyI tr mo s E = 0 then (match look E s with | some x => tr - (x.2.2 + 1) | none => tr - 1) else 0
def tryC (ck t : Int) (s : ByteArray) : Int := if (s.size : Int) > 256 then ck else t
def others (E : List Win) (s : ByteArray) : List Win := E.filter fun x => !decide (x.1 = s)
def tryL (tr mo t : Int) (s : ByteArray) (Es E : List Win) : List Win :=
  if (s.size : Int) > 256 then Es else if whyI tr mo s E = 0 then (match look E s with | some x => (s, x.2.1, x.2.2 + 1) :: others E s | none => E ++ [(s, t, 1)]) else E
theorem why_long {tr mo : Int} {s : ByteArray} {E : List Win} (hs : (s.size : Int) > 256) : whyI tr mo s E = 1 := by unfold whyI; rw [if_pos hs]
theorem why_spent {tr mo : Int} {s : ByteArray} {E : List Win} {x : Win} (hs : ¬ (s.size : Int) > 256) (hl : look E s = some x) (hu : x.2.2 ≥ tr) : whyI tr mo s E = 80 := by
  unfold whyI
  rw [if_neg hs, hl]
  exact if_pos hu
theorem why_room {tr mo : Int} {s : ByteArray} {E : List Win} {x : Win} (hs : ¬ (s.size : Int) > 256) (hl : look E s = some x) (hu : ¬ x.2.2 ≥ tr) : whyI tr mo s E = 0 := by
  unfold whyI
  rw [if_neg hs, hl]
  exact if_neg hu
theorem why_full {tr mo : Int} {s : ByteArray} {E : List Win} (hs : ¬ (s.size : Int) > 256) (hl : look E s = none) (hm : (E.length : Int) ≥ mo) : whyI tr mo s E = 5 := by
  unfold whyI
  rw [if_neg hs, hl]
  exact if_pos hm
theorem why_new {tr mo : Int} {s : ByteArray} {E : List Win} (hs : ¬ (s.size : Int) > 256) (hl : look E s = none) (hm : ¬ (E.length : Int) ≥ mo) : whyI tr mo s E = 0 := by
  unfold whyI
  rw [if_neg hs, hl]
  exact if_neg hm
theorem others_names {E : List Win} {s : ByteArray} : s ∉ (others E s).map (·.1) := fun h => by
  obtain ⟨x, hx, rfl⟩ := List.mem_map.1 h
  have := (List.mem_filter.1 hx).2
  simp at this
theorem others_length {E : List Win} {s : ByteArray} {x : Win} (hN : (E.map (·.1)).Nodup) (hl : look E s = some x) : (others E s).length + 1 = E.length := by
  obtain ⟨h1, h2⟩ := look_some hl
  have h3 := (filter_two (fun y : Win => decide (y.1 = x.1)) (fun y => !decide (y.1 = x.1)) E (fun y _ h => by simp at h ⊢; exact h)).length_eq
  have h4 : (E.filter fun y : Win => decide (y.1 = x.1) || !decide (y.1 = x.1)) = E := List.filter_eq_self.2 (fun y _ => by simp)
  rw [List.length_append, filter_name hN h1, List.length_singleton, h4, h2] at h3
  unfold others
  omega
theorem limit_Try.all {w : World} {g m : Nat} {tr mo sp ck : Int} {Es : List Win} (h : LSt w g m tr mo sp ck Es) (s : ByteArray) (now : Int) (hnow : 0 ≤ now ∧ now ≤ 18446744073709551615) (t : Int) (ht : t = max now ck) :
    Calls Try.prog 10 #[.pointer (some ⟨g, 0, none⟩), .string s, .int .u64 now] w fun e w' => e = .returned (.tuple #[.int .i64 (tryN tr mo s (Es.filter (al sp t))), .int .i64 (whyI tr mo s (Es.filter (al sp t)))]) ∧ KeptL (Gm g m) w w' ∧
      LSt w' g m tr mo sp (tryC ck t s) (tryL tr mo t s Es (Es.filter (al sp t))) := by
  obtain ⟨n, D, hO, hM⟩ := h.own
  refine (limit_Try.calls g m n tr mo sp ck now s D w h.lim hO h.ckB hnow h.trB h.moB.2 (h.good hO hM)).mono ?_
  rintro e w' ⟨D', ck', r, err, n', rfl, hK, hL, hO', hT⟩
  have htB : ck ≤ t ∧ t ≤ 18446744073709551615 := by have := h.ckB; omega
  obtain ⟨E, hE⟩ : ∃ E, E = Es.filter (al sp t) := ⟨_, rfl⟩
  rw [← hE]
  rcases hT with ⟨h1, rfl, rfl, rfl, rfl⟩ | ⟨h1, rfl, D1, hTd, hP, h2⟩
  · have hs : (s.size : Int) > 256 := by omega
    have hw := why_long (tr := tr) (mo := mo) (E := E) hs
    refine ⟨by unfold tryN; rw [hw, if_neg (by decide)], hK, ?_⟩
    unfold tryC tryL
    rw [if_pos hs, if_pos hs]
    exact { h with lim := hL, own := ⟨n', _, hO', hM⟩ }
  · have hs : ¬ (s.size : Int) > 256 := by omega
    rw [← ht] at hL hP h2
    have hM1 : MapW D1 E := by rw [hE]; exact hM.purge (fun x hx => ⟨(h.beg x hx).1, by have := (h.beg x hx).2; omega⟩) htB.2 hP
    have hN : (E.map (·.1)).Nodup := by rw [hE]; exact h.nodup.sublist (List.Sublist.map _ List.filter_sublist)
    have hbeg : ∀ x, x ∈ E → 0 ≤ x.2.1 ∧ x.2.1 ≤ t := fun x hx => by
      rw [hE] at hx
      have := h.beg x (List.mem_filter.1 hx).1
      omega
    have huse : ∀ x, x ∈ E → 1 ≤ x.2.2 ∧ x.2.2 ≤ tr := fun x hx => by
      rw [hE] at hx
      exact h.use x (List.mem_filter.1 hx).1
    have hlen : (E.length : Int) ≤ mo := by rw [hE]; have := List.length_filter_le (al sp t) Es; have := h.len; omega
    have htB2 : 0 ≤ t ∧ t ≤ 18446744073709551615 := by have := h.ckB; omega
    have hlk := hM1.look_ hN s
    have hC : tryC ck t s = t := by unfold tryC; rw [if_neg hs]
    rw [hC]
    rcases h2 with ⟨b, u, hv, hu, rfl, rfl, rfl⟩ | ⟨b, u, hv, hu, rfl, rfl, rfl⟩ | ⟨hv, hm, rfl, rfl, rfl⟩ | ⟨hv, hm, rfl, rfl, rfl⟩
    · rw [hv] at hlk
      cases hl : look E s with
      | none => rw [hl] at hlk; cases hlk
      | some x =>
        rw [hl] at hlk
        obtain ⟨e1, e2⟩ := wv_inj (Option.some.inj hlk)
        have hw := why_spent (mo := mo) hs hl (by omega : x.2.2 ≥ tr)
        refine ⟨by unfold tryN; rw [hw, if_neg (by decide)], hK, ?_⟩
        unfold tryL
        rw [if_neg hs, hw, if_neg (by decide)]
        exact ⟨hL, ⟨n', _, hO', hM1⟩, hN, hbeg, huse, hlen, htB2, h.trB, h.moB, h.spB⟩
    · rw [hv] at hlk
      cases hl : look E s with
      | none => rw [hl] at hlk; cases hlk
      | some x =>
        rw [hl] at hlk
        obtain ⟨e1, e2⟩ := wv_inj (Option.some.inj hlk)
        have hw := why_room (mo := mo) hs hl (by omega : ¬ x.2.2 ≥ tr)
        obtain ⟨hx1, hx2⟩ := look_some hl
        refine ⟨by unfold tryN; rw [hw, if_pos rfl, hl, e2], hK, ?_⟩
        unfold tryL
        rw [if_neg hs, hw, if_pos rfl, hl]
        subst e1 e2
        refine ⟨hL, ⟨n', _, hO', hM1.put_old hTd.isMap _ _⟩, ?_, ?_, ?_, ?_, htB2, h.trB, h.moB, h.spB⟩
        · rw [List.map_cons, List.nodup_cons]
          exact ⟨others_names, hN.sublist (List.Sublist.map _ List.filter_sublist)⟩
        · intro y hy
          rcases List.mem_cons.1 hy with rfl | hy
          · exact hbeg x hx1
          · exact hbeg y (List.mem_filter.1 hy).1
        · intro y hy
          rcases List.mem_cons.1 hy with rfl | hy
          · have := huse x hx1
            show 1 ≤ x.2.2 + 1 ∧ x.2.2 + 1 ≤ tr
            omega
          · exact huse y (List.mem_filter.1 hy).1
        · have := others_length hN hl
          rw [List.length_cons]
          omega
    · have hl : look E s = none := by
        rw [hv] at hlk
        cases hl : look E s with
        | none => rfl
        | some x => rw [hl] at hlk; cases hlk
      rw [hM1.size hTd (hO'.canon lawS) hN] at hm
      have hw := why_full (tr := tr) hs hl hm
      refine ⟨by unfold tryN; rw [hw, if_neg (by decide)], hK, ?_⟩
      unfold tryL
      rw [if_neg hs, hw, if_neg (by decide)]
      exact ⟨hL, ⟨n', _, hO', hM1⟩, hN, hbeg, huse, hlen, htB2, h.trB, h.moB, h.spB⟩
    · have hl : look E s = none := by
        rw [hv] at hlk
        cases hl : look E s with
        | none => rfl
        | some x => rw [hl] at hlk; cases hlk
      have hM2 := hM1.put_new (s := s) hTd.isMap (look_none.1 hl) t 1
      have hN2 : ((E ++ [((s, t, 1) : Win)]).map (fun x : Win => x.1)).Nodup := by
        rw [List.map_append, List.nodup_append]
        refine ⟨hN, List.pairwise_singleton _ _, fun a ha b hb e => ?_⟩
        obtain ⟨x, hx, hxa⟩ := List.mem_map.1 ha
        have hb2 : b = s := by simpa using hb
        exact look_none.1 hl x hx (hxa.trans (e.trans hb2))
      have hsz := hM2.size (hO'.tidy lawS) (hO'.canon lawS) hN2
      rw [size_put hTd, if_neg (by rw [has_view, hv]; decide), List.length_append, List.length_singleton] at hsz
      have hsz2 : Maps.size D1 = E.length := by omega
      rw [hsz2] at hm
      have hw := why_new (tr := tr) (mo := mo) hs hl (by omega)
      refine ⟨by unfold tryN; rw [hw, if_pos rfl, hl], hK, ?_⟩
      unfold tryL
      rw [if_neg hs, hw, if_pos rfl, hl]
      refine ⟨hL, ⟨n', _, hO', hM2⟩, hN2, ?_, ?_, by rw [List.length_append, List.length_singleton]; omega, htB2, h.trB, h.moB, h.spB⟩
      · intro y hy
        rcases List.mem_append.1 hy with hy | hy
        · exact hbeg y hy
        · rw [List.mem_singleton] at hy
          rw [hy]
          exact ⟨htB2.1, Int.le_refl _⟩
      · intro y hy
        rcases List.mem_append.1 hy with hy | hy
        · exact huse y hy
        · rw [List.mem_singleton] at hy
          rw [hy]
          exact ⟨Int.le_refl _, h.trB.1⟩
end Go.Proofs.Ytgdjoochbgeokaa.Hand
namespace Go.Proofs.Ytgdjoochbgeokaa.Hand
open Go.RowKit Go.Maps Go.Proofs.YtgdjoochbgeokaaW.PrintWords Go.Proofs.YtgdjoochbgeokaaW.PrintLast Go.Proofs.YtgdjoochbgeokaaW.PrintMore Go.Proofs.Ytgdjoochbgeokaa.Q
set_option linter.unusedVariables false
set_option linter.unusedSimpArgs false
def sortS_ren : Go.Shelf.Ren := ⟨fun | 192 => 32 | 190 => 37 | 125 => 39 | 258 => 38 | 128 => 49 | 129 => 50 | 302 => 40 | 303 => 41 | 304 => 42 | 305 => 43 | 306 => 44 | 307 => 45 | 308 => 46 | 309 => 47 | 310 => 48 | 333 => 51 | 329 => 52 | 330 => 53 | 334 => 54 | 335 => 55 | 336 => 56 | 344 => 57 | n => n, fun | 31 => 50 | 0 => 0 | 9 => 9 | 3 => 3 | 46 => 78 | 51 => 89 | 53 => 22 | 4 => 4 | 183 => 81 | 182 => 80 | 131 => 86 | 5 => 5 | 218 => 90 | 222 => 94 | 228 => 96 | 229 => 97 | n => n, fun | n => n⟩
theorem sortS : Go.Proofs.Lays.n192 Try.prog sortS_ren where
  mixed := by kernel_rfl
  f125 := Try.func39.trans (congrArg some (by kernel_rfl))
  f128 := Try.func49.trans (congrArg some (by kernel_rfl))
  f129 := Try.func50.trans (congrArg some (by kernel_rfl))
  f190 := Try.func37.trans (congrArg some (by kernel_rfl))
  f192 := Try.func32.trans (congrArg some (by kernel_rfl))
  f258 := Try.func38.trans (congrArg some (by kernel_rfl))
  f302 := Try.func40.trans (congrArg some (by kernel_rfl))
  f303 := Try.func41.trans (congrArg some (by kernel_rfl))
  f304 := Try.func42.trans (congrArg some (by kernel_rfl))
  f305 := Try.func43.trans (congrArg some (by kernel_rfl))
  f306 := Try.func44.trans (congrArg some (by kernel_rfl))
  f307 := Try.func45.trans (congrArg some (by kernel_rfl))
  f308 := Try.func46.trans (congrArg some (by kernel_rfl))
  f309 := Try.func47.trans (congrArg some (by kernel_rfl))
  f310 := Try.func48.trans (congrArg some (by kernel_rfl))
  f329 := Try.func52.trans (congrArg some (by kernel_rfl))
  f330 := Try.func53.trans (congrArg some (by kernel_rfl))
  f333 := Try.func51.trans (congrArg some (by kernel_rfl))
  f334 := Try.func54.trans (congrArg some (by kernel_rfl))
  f335 := Try.func55.trans (congrArg some (by kernel_rfl))
  f336 := Try.func56.trans (congrArg some (by kernel_rfl))
  f344 := Try.func57.trans (congrArg some (by kernel_rfl))
  t0 := Try.underlying0
  a0 := Try.isAgg0
  z0 := Try.sizeOf0
  v0 := Try.zeroValue0
  t3 := Try.underlying3
  a3 := Try.isAgg3
  z3 := Try.sizeOf3
  v3 := Try.zeroValue3
  t4 := Try.underlying4
  a4 := Try.isAgg4
  z4 := Try.sizeOf4
  v4 := Try.zeroValue4
  t5 := Try.underlying5
  a5 := Try.isAgg5
  z5 := Try.sizeOf5
  v5 := Try.zeroValue5
  t9 := Try.underlying9
  a9 := Try.isAgg9
  z9 := Try.sizeOf9
  v9 := Try.zeroValue9
  t31 := Try.underlying50
  a31 := Try.isAgg50
  z31 := Try.sizeOf50
  v31 := Try.zeroValue50
  t46 := Try.underlying78
  a46 := Try.isAgg78
  z46 := Try.sizeOf78
  v46 := Try.zeroValue78
  t51 := Try.underlying89
  a51 := Try.isAgg89
  z51 := Try.sizeOf89
  v51 := Try.zeroValue89
  t53 := Try.underlying22
  a53 := Try.isAgg22
  z53 := Try.sizeOf22
  v53 := Try.zeroValue22
  t131 := Try.underlying86
  a131 := Try.isAgg86
  z131 := Try.sizeOf86
  v131 := Try.zeroValue86
  t182 := Try.underlying80
  a182 := Try.isAgg80
  z182 := Try.sizeOf80
  v182 := Try.zeroValue80
  t183 := Try.underlying81
  a183 := Try.isAgg81
  z183 := Try.sizeOf81
  v183 := Try.zeroValue81
  t218 := Try.underlying90
  a218 := Try.isAgg90
  z218 := Try.sizeOf90
  v218 := Try.zeroValue90
  t222 := Try.underlying94
  a222 := Try.isAgg94
  z222 := Try.sizeOf94
  v222 := Try.zeroValue94
  t228 := Try.underlying96
  a228 := Try.isAgg96
  z228 := Try.sizeOf96
  v228 := Try.zeroValue96
  t229 := Try.underlying97
  a229 := Try.isAgg97
  z229 := Try.sizeOf97
  v229 := Try.zeroValue97

theorem str_mk (b : ByteArray) : Go.Proofs.encStr (nm b) = .string b := by
  show Value.string ⟨(nm b).toArray⟩ = _
  unfold nm
  rw [ByteArray.toList_eq]
theorem nm_mk (l : List UInt8) : nm ⟨l.toArray⟩ = l := by
  unfold nm
  rw [ByteArray.toList_eq]
theorem encs_nm (S : List ByteArray) : encs Value.string S = (S.map nm).map Go.Proofs.encStr := by
  unfold encs
  rw [List.map_map]
  exact List.map_congr_left (fun b _ => (str_mk b).symm)
set_option maxHeartbeats 2000000 in
theorem sort_Strings.calls {w : World} {base : Nat} {v : Value} {S : List ByteArray} (h : Kd.R Kd.string 9 w base (fun _ => True) v S) (hl : S.length ≤ 1000000) :
    Calls Try.prog 32 #[v] w fun e w' => e = .returned (.tuple #[]) ∧ w.grownBy w' v.ownBlock ∧ ∃ S', Kd.R Kd.string 9 w' base (fun _ => True) v S' ∧ S'.Perm S ∧ (S'.map nm).Pairwise (· ≤ ·) := by
  have ho := Kd.own_of_R (enc := Value.string) (h1 := fun _ => rfl) h
  rcases ho.2 with ⟨rfl, e⟩ | ⟨g, cap, cur, rfl, hbase, hb, h1, h2, h3, h4⟩
  · have hS : S = [] := List.length_eq_zero_iff.1 (by
      obtain ⟨A, c, hv⟩ := Kd.R_slice h
      have h2 : (0 : Nat) = S.length := by simpa using congrArg (fun z => match z with | .slice _ n _ => n | _ => 0) hv
      exact h2.symm)
    subst hS
    refine (Go.Proofs.Any.sort_Strings_none sortS none 0 w).mono ?_
    rintro e w' ⟨rfl, rfl⟩
    exact ⟨rfl, ⟨rfl, rfl, rfl, Nat.le_refl _, fun _ _ _ => rfl⟩, [], h, List.Perm.refl _, by simp⟩
  · have h4' : cur.toList.take (S.map nm).length = (S.map nm).map Go.Proofs.encStr := by
      rw [List.length_map, ← encs_nm, ← h4, Nat.mul_one]
    have hcon := Go.Proofs.Any.sort_Strings sortS g 0 cap (S.map nm) w (Go.holds_of_block hb h4') (Array.getElem?_eq_some_iff.1 hb).1 (by rw [List.length_map]; omega)
    rw [List.length_map] at hcon
    refine Calls.mono hcon ?_
    rintro e w' ⟨rfl, n, os, rfl⟩
    obtain ⟨ts, hts⟩ : ∃ ts, ts = (S.map nm).mergeSort fun x y => decide (x ≤ y) := ⟨_, rfl⟩
    rw [← hts]
    have hperm : ts.Perm (S.map nm) := by rw [hts]; exact List.mergeSort_perm _ _
    have hlen : ts.length = (S.map nm).length := hperm.length_eq
    have hown := Go.ownsRow_sorted (n := n) (os := os) (base := base) hlen hbase hb (by rw [List.length_map]; exact h1) h2 h3
    have hmap : (ts.map fun l => (⟨l.toArray⟩ : ByteArray)).map nm = ts := by
      rw [List.map_map]
      conv => rhs; rw [← List.map_id ts]
      exact List.map_congr_left (fun l _ => nm_mk l)
    refine ⟨rfl, Go.grownBy_sorted _, ts.map fun l => ⟨l.toArray⟩, ?_, ?_, ?_⟩
    · refine Kd.R_of_own (enc := Value.string) (h1 := fun _ => rfl) ?_ (fun _ _ => trivial)
      rw [encs_nm, hmap, List.length_map, hlen]
      rw [List.length_map] at hown ⊢
      exact hown
    · have h5 := hperm.map (fun l : List UInt8 => (⟨l.toArray⟩ : ByteArray))
      have h6 : (S.map nm).map (fun l : List UInt8 => (⟨l.toArray⟩ : ByteArray)) = S := by
        rw [List.map_map]
        conv => rhs; rw [← List.map_id S]
        refine List.map_congr_left (fun b _ => ?_)
        show (⟨(nm b).toArray⟩ : ByteArray) = b
        unfold nm
        rw [ByteArray.toList_eq]
      rw [h6] at h5
      exact h5
    · rw [hmap, hts]
      have := List.pairwise_mergeSort (le := fun x y : List UInt8 => decide (x ≤ y)) (fun a b c h1 h2 => by simp at *; exact List.le_trans h1 h2) (fun a b => by simp; exact List.le_total a b) (S.map nm)
      exact this.imp (fun h => by simpa using h)
end Go.Proofs.Ytgdjoochbgeokaa.Hand
namespace Go.Proofs.Ytgdjoochbgeokaa.Hand
open Go.RowKit Go.Maps Go.Proofs.YtgdjoochbgeokaaW.PrintWords Go.Proofs.YtgdjoochbgeokaaW.PrintLast Go.Proofs.YtgdjoochbgeokaaW.PrintMore Go.Proofs.Ytgdjoochbgeokaa.Q
set_option linter.unusedVariables false
set_option linter.unusedSimpArgs false
def namesA (sp t : Int) (l : List Win) : List ByteArray := (l.filter (al sp t)).map (·.1)
theorem namesA_snoc (sp t : Int) (l : List Win) (x : Win) : namesA sp t (l ++ [x]) = if al sp t x = true then namesA sp t l ++ [x.1] else namesA sp t l := by
  unfold namesA
  rw [List.filter_append]
  by_cases h : al sp t x = true
  · rw [if_pos h, List.filter_cons_of_pos h, List.map_append]
    rfl
  · rw [if_neg h, List.filter_cons_of_neg h]
    simp
set_option maxHeartbeats 2000000 in
set_option maxRecDepth 100000 in
theorem limit_Subjects.all {w : World} {g m : Nat} {tr mo sp ck : Int} {Es : List Win} (h : LSt w g m tr mo sp ck Es) :
    Calls Try.prog 19 #[.pointer (some ⟨g, 0, none⟩)] w fun e w' => ∃ v S, e = .returned v ∧ Kd.R Kd.string 9 w' w.heap.size (fun _ => True) v S ∧ Below w.heap.size w w' ∧ S.Perm (namesA sp ck Es) ∧ (S.map nm).Pairwise (· ≤ ·) := by
  obtain ⟨n, D, hO, hM⟩ := h.own
  have HS := Aside0.mk h
  have HM := Aside0.mk hM
  have HO := Aside0.mk hO
  have HC0 : Aside0 (CameW Es (Maps.has D) []) := ⟨CameW.start hM⟩
  have c4 := (blk_cell h.lim 4).trans rfl
  clear h hO hM
  go_enter Try.func19, Try.ntmps19
  go_wp2_with (first
    | (at_range; refine wpList_range_own _ rfl _ 56 rfl 9 54 lawS Try.underlying56 winElem m n D rfl HO.out ?_; intro w2 hrg0 hg0 hs0; have HR0 := Aside0.mk hrg0; have HK0 : Aside0 (Below w.heap.size w w2) := ⟨⟨hg0.os, hg0.tape, hg0.output, hg0.size, fun k hk => hg0.block k hk (by simp)⟩⟩; clear hrg0 hg0 hs0)
    | go_in)
  go_frame
  clear c4
  obtain ⟨r, hr⟩ : ∃ r, r = w.heap.size := ⟨_, rfl⟩
  have HSR := Aside0.mk hr
  rw [← hr] at HR0 ⊢
  clear hr
  go_loopw [3] (fun v3 wr => ∃ (S : List ByteArray) (left : Lit → Bool) (cnt : Nat), Aside0 (Kd.R Kd.string 9 wr w.heap.size (fun _ => True) v3 S) ∧ Aside0 (wr.ranges Try.prog 9 winElem m r n D left cnt) ∧ Aside0 (∃ Xs, CameW Es left Xs ∧ S = namesA sp ck Xs) ∧ Aside0 (Below w.heap.size w wr)) (fun _ wr => wr.rangeLeft m r)
  case atStart => exact ⟨[], _, _, ⟨Kd.R_nil _ _ _ _ _⟩, HR0, ⟨[], HC0.out, rfl⟩, HK0⟩
  case round =>
    clear HR0 HC0 HK0
    obtain ⟨S, left, cnt, HL, HR, HX, HK⟩ := hrel
    have HLN : Aside0 (S.length ≤ 4096) := ⟨by
      obtain ⟨Xs, h1, h2⟩ := HX.out
      have h3 := h1.length_eq
      rw [List.length_append] at h3
      have h4 := List.length_filter_le (al sp ck) Xs
      have h5 := HS.out.len
      have h6 := HS.out.moB
      rw [h2]
      unfold namesA
      rw [List.length_map]
      omega⟩
    rcases HR.out.next lawS 0 with ⟨h0, hl0, hrun⟩ | ⟨key, v, kl, y, w3, cnt3, hkey, hlk, hv, hat, hrun, hrg1, hlt, hg1, hs1, hen⟩
    · have HE : Aside0 (S.Perm (namesA sp ck Es)) := ⟨by
        obtain ⟨Xs, h1, h2⟩ := HX.out
        rw [h2]
        exact ((h1.fin hl0).filter _).map _⟩
      clear HX
      go_wp2_with fail
      refine (sort_Strings.calls HL.out (by have := HLN.out; omega)).mono ?_
      rintro x w5 ⟨rfl, hg5, S', hR5, hp5, hs5⟩
      have HR5 := Aside0.mk hR5
      have HE5 : Aside0 (S'.Perm (namesA sp ck Es) ∧ (S'.map nm).Pairwise (· ≤ ·)) := ⟨hp5.trans HE.out, hs5⟩
      have HK5 : Aside0 (Below w.heap.size w w5) := ⟨⟨hg5.os.trans HK.out.os, hg5.tape.trans HK.out.tape, hg5.output.trans HK.out.output, Nat.le_trans HK.out.size hg5.size, fun k hk => (hg5.block k (Nat.lt_of_lt_of_le hk HK.out.size) (fun e => by have := Kd.R_base HL.out k e.symm; omega)).trans (HK.out.block k hk)⟩⟩
      clear hg5 hR5 hp5 hs5
      go_wp2_with fail
      go_ret
      exact ⟨_, S', rfl, HR5.out, HK5.out, HE5.out.1, HE5.out.2⟩
    · obtain ⟨s, rfl, rfl, hsz2⟩ := Go.WideMaps.string_of_keyOf Try.underlying9 hkey
      obtain ⟨p, rfl, rfl, hp1, hp2⟩ := winElem_inv hv
      obtain ⟨pb, pu⟩ := p
      simp only at hat hrun hen hp1 hp2
      have HR3 := Aside0.mk hrg1
      have HLT := Aside0.mk hlt
      have HL3 : Aside0 (Kd.R Kd.string 9 w3 w.heap.size (fun _ => True) _ S) := ⟨Kd.R_grown1 HL.out rfl hg1 (Go.row_ne_iter (Kd.own_of_R (enc := Value.string) (h1 := fun _ => rfl) HL.out) HR.out)⟩
      have HK3 : Aside0 (Below w.heap.size w w3) := ⟨⟨hg1.os.trans HK.out.os, hg1.tape.trans HK.out.tape, hg1.output.trans HK.out.output, Nat.le_trans HK.out.size hg1.size, fun k hk => (hg1.block k (Nat.lt_of_lt_of_le hk HK.out.size) (fun e => by injection e with e; have := HSR.out; omega)).trans (HK.out.block k hk)⟩⟩
      obtain ⟨Xs, hx1, hx2⟩ := HX.out
      obtain ⟨hx3, hx4⟩ := CameW.entry HM.out HS.out.nodup hx1 hlk (view_some hat)
      have hal : aliveB ck pb sp = al sp ck (s, pb, pu) := by
        obtain ⟨b0, b1⟩ := HS.out.beg _ hx4
        simp only at b0 b1
        have := HS.out.ckB
        exact aliveB_al (x := (s, pb, pu)) b0 b1 this.2
      have HX3 : Aside0 (∃ Xs, CameW Es (fun z => left z && !z.sameKey (ks s)) Xs ∧ (if aliveB ck pb sp = true then S ++ [s] else S) = namesA sp ck Xs) := ⟨_, hx3, by rw [namesA_snoc, hal, hx2]⟩
      clear hrg1 hlt hat hlk hkey hv hg1 hs1 HX HK HL hx1 hx2 hx3 hx4 hal
      have HS4 : Aside0 (LSt (w3.alloc (.cells #[.int .u64 pb, .int .i64 pu] 54)) g m tr mo sp ck Es) := ⟨HS.out.below (below_alloc HK3.out _)⟩
      have HR4 := Aside0.mk (HR3.out.alloc (.cells #[.int .u64 pb, .int .i64 pu] 54))
      have HK4 : Aside0 (Below w.heap.size w (w3.alloc (.cells #[.int .u64 pb, .int .i64 pu] 54))) := ⟨below_alloc HK3.out _⟩
      have HL4 := Aside0.mk (Kd.R_alloc HL3.out (.cells #[.int .u64 pb, .int .i64 pu] 54))
      have HB4 := Aside0.mk (blk_new w3 (.cells #[.int .u64 pb, .int .i64 pu] 54 (0, 0)))
      have d0 := (blk_cell HB4.out 0).trans rfl
      have d1 := (blk_cell HB4.out 1).trans rfl
      have c3 := (blk_cell HS4.out.lim 3).trans rfl
      clear HK3 HR3 HL3
      go_wp2_with fail
      obtain ⟨B, hB⟩ : ∃ B, B = w3.heap.size := ⟨_, rfl⟩
      obtain ⟨w4, hw4⟩ : ∃ w4, w4 = w3.alloc (.cells #[.int .u64 pb, .int .i64 pu] 54) := ⟨_, rfl⟩
      rw [← hw4] at HS4 HR4 HK4 HL4 c3
      rw [← hB, ← hw4] at d0 d1
      rw [← hB, ← hw4]
      clear hw4 hB HB4
      have HLd : Aside0 (LimAt w4.drew g m tr mo sp ck) := ⟨HS4.out.lim⟩
      have HLW : Aside0 ((S.length + 1) * 16 ≤ 140737488355328) := ⟨by have := HLN.out; omega⟩
      cases ha : aliveB ck pb sp with
      | true =>
        rw [ha, if_pos rfl] at HX3
        refine start_ (n := 7) (S := fun w' => w'.cell? ⟨B, 0, none⟩ = some (.int .u64 pb) ∧ w'.cell? ⟨B, 1, none⟩ = some (.int .i64 pu) ∧ w'.cell? ⟨g, 3, none⟩ = some (.int .u64 ck)) (ds := []) #[false, false, false, false, false, false, false] (by kernel_rfl) rfl rfl ⟨d0, d1, c3⟩ (fun hHeld => ?_)
        refine pure_ (i := 0) (N := some 18) (v := ?_) (a' := ?_) #[true, false, false, false, false, false, false] rfl rfl (by kernel_rfl) (fun _ _ _ h => h) (Or.inl ⟨by rfl, ?_⟩) ?_ ?_
        rotate_left
        · intro w'
          go_simp
          with_reducible rfl
        rotate_left
        · simp only [Act.put, List.setIfInBounds_toArray, List.set_cons_zero, List.set_cons_succ, i64_w, i32_w]
          rfl
        refine pure_ (i := 2) (N := some 20) (v := ?_) (a' := ?_) #[true, false, true, false, false, false, false] rfl rfl (by kernel_rfl) (fun _ _ _ h => h) (Or.inl ⟨by rfl, ?_⟩) ?_ ?_
        rotate_left
        · intro w'
          go_simp
          with_reducible rfl
        rotate_left
        · simp only [Act.put, List.setIfInBounds_toArray, List.set_cons_zero, List.set_cons_succ, i64_w, i32_w]
          rfl
        refine pure_ (i := 3) (N := some 21) (v := ?_) (a' := ?_) #[true, false, true, true, false, false, false] rfl rfl (by kernel_rfl) (fun _ _ _ h => h) (Or.inl ⟨by rfl, ?_⟩) ?_ ?_
        rotate_left
        · intro w'
          go_simp
          with_reducible rfl
        rotate_left
        · simp only [Act.put, List.setIfInBounds_toArray, List.set_cons_zero, List.set_cons_succ, i64_w, i32_w]
          rfl
        refine pure_ (i := 4) (N := some 22) (v := ?_) (a' := ?_) #[true, false, true, true, true, false, false] rfl rfl (by kernel_rfl) (fun _ _ _ h => h) (Or.inl ⟨by rfl, ?_⟩) ?_ ?_
        rotate_left
        · intro w'
          go_simp
          with_reducible rfl
        rotate_left
        · simp only [Act.put, List.setIfInBounds_toArray, List.set_cons_zero, List.set_cons_succ, i64_w, i32_w]
          rfl
        refine take_ (i := 1) (N := some 19) (v := ?_) (a' := ?_) #[true, true, true, true, true, false, false] rfl rfl (by kernel_rfl) (fun _ _ _ h => h) (Or.inl ⟨by rfl, ?_⟩) hHeld ?_ ?_
        rotate_left
        · rintro w' ⟨s0, s1, s2⟩
          go_simp
          with_reducible rfl
        rotate_left
        · simp only [Act.put, List.setIfInBounds_toArray, List.set_cons_zero, List.set_cons_succ, i64_w, i32_w]
          rfl
        refine take_ (i := 5) (N := some 23) (v := ?_) (a' := ?_) #[true, true, true, true, true, true, false] rfl rfl (by kernel_rfl) (fun _ _ _ h => h) (Or.inl ⟨by rfl, ?_⟩) hHeld ?_ ?_
        rotate_left
        · rintro w' ⟨s0, s1, s2⟩
          go_simp
          with_reducible rfl
        rotate_left
        · simp only [Act.put, List.setIfInBounds_toArray, List.set_cons_zero, List.set_cons_succ, i64_w, i32_w]
          rfl
        refine one_ (i := 6) (N := some 24) #[true, true, true, true, true, true, true] rfl rfl (by kernel_rfl) (by decide) (fun K hK => ?_)
        refine goes_ Try.func30 (by kernel_rfl) rfl #[.pointer (some ⟨g, 0, none⟩), .agg #[.int .u64 pb, .int .i64 pu], .int .u64 ck] (by rfl) rfl rfl (by simp only [List.map_toArray, List.map_cons, List.map_nil]; rfl) ?_
        with_reducible refine (limit_is.calls g m tr mo sp ck pb pu ck w4.drew HLd.out).mono ?_
        rintro e w5 ⟨rfl, hb5⟩
        rw [ha]
        have hb6 := below_step (below_drew1 (Below.refl w4.heap.size w4)) hb5
        have HR5 := Aside0.mk (ranges_below HR4.out hb6)
        have HK5 := Aside0.mk (below_step HK4.out hb6)
        have HL5 := Aside0.mk (Kd.R_below HL4.out hb6)
        refine ⟨_, rfl, ?_⟩
        refine hK.out _ _ ⟨pw_cell_below hb5 hHeld.1, pw_cell_below hb5 hHeld.2.1, pw_cell_below hb5 hHeld.2.2⟩ (fun hHeld => ?_)
        clear hK K
        refine norm_ (a' := ?_) ?_ ?_
        rotate_left
        · show Act.put _ (some 24) _ = _
          simp only [Act.put, List.setIfInBounds_toArray, List.set_cons_zero, List.set_cons_succ, i64_w, i32_w]
          rfl
        refine done_ (by kernel_rfl) ?_
        have HRI := Aside0.mk (Go.row_ne_iter (Kd.own_of_R (enc := Value.string) (h1 := fun _ => rfl) HL5.out) HR5.out)
        have HRM := Aside0.mk (Kd.R_base HL5.out)
        have HMB : Aside0 (m < w.heap.size) := ⟨by obtain ⟨es, clock, hb, _⟩ := HO.out; exact blk_lt hb⟩
        go_wp2_with ((with_reducible refine gate_builtin (b := .append) (xs := #[.tmp 25, .tmp 27]) rfl ?_); at_builtin; refine Kd.R_append Kd.string (w0 := w) w.heap.size rfl (.tmp 25) (.tmp 27) 50 9 (.string ⟨#[]⟩) 16 rfl Try.underlying50 info9 rfl (by decide) (by decide) _ S s [.string s] (fun _ => True) (fun _ => False) rfl rfl rfl (fun _ h => h.elim) (fun _ _ => trivial) HL5.out HK5.out HK5.out.size HLW.out ?_; intro v7 w7 ho hb hg hat; have HL7 := Aside0.mk ho; have HK7 := Aside0.mk hb; have HR7 := Aside0.mk (HR5.out.kept hg (fun e => by have := HRM.out m e.symm; have := HMB.out; omega) HRI.out); clear ho hb hg hat)
        go_roundw
        case rel => exact ⟨_, _, cnt3, HL7, HR7, HX3, HK7⟩
        case measure => rw [HR7.out.left_eq, HR.out.left_eq]; exact HLT.out
      | false =>
        rw [ha, if_neg (by decide)] at HX3
        refine start_ (n := 7) (S := fun w' => w'.cell? ⟨B, 0, none⟩ = some (.int .u64 pb) ∧ w'.cell? ⟨B, 1, none⟩ = some (.int .i64 pu) ∧ w'.cell? ⟨g, 3, none⟩ = some (.int .u64 ck)) (ds := []) #[false, false, false, false, false, false, false] (by kernel_rfl) rfl rfl ⟨d0, d1, c3⟩ (fun hHeld => ?_)
        refine pure_ (i := 0) (N := some 18) (v := ?_) (a' := ?_) #[true, false, false, false, false, false, false] rfl rfl (by kernel_rfl) (fun _ _ _ h => h) (Or.inl ⟨by rfl, ?_⟩) ?_ ?_
        rotate_left
        · intro w'
          go_simp
          with_reducible rfl
        rotate_left
        · simp only [Act.put, List.setIfInBounds_toArray, List.set_cons_zero, List.set_cons_succ, i64_w, i32_w]
          rfl
        refine pure_ (i := 2) (N := some 20) (v := ?_) (a' := ?_) #[true, false, true, false, false, false, false] rfl rfl (by kernel_rfl) (fun _ _ _ h => h) (Or.inl ⟨by rfl, ?_⟩) ?_ ?_
        rotate_left
        · intro w'
          go_simp
          with_reducible rfl
        rotate_left
        · simp only [Act.put, List.setIfInBounds_toArray, List.set_cons_zero, List.set_cons_succ, i64_w, i32_w]
          rfl
        refine pure_ (i := 3) (N := some 21) (v := ?_) (a' := ?_) #[true, false, true, true, false, false, false] rfl rfl (by kernel_rfl) (fun _ _ _ h => h) (Or.inl ⟨by rfl, ?_⟩) ?_ ?_
        rotate_left
        · intro w'
          go_simp
          with_reducible rfl
        rotate_left
        · simp only [Act.put, List.setIfInBounds_toArray, List.set_cons_zero, List.set_cons_succ, i64_w, i32_w]
          rfl
        refine pure_ (i := 4) (N := some 22) (v := ?_) (a' := ?_) #[true, false, true, true, true, false, false] rfl rfl (by kernel_rfl) (fun _ _ _ h => h) (Or.inl ⟨by rfl, ?_⟩) ?_ ?_
        rotate_left
        · intro w'
          go_simp
          with_reducible rfl
        rotate_left
        · simp only [Act.put, List.setIfInBounds_toArray, List.set_cons_zero, List.set_cons_succ, i64_w, i32_w]
          rfl
        refine take_ (i := 1) (N := some 19) (v := ?_) (a' := ?_) #[true, true, true, true, true, false, false] rfl rfl (by kernel_rfl) (fun _ _ _ h => h) (Or.inl ⟨by rfl, ?_⟩) hHeld ?_ ?_
        rotate_left
        · rintro w' ⟨s0, s1, s2⟩
          go_simp
          with_reducible rfl
        rotate_left
        · simp only [Act.put, List.setIfInBounds_toArray, List.set_cons_zero, List.set_cons_succ, i64_w, i32_w]
          rfl
        refine take_ (i := 5) (N := some 23) (v := ?_) (a' := ?_) #[true, true, true, true, true, true, false] rfl rfl (by kernel_rfl) (fun _ _ _ h => h) (Or.inl ⟨by rfl, ?_⟩) hHeld ?_ ?_
        rotate_left
        · rintro w' ⟨s0, s1, s2⟩
          go_simp
          with_reducible rfl
        rotate_left
        · simp only [Act.put, List.setIfInBounds_toArray, List.set_cons_zero, List.set_cons_succ, i64_w, i32_w]
          rfl
        refine one_ (i := 6) (N := some 24) #[true, true, true, true, true, true, true] rfl rfl (by kernel_rfl) (by decide) (fun K hK => ?_)
        refine goes_ Try.func30 (by kernel_rfl) rfl #[.pointer (some ⟨g, 0, none⟩), .agg #[.int .u64 pb, .int .i64 pu], .int .u64 ck] (by rfl) rfl rfl (by simp only [List.map_toArray, List.map_cons, List.map_nil]; rfl) ?_
        with_reducible refine (limit_is.calls g m tr mo sp ck pb pu ck w4.drew HLd.out).mono ?_
        rintro e w5 ⟨rfl, hb5⟩
        rw [ha]
        have hb6 := below_step (below_drew1 (Below.refl w4.heap.size w4)) hb5
        have HR5 := Aside0.mk (ranges_below HR4.out hb6)
        have HK5 := Aside0.mk (below_step HK4.out hb6)
        have HL5 := Aside0.mk (Kd.R_below HL4.out hb6)
        refine ⟨_, rfl, ?_⟩
        refine hK.out _ _ ⟨pw_cell_below hb5 hHeld.1, pw_cell_below hb5 hHeld.2.1, pw_cell_below hb5 hHeld.2.2⟩ (fun hHeld => ?_)
        clear hK K
        refine norm_ (a' := ?_) ?_ ?_
        rotate_left
        · show Act.put _ (some 24) _ = _
          simp only [Act.put, List.setIfInBounds_toArray, List.set_cons_zero, List.set_cons_succ, i64_w, i32_w]
          rfl
        refine done_ (by kernel_rfl) ?_
        go_wp2_with fail
        go_roundw
        case rel => exact ⟨S, _, cnt3, HL5, HR5, HX3, HK5⟩
        case measure => rw [HR5.out.left_eq, HR.out.left_eq]; exact HLT.out
end Go.Proofs.Ytgdjoochbgeokaa.Hand
namespace Go.Proofs.Ytgdjoochbgeokaa.Hand
open Go.RowKit Go.Maps Go.Proofs.YtgdjoochbgeokaaW.PrintWords Go.Proofs.YtgdjoochbgeokaaW.PrintLast Go.Proofs.YtgdjoochbgeokaaW.PrintMore Go.Proofs.Ytgdjoochbgeokaa.Q
set_option linter.unusedVariables false
set_option linter.unusedSimpArgs false
abbrev kD : Kd DocW := k73
/-- The document's list in memory. -/
abbrev DV (w : World) (v : Value) (l : List DocW) : Prop := Kd.R kD 73 w 0 (fun _ => True) v l
theorem DV.view {w : World} {v : Value} {l : List DocW} (h : DV w v l) : ∃ A c, v = .slice A l.length c ∧ l.length ≤ c ∧ Kd.C kD w A l.length l := by
  obtain ⟨A, c, rfl⟩ := Kd.R_slice h
  obtain ⟨_, h1, h2⟩ := Kd.R_reads' h
  exact ⟨A, c, rfl, h1, h2⟩
theorem DV.kept {w w' : World} {v : Value} {l : List DocW} {g m : Nat} {tr mo sp ck : Int} {Es : List Win} (h : DV w v l) (hL : LSt w g m tr mo sp ck Es) (hk : KeptL (Gm g m) w w') : DV w' v l := by
  obtain ⟨n, D, ⟨es, clock, hm, _⟩, _⟩ := hL.own
  refine Kd.R_mono (Kd.R_step (Kd.R_bound h) (fun k ho hlt => hk.block k hlt (fun hS => ?_))) (fun _ _ => trivial)
  obtain ⟨_, _, _, q, hq, cells, hc⟩ := ho
  rcases hS with rfl | rfl
  · have hl := hL.lim
    rw [LimAt, hc] at hl
    injection hl with hl
    injection hl with _ ht _
    rw [ht] at hq
    revert hq
    decide
  · rw [hm] at hc
    cases hc
theorem blk_five {w : World} {g : Nat} {t : TypeId} {x0 x1 x2 x3 x4 : Value} (h : w.heap[g]? = some (.cells #[x0, x1, x2, x3, x4] t (0, 0))) (y0 y1 y2 y3 y4 : Value) :
    (((((w.setCell ⟨g, 0, none⟩ y0).setCell ⟨g, 1, none⟩ y1).setCell ⟨g, 2, none⟩ y2).setCell ⟨g, 3, none⟩ y3).setCell ⟨g, 4, none⟩ y4).heap[g]? = some (.cells #[y0, y1, y2, y3, y4] t (0, 0)) :=
  blk_put (blk_put (blk_put (blk_put (blk_put h 0 y0 rfl) 1 y1 rfl) 2 y2 rfl) 3 y3 rfl) 4 y4 rfl
theorem below_five {w W : World} {g : Nat} (h : Below w.heap.size w W) (hg : w.heap.size ≤ g) (y0 y1 y2 y3 y4 : Value) :
    Below w.heap.size w (((((W.setCell ⟨g, 0, none⟩ y0).setCell ⟨g, 1, none⟩ y1).setCell ⟨g, 2, none⟩ y2).setCell ⟨g, 3, none⟩ y3).setCell ⟨g, 4, none⟩ y4) :=
  below_set (below_set (below_set (below_set (below_set h hg) hg) hg) hg) hg
theorem size31 : (Try.prog.info? 31).map (·.size) = some 5 := by kernel_rfl
set_option maxHeartbeats 2000000 in
set_option maxRecDepth 100000 in
theorem ref_Sweep.all {w : World} {v : Value} {l : List DocW} {tr sp mo ck now t : Int} (h : DV w v l) (ht : t = max now ck) (hB : DocB sp t l) :
    Calls Try.prog 25 #[(.agg #[.int .i64 tr, .int .u64 sp, .int .i64 mo, .int .u64 ck, v]), .int .u64 now] w fun e w' => e = .returned (.tuple #[(.agg #[.int .i64 tr, .int .u64 sp, .int .i64 mo, .int .u64 t, v]), .int .i64 ((opens sp t l).length : Int)]) ∧ Below w.heap.size w w' := by
  obtain ⟨A, c, rfl, hc, hC⟩ := h.view
  obtain ⟨kk, hkk⟩ := (known_ev hB tr mo t).rounds
  have HKK := Aside0.mk hkk
  have HT := Aside0.mk ht
  have HC := Aside0.mk hC
  have HCC := Aside0.mk hc
  obtain ⟨W1, hW1⟩ : ∃ W1, W1 = w.alloc (.cells #[.int .i64 tr, .int .u64 sp, .int .i64 mo, .int .u64 ck, .slice A l.length c] 31) := ⟨_, rfl⟩
  have HB1 := Aside0.mk (blk_new w (.cells #[.int .i64 tr, .int .u64 sp, .int .i64 mo, .int .u64 ck, .slice A l.length c] 31 (0, 0)))
  have HK1 := Aside0.mk (below_alloc (Below.refl w.heap.size w) (.cells #[.int .i64 tr, .int .u64 sp, .int .i64 mo, .int .u64 ck, .slice A l.length c] 31))
  have hs1 : W1.heap.size = w.heap.size + 1 := by rw [hW1]; simp
  rw [← hW1] at HB1 HK1
  have HB2 := Aside0.mk (blk_new W1 (.cells #[.int .i64 0, .int .u64 0, .int .i64 0, .int .u64 0, .slice none 0 0] 31 (0, 0)))
  have HK2 := Aside0.mk (below_alloc HK1.out (.cells #[.int .i64 0, .int .u64 0, .int .i64 0, .int .u64 0, .slice none 0 0] 31))
  replace HB1 := Aside0.mk (blk_alloc HB1.out (.cells #[.int .i64 0, .int .u64 0, .int .i64 0, .int .u64 0, .slice none 0 0] 31))
  have d0 := (blk_cell HB1.out 0).trans rfl
  have d1 := (blk_cell HB1.out 1).trans rfl
  have d2 := (blk_cell HB1.out 2).trans rfl
  have d3 := (blk_cell HB1.out 3).trans rfl
  have d4 := (blk_cell HB1.out 4).trans rfl
  rw [hW1] at d0 d1 d2 d3 d4
  clear h hC hc ht hkk hB
  go_enter Try.func25, Try.ntmps25
  go_wp2_with fail
  obtain ⟨B2, hB2⟩ : ∃ B2, B2 = w.heap.size + 1 := ⟨_, rfl⟩
  rw [← hW1]
  rw [hs1] at HB2
  rw [← hB2] at HB2 ⊢
  obtain ⟨B1, hB1⟩ : ∃ B1, B1 = w.heap.size := ⟨_, rfl⟩
  have hBB : Aside0 (w.heap.size ≤ B1 ∧ w.heap.size ≤ B2 ∧ B1 ≠ B2) := ⟨by omega⟩
  rw [← hB1] at HB1 ⊢
  obtain ⟨W2, hW2⟩ : ∃ W2, W2 = W1.alloc (.cells #[.int .i64 0, .int .u64 0, .int .i64 0, .int .u64 0, .slice none 0 0] 31) := ⟨_, rfl⟩
  rw [← hW2] at HB1 HB2 HK2 ⊢
  clear d0 d1 d2 d3 d4 hW1 hW2 hB1 hB2 HK1 hs1
  refine (wicketref08_at.calls tr sp mo ck A c l now t W2 (Kd.C_below HC.out HK2.out) HCC.out (by rw [at_f, HT.out])).mono ?_
  rintro x w3 ⟨rfl, hb3⟩
  have HB13 := Aside0.mk (blk_below HB1.out hb3)
  have HB23 := Aside0.mk (blk_below HB2.out hb3)
  have HK3 := Aside0.mk (below_step HK2.out hb3)
  clear hb3 HB1 HB2 HK2
  have d3 := (blk_cell HB13.out 3).trans rfl
  have f3 := blk_frozen HB13.out 3
  have HB14 : Aside0 ((w3.setCell ⟨B1, 3, none⟩ (.int .u64 t)).heap[B1]? = some (.cells #[.int .i64 tr, .int .u64 sp, .int .i64 mo, .int .u64 t, .slice A l.length c] 31 (0, 0))) := ⟨blk_put HB13.out 3 (.int .u64 t) rfl⟩
  have HB24 := Aside0.mk (blk_far HB23.out (p := ⟨B1, 3, none⟩) hBB.out.2.2.symm (.int .u64 t))
  have HK4 := Aside0.mk (below_set (j := 3) (v := .int .u64 t) HK3.out hBB.out.1)
  have d0 := (blk_cell HB14.out 0).trans rfl
  have d1 := (blk_cell HB14.out 1).trans rfl
  have d2 := (blk_cell HB14.out 2).trans rfl
  have d3' := (blk_cell HB14.out 3).trans rfl
  have d4 := (blk_cell HB14.out 4).trans rfl
  go_wp2_with fail
  obtain ⟨w4, hw4⟩ : ∃ w4, w4 = w3.setCell ⟨B1, 3, none⟩ (.int .u64 t) := ⟨_, rfl⟩
  rw [← hw4] at HB14 HB24 HK4 ⊢
  clear d0 d1 d2 d3 d3' d4 f3 hw4 HB13 HB23 HK3
  refine (wicketref08_known.calls kk tr sp mo t A c l t _ _ w4 (Kd.C_below HC.out HK4.out) HCC.out HKK.out).mono ?_
  rintro x w5 ⟨rfl, hb5⟩
  have HB15 := Aside0.mk (blk_below HB14.out hb5)
  have HB25 := Aside0.mk (blk_below HB24.out hb5)
  have HK5 := Aside0.mk (below_step HK4.out hb5)
  clear hb5 HB14 HB24 HK4
  have d0 := (blk_cell HB15.out 0).trans rfl
  have d1 := (blk_cell HB15.out 1).trans rfl
  have d2 := (blk_cell HB15.out 2).trans rfl
  have d3 := (blk_cell HB15.out 3).trans rfl
  have d4 := (blk_cell HB15.out 4).trans rfl
  have e0 := (blk_cell HB25.out 0).trans rfl
  have e1 := (blk_cell HB25.out 1).trans rfl
  have e2 := (blk_cell HB25.out 2).trans rfl
  have e3 := (blk_cell HB25.out 3).trans rfl
  have e4 := (blk_cell HB25.out 4).trans rfl
  have g0 := blk_frozen HB25.out 0
  have g1 := blk_frozen HB25.out 1
  have g2 := blk_frozen HB25.out 2
  have g3 := blk_frozen HB25.out 3
  have g4 := blk_frozen HB25.out 4
  go_wp2_with fail
  refine bodyPost_ret (results_ct rfl _ _ B2 31 #[.int .i64 tr, .int .u64 sp, .int .i64 mo, .int .u64 t, .slice A l.length c] (0, 0) _ rfl (blk_five HB25.out _ _ _ _ _) Try.underlying31 rfl size31) rfl ?_
  exact ⟨rfl, below_five HK5.out hBB.out.2.1 _ _ _ _ _⟩
end Go.Proofs.Ytgdjoochbgeokaa.Hand
namespace Go.Proofs.Ytgdjoochbgeokaa.Hand
open Go.RowKit Go.Maps Go.Proofs.YtgdjoochbgeokaaW.PrintWords Go.Proofs.YtgdjoochbgeokaaW.PrintLast Go.Proofs.YtgdjoochbgeokaaW.PrintMore Go.Proofs.Ytgdjoochbgeokaa.Q
set_option linter.unusedVariables false
set_option linter.unusedSimpArgs false
theorem infoW : (Try.prog.info? 73).map (fun i => (i.zero, i.size, i.bytes)) = some (some (.agg #[.string ⟨#[]⟩, .int .u64 0, .int .i64 0]), 3, 32) := by kernel_rfl
abbrev cntD (x : DocW) (u : Int) : DocW := ⟨x.f0, x.f1, u⟩
theorem kD_KM (w w' : World) (base : Nat) (ok : Nat → Prop) : ∀ (x : DocW) cs, kD.K w x cs → kD.M w' base ok x cs := fun x cs h => by
  obtain rfl := k73_open h
  exact k73_mkM _ _ _ _
/-- An element's count is written. -/
theorem doc_set {W : World} {base g n cap : Nat} {ok : Nat → Prop} {l : List DocW} (h : Kd.R kD 73 W base ok (.slice (some ⟨g, 0, none⟩) n cap) l) (i : Nat) (hi : i < n) (u : Int) :
    W.cell? ⟨g, i * 3 + 2, none⟩ = some (.int .i64 (docN l i).f2) ∧ W.frozen? ⟨g, i * 3 + 2, none⟩ = false ∧ Kd.R kD 73 (W.setCell ⟨g, i * 3 + 2, none⟩ (.int .i64 u)) base ok (.slice (some ⟨g, 0, none⟩) n cap) (l.set i (cntD (docN l i) u)) := by
  obtain ⟨c, hcl, hM, hcc, hfz⟩ := Kd.R_elem h z73 (i : Int) (by omega) (by omega)
  rw [Int.toNat_natCast] at hM hcc hfz
  have hc := k73_openM hM
  have hx : l.getD i z73 = docN l i := by show _ = l.getD (i : Int).toNat _; rw [Int.toNat_natCast]
  rw [hx] at hc hM
  subst hc
  have h2 := (Kd.R_seg (x' := cntD (docN l i) u) (okp := fun k => ok k ∧ k ≠ g) h (i : Int) (by omega) (by omega) (c := _) (seg := [.int .i64 u]) (j := 2) hcl (by rw [Int.toNat_natCast]; exact hcc) (Nat.le_refl _) (k73_mkM _ _ _ (cntD (docN l i) u)) (fun k hk => hk)).1
  rw [Int.toNat_natCast] at h2
  exact ⟨hcc 2 _ rfl, hfz 2, h2⟩
set_option maxHeartbeats 2000000 in
set_option maxRecDepth 100000 in
theorem ref_Forgive.all {w : World} {v : Value} {l : List DocW} {tr sp mo ck : Int} (h : DV w v l) (hB : DocB sp ck l) (hN : ((opens sp ck l).map (·.1)).Nodup) (s : ByteArray) :
    Calls Try.prog 24 #[(.agg #[.int .i64 tr, .int .u64 sp, .int .i64 mo, .int .u64 ck, v]), .string s] w fun e w' => ∃ v' l', e = .returned (.tuple #[(.agg #[.int .i64 tr, .int .u64 sp, .int .i64 mo, .int .u64 ck, v']), .bool (look (opens sp ck l) s).isSome]) ∧ DV w' v' l' ∧ Below w.heap.size w w' ∧ ((look (opens sp ck l) s = none ∧ l' = l) ∨ ∃ i, i < l.length ∧ opn sp ck (toW (docN l i)) = true ∧ (docN l i).f0 = s ∧ l' = l.set i (cntD (docN l i) 0)) := by
  obtain ⟨A, c, rfl, hc, hC⟩ := h.view
  obtain ⟨r, hev, hr⟩ := open_look hB hN tr mo ck s
  obtain ⟨kk, hkk⟩ := hev.rounds
  have HKK := Aside0.mk hkk
  have HD := Aside0.mk h
  have HL := Aside0.mk hB.len
  have HC := Aside0.mk hC
  have HCC := Aside0.mk hc
  obtain ⟨W1, hW1⟩ : ∃ W1, W1 = w.alloc (.cells #[.int .i64 tr, .int .u64 sp, .int .i64 mo, .int .u64 ck, .slice A l.length c] 31) := ⟨_, rfl⟩
  have HB1 := Aside0.mk (blk_new w (.cells #[.int .i64 tr, .int .u64 sp, .int .i64 mo, .int .u64 ck, .slice A l.length c] 31 (0, 0)))
  have HK1 := Aside0.mk (below_alloc (Below.refl w.heap.size w) (.cells #[.int .i64 tr, .int .u64 sp, .int .i64 mo, .int .u64 ck, .slice A l.length c] 31))
  have hs1 : W1.heap.size = w.heap.size + 1 := by rw [hW1]; simp
  rw [← hW1] at HB1 HK1
  have HB2 := Aside0.mk (blk_new W1 (.cells #[.int .i64 0, .int .u64 0, .int .i64 0, .int .u64 0, .slice none 0 0] 31 (0, 0)))
  have HK2 := Aside0.mk (below_alloc HK1.out (.cells #[.int .i64 0, .int .u64 0, .int .i64 0, .int .u64 0, .slice none 0 0] 31))
  replace HB1 := Aside0.mk (blk_alloc HB1.out (.cells #[.int .i64 0, .int .u64 0, .int .i64 0, .int .u64 0, .slice none 0 0] 31))
  have d0 := (blk_cell HB1.out 0).trans rfl
  have d1 := (blk_cell HB1.out 1).trans rfl
  have d2 := (blk_cell HB1.out 2).trans rfl
  have d3 := (blk_cell HB1.out 3).trans rfl
  have d4 := (blk_cell HB1.out 4).trans rfl
  rw [hW1] at d0 d1 d2 d3 d4
  clear h hC hc hkk hB hev hN
  go_enter Try.func24, Try.ntmps24
  go_wp2_with fail
  obtain ⟨B2, hB2⟩ : ∃ B2, B2 = w.heap.size + 1 := ⟨_, rfl⟩
  rw [← hW1]
  rw [hs1] at HB2
  rw [← hB2] at HB2 ⊢
  obtain ⟨B1, hB1⟩ : ∃ B1, B1 = w.heap.size := ⟨_, rfl⟩
  have hBB : Aside0 (w.heap.size ≤ B1 ∧ w.heap.size ≤ B2 ∧ B1 ≠ B2) := ⟨by omega⟩
  rw [← hB1] at HB1 ⊢
  obtain ⟨W2, hW2⟩ : ∃ W2, W2 = W1.alloc (.cells #[.int .i64 0, .int .u64 0, .int .i64 0, .int .u64 0, .slice none 0 0] 31) := ⟨_, rfl⟩
  rw [← hW2] at HB1 HB2 HK2 ⊢
  clear d0 d1 d2 d3 d4 hW1 hW2 hB1 hB2 HK1 hs1
  have hBlt : Aside0 (B1 < W2.heap.size ∧ B2 < W2.heap.size) := ⟨blk_lt HB1.out, blk_lt HB2.out⟩
  refine (wicketref08_open.calls kk tr sp mo ck A c l s ck r W2 (Kd.C_below HC.out HK2.out) HCC.out HKK.out).mono ?_
  rintro x w5 ⟨rfl, hb5⟩
  have HB15 := Aside0.mk (blk_below HB1.out hb5)
  have HB25 := Aside0.mk (blk_below HB2.out hb5)
  have HK5 := Aside0.mk (below_step HK2.out hb5)
  clear hb5 HB1 HB2 HK2 hBlt
  rcases hr with ⟨rfl, hlk⟩ | ⟨i, rfl, hi, hop, hsi, hlk⟩
  · have HLK := Aside0.mk hlk
    clear hlk
    have d0 := (blk_cell HB15.out 0).trans rfl
    have d1 := (blk_cell HB15.out 1).trans rfl
    have d2 := (blk_cell HB15.out 2).trans rfl
    have d3 := (blk_cell HB15.out 3).trans rfl
    have d4 := (blk_cell HB15.out 4).trans rfl
    have e0 := (blk_cell HB25.out 0).trans rfl
    have e1 := (blk_cell HB25.out 1).trans rfl
    have e2 := (blk_cell HB25.out 2).trans rfl
    have e3 := (blk_cell HB25.out 3).trans rfl
    have e4 := (blk_cell HB25.out 4).trans rfl
    have ez0 := blk_frozen HB25.out 0
    have ez1 := blk_frozen HB25.out 1
    have ez2 := blk_frozen HB25.out 2
    have ez3 := blk_frozen HB25.out 3
    have ez4 := blk_frozen HB25.out 4
    go_wp2_with fail
    refine bodyPost_ret (results_ct rfl _ _ B2 31 #[.int .i64 tr, .int .u64 sp, .int .i64 mo, .int .u64 ck, .slice A l.length c] (0, 0) _ rfl (blk_five HB25.out _ _ _ _ _) Try.underlying31 rfl size31) rfl ?_
    have hb6 := below_five HK5.out hBB.out.2.1 (.int .i64 tr) (.int .u64 sp) (.int .i64 mo) (.int .u64 ck) (.slice A l.length c)
    exact ⟨_, l, by rw [HLK.out]; rfl, Kd.R_below HD.out hb6, hb6, .inl ⟨HLK.out, rfl⟩⟩
  · have HIX : Aside0 (i < l.length ∧ opn sp ck (toW (docN l i)) = true ∧ (docN l i).f0 = s ∧ (look (opens sp ck l) s).isSome = true) := ⟨hi, hop, hsi, by rw [hlk]; rfl⟩
    have b0 : decide ((i : Int) < 0) = false := decide_eq_false (by omega)
    have hBL : Aside0 (B1 < w5.heap.size ∧ B2 < w5.heap.size) := ⟨blk_lt HB15.out, blk_lt HB25.out⟩
    clear hop hsi hlk
    have d0 := (blk_cell HB15.out 0).trans rfl
    have d1 := (blk_cell HB15.out 1).trans rfl
    have d2 := (blk_cell HB15.out 2).trans rfl
    have d3 := (blk_cell HB15.out 3).trans rfl
    have d4 := (blk_cell HB15.out 4).trans rfl
    have dz0 := blk_frozen HB15.out 0
    have dz1 := blk_frozen HB15.out 1
    have dz2 := blk_frozen HB15.out 2
    have dz3 := blk_frozen HB15.out 3
    have dz4 := blk_frozen HB15.out 4
    go_wp2_with (first
      | ((with_reducible refine gate_dst (N := 16) rfl ?_); refine Kd.R_lit kD (w0 := w5) w5.heap.size 73 ?hg (N := 16) ?hd (xs := ([] : List DocW)) (inner := []) (ok := fun _ => True) (okp := fun _ => True) ?hr ?hp (fun _ hk => hk) trivial (Below.refl _ _) (Nat.le_refl _) (by simp) ?_; (case hd => rfl); (case hg => rfl); (case hr => first | (go_simp; done) | (go_simp; rfl)); (case hp => exact (Reps.none _ _)); intro v6 w6 ho6 hb6 hg6 hn6; have HO6 := Aside0.mk ho6; have HK6 := Aside0.mk hb6; have hd6 := pw_cell_below hb6 d4; clear ho6 hb6 hg6 hn6)
      | ((with_reducible refine gate_builtin (b := .append) (xs := #[.tmp 16, .tmp 18]) rfl ?_); at_builtin; refine Kd.R_append_rows kD (Rr := kD.K w6) (w0 := w5) w5.heap.size rfl (.tmp 16) (.tmp 18) 29 73 (.agg #[.string ⟨#[]⟩, .int .u64 0, .int .i64 0]) 32 rfl Try.underlying29 infoW rfl (by decide) (by decide) v6 [] l A l.length c (fun _ => True) (fun _ => False) rfl rfl HO6.out (Kd.C_below HC.out (below_step HK5.out HK6.out)) (kD_KM _ _ _ _) (fun _ h => h.elim) (fun _ _ => trivial) HK6.out HK6.out.size (by have := HL.out; simp; omega) ?_; intro v7 w7 ho7 hb7 hg7 hn7; have ho7' : Kd.R kD 73 w7 w5.heap.size (fun _ => True) v7 l := ho7; obtain ⟨g, cap, hv7, hgb, hgl, _⟩ := Kd.R_form ho7' (by omega); subst hv7; have hst := doc_set ho7' i hi 0; have HST := Aside0.mk hst.2.2; have hq1 := hst.1; have hq2 := hst.2.1; have HK7 := Aside0.mk hb7; have HGS := Aside0.mk hgb; have HGB : Aside0 (B1 ≠ g ∧ B2 ≠ g) := ⟨by have := hBL.out; omega⟩; have HB18 := Aside0.mk (blk_far (blk_below HB15.out hb7) (p := ⟨g, i * 3 + 2, none⟩) HGB.out.1 (.int .i64 0)); have HB28 := Aside0.mk (blk_far (blk_below HB25.out hb7) (p := ⟨g, i * 3 + 2, none⟩) HGB.out.2 (.int .i64 0)); have k4 := (blk_cell HB18.out 4).trans rfl; have kz4 := blk_frozen HB18.out 4; have HB19 : Aside0 (((w7.setCell ⟨g, i * 3 + 2, none⟩ (.int .i64 0)).setCell ⟨B1, 4, none⟩ (.slice (some ⟨g, 0, none⟩) l.length cap)).heap[B1]? = some (.cells #[.int .i64 tr, .int .u64 sp, .int .i64 mo, .int .u64 ck, .slice (some ⟨g, 0, none⟩) l.length cap] 31 (0, 0))) := ⟨blk_put HB18.out 4 _ rfl⟩; have HB29 := Aside0.mk (blk_far HB28.out (p := ⟨B1, 4, none⟩) hBB.out.2.2.symm (.slice (some ⟨g, 0, none⟩) l.length cap)); have q0 := (blk_cell HB19.out 0).trans rfl; have q1 := (blk_cell HB19.out 1).trans rfl; have q2 := (blk_cell HB19.out 2).trans rfl; have q3 := (blk_cell HB19.out 3).trans rfl; have q4 := (blk_cell HB19.out 4).trans rfl; have e0 := (blk_cell HB29.out 0).trans rfl; have ez0 := blk_frozen HB29.out 0; have e1 := (blk_cell HB29.out 1).trans rfl; have ez1 := blk_frozen HB29.out 1; have e2 := (blk_cell HB29.out 2).trans rfl; have ez2 := blk_frozen HB29.out 2; have e3 := (blk_cell HB29.out 3).trans rfl; have ez3 := blk_frozen HB29.out 3; have e4 := (blk_cell HB29.out 4).trans rfl; have ez4 := blk_frozen HB29.out 4; clear ho7 ho7' hb7 hg7 hn7 hst hgb hgl)
      | go_in)
    refine bodyPost_ret (results_ct rfl _ _ B2 31 #[.int .i64 tr, .int .u64 sp, .int .i64 mo, .int .u64 ck, .slice (some ⟨g, 0, none⟩) l.length cap] (0, 0) _ rfl (blk_five HB29.out _ _ _ _ _) Try.underlying31 rfl size31) rfl ?_
    have hb8 := below_set (j := i * 3 + 2) (v := .int .i64 0) (below_step HK5.out HK7.out) (g := g) (by have := HK5.out.size; have := HGS.out; omega)
    have hb9 := below_set (j := 4) (v := .slice (some ⟨g, 0, none⟩) l.length cap) hb8 hBB.out.1
    have hb10 := below_five hb9 hBB.out.2.1 (.int .i64 tr) (.int .u64 sp) (.int .i64 mo) (.int .u64 ck) (.slice (some ⟨g, 0, none⟩) l.length cap)
    refine ⟨_, l.set i (cntD (docN l i) 0), by rw [HIX.out.2.2.2]; rfl, ?_, hb10, .inr ⟨i, HIX.out.1, HIX.out.2.1, HIX.out.2.2.1, rfl⟩⟩
    have hR := Kd.R_mono (Kd.R_tight rfl HST.out) (ok' := fun k => k ≠ B1 ∧ k ≠ B2) (fun k hk => by
      have hk2 : k = g := by simpa [Value.ownBlock] using hk
      have := HGB.out
      omega)
    exact Kd.R_mono (Kd.R_lower (Kd.R_far (Kd.R_far (Kd.R_far (Kd.R_far (Kd.R_far (Kd.R_far hR (p := ⟨B1, 4, none⟩) (fun k hk => hk.1) _) (p := ⟨B2, 0, none⟩) (fun k hk => hk.2) _) (p := ⟨B2, 1, none⟩) (fun k hk => hk.2) _) (p := ⟨B2, 2, none⟩) (fun k hk => hk.2) _) (p := ⟨B2, 3, none⟩) (fun k hk => hk.2) _) (p := ⟨B2, 4, none⟩) (fun k hk => hk.2) _) (Nat.zero_le _)) (fun _ _ => trivial)
end Go.Proofs.Ytgdjoochbgeokaa.Hand
namespace Go.Proofs.Ytgdjoochbgeokaa.Hand
open Go.RowKit Go.Maps Go.Proofs.YtgdjoochbgeokaaW.PrintWords Go.Proofs.YtgdjoochbgeokaaW.PrintLast Go.Proofs.YtgdjoochbgeokaaW.PrintMore Go.Proofs.Ytgdjoochbgeokaa.Q
set_option linter.unusedVariables false
set_option linter.unusedSimpArgs false
theorem whyI_cases (tr mo : Int) (s : ByteArray) (E : List Win) : whyI tr mo s E = 0 ∨ whyI tr mo s E = 1 ∨ whyI tr mo s E = 5 ∨ whyI tr mo s E = 80 := by
  unfold whyI
  split
  · exact .inr (.inl rfl)
  · split
    · split
      · exact .inr (.inr (.inr rfl))
      · exact .inl rfl
    · split
      · exact .inr (.inr (.inl rfl))
      · exact .inl rfl
theorem whyI_one {tr mo : Int} {s : ByteArray} {E : List Win} : whyI tr mo s E = 1 ↔ (s.size : Int) > 256 := by
  unfold whyI
  constructor
  · intro h
    by_cases hs : (s.size : Int) > 256
    · exact hs
    · rw [if_neg hs] at h
      split at h <;> split at h <;> exact absurd h (by decide)
  · intro h
    rw [if_pos h]
theorem whyI_zero {tr mo : Int} {s : ByteArray} {E : List Win} {x : Win} (h : whyI tr mo s E = 0) (hl : look E s = some x) : x.2.2 < tr := by
  unfold whyI at h
  split at h
  · exact absurd h (by decide)
  · rw [hl] at h
    simp only at h
    split at h
    · exact absurd h (by decide)
    · omega
theorem docN_snoc (l : List DocW) (x : DocW) : docN (l ++ [x]) (l.length : Int) = x := by
  rw [docN_get (by simp)]
  simp
theorem docN_set {l : List DocW} {i : Nat} {x : DocW} (h : i < l.length) : docN (l.set i x) (i : Int) = x := by
  rw [docN_get (by simpa using h)]
  simp
theorem cell_far5 {W : World} {g : Nat} {a : Addr} {x y0 y1 y2 y3 y4 : Value} (h : a.block ≠ g) (hc : W.cell? a = some x) :
    (((((W.drew.setCell ⟨g, 0, none⟩ y0).setCell ⟨g, 1, none⟩ y1).setCell ⟨g, 2, none⟩ y2).setCell ⟨g, 3, none⟩ y3).setCell ⟨g, 4, none⟩ y4).cell? a = some x := by
  rw [cell_far (p := ⟨g, 4, none⟩) h, cell_far (p := ⟨g, 3, none⟩) h, cell_far (p := ⟨g, 2, none⟩) h, cell_far (p := ⟨g, 1, none⟩) h, cell_far (p := ⟨g, 0, none⟩) h]
  exact hc
theorem kD_M (w : World) (base : Nat) (ok : Nat → Prop) (x : DocW) : kD.M w base ok x [.string x.f0, .int .u64 x.f1, .int .i64 x.f2] := k73_mkM _ _ _ _
/-- A counted attempt: what the document's Try makes of its list. -/
def TryD (tr mo sp t : Int) (s : ByteArray) (l l' : List DocW) : Prop :=
  (whyI tr mo s (opens sp t l) ≠ 0 ∧ l' = l) ∨ (whyI tr mo s (opens sp t l) = 0 ∧ look (opens sp t l) s = none ∧ l' = l ++ [⟨s, t, 1⟩]) ∨
  (whyI tr mo s (opens sp t l) = 0 ∧ ∃ i, i < l.length ∧ opn sp t (toW (docN l i)) = true ∧ (docN l i).f0 = s ∧ l' = l.set i (cntD (docN l i) ((docN l i).f2 + 1)))
set_option maxHeartbeats 2000000 in
set_option maxRecDepth 100000 in
theorem ref_Try.all {w : World} {v : Value} {l : List DocW} {tr sp mo ck now t : Int} (h : DV w v l) (ht : t = max now ck) (hB : DocB sp t l) (hN : ((opens sp t l).map (·.1)).Nodup) (htr : 1 ≤ tr ∧ tr ≤ 1000000) (hlt : (l.length : Int) < 4398046511104) (s : ByteArray) :
    Calls Try.prog 21 #[(.agg #[.int .i64 tr, .int .u64 sp, .int .i64 mo, .int .u64 ck, v]), .string s, .int .u64 now] w fun e w' => ∃ v' l', e = .returned (.tuple #[(.agg #[.int .i64 tr, .int .u64 sp, .int .i64 mo, .int .u64 (tryC ck t s), v']), .int .i64 (tryN tr mo s (opens sp t l)), .int .i64 (whyI tr mo s (opens sp t l))]) ∧ DV w' v' l' ∧ Below w.heap.size w w' ∧ TryD tr mo sp t s l l' := by
  obtain ⟨A, c, rfl, hc, hC⟩ := h.view
  have hwy := why_ev (ck := ck) (now := now) (by rw [← ht]; exact hB) (by rw [← ht]; exact hN) tr mo s
  rw [← ht] at hwy
  obtain ⟨ky, hky⟩ := hwy.rounds
  obtain ⟨r, hev, hr⟩ := open_look hB hN tr mo t s
  obtain ⟨kk, hkk⟩ := hev.rounds
  obtain ⟨e, he⟩ : ∃ e, e = whyI tr mo s (opens sp t l) := ⟨_, rfl⟩
  have hcs := whyI_cases tr mo s (opens sp t l)
  rw [← he] at hky hcs
  have HE := Aside0.mk he
  have HKY := Aside0.mk hky
  have HKK := Aside0.mk hkk
  have HT := Aside0.mk ht
  have HD := Aside0.mk h
  have HL := Aside0.mk hB.len
  have HC := Aside0.mk hC
  have HCC := Aside0.mk hc
  have HTR := Aside0.mk htr
  have HLT := Aside0.mk hlt
  clear hlt
  have HDB := Aside0.mk hB
  obtain ⟨W1, hW1⟩ : ∃ W1, W1 = w.alloc (.cells #[.int .i64 tr, .int .u64 sp, .int .i64 mo, .int .u64 ck, .slice A l.length c] 31) := ⟨_, rfl⟩
  have HB1 := Aside0.mk (blk_new w (.cells #[.int .i64 tr, .int .u64 sp, .int .i64 mo, .int .u64 ck, .slice A l.length c] 31 (0, 0)))
  have HK1 := Aside0.mk (below_alloc (Below.refl w.heap.size w) (.cells #[.int .i64 tr, .int .u64 sp, .int .i64 mo, .int .u64 ck, .slice A l.length c] 31))
  have hs1 : W1.heap.size = w.heap.size + 1 := by rw [hW1]; simp
  rw [← hW1] at HB1 HK1
  have HB2 := Aside0.mk (blk_new W1 (.cells #[.int .i64 0, .int .u64 0, .int .i64 0, .int .u64 0, .slice none 0 0] 31 (0, 0)))
  have HK2 := Aside0.mk (below_alloc HK1.out (.cells #[.int .i64 0, .int .u64 0, .int .i64 0, .int .u64 0, .slice none 0 0] 31))
  replace HB1 := Aside0.mk (blk_alloc HB1.out (.cells #[.int .i64 0, .int .u64 0, .int .i64 0, .int .u64 0, .slice none 0 0] 31))
  have d0 := (blk_cell HB1.out 0).trans rfl
  have d1 := (blk_cell HB1.out 1).trans rfl
  have d2 := (blk_cell HB1.out 2).trans rfl
  have d3 := (blk_cell HB1.out 3).trans rfl
  have d4 := (blk_cell HB1.out 4).trans rfl
  rw [hW1] at d0 d1 d2 d3 d4
  clear h hC hc hky hkk hB hev hN hwy he ht htr
  go_enter Try.func21, Try.ntmps21
  go_wp2_with fail
  obtain ⟨B2, hB2⟩ : ∃ B2, B2 = w.heap.size + 1 := ⟨_, rfl⟩
  rw [← hW1]
  rw [hs1] at HB2
  rw [← hB2] at HB2 ⊢
  obtain ⟨B1, hB1⟩ : ∃ B1, B1 = w.heap.size := ⟨_, rfl⟩
  have hBB : Aside0 (w.heap.size ≤ B1 ∧ w.heap.size ≤ B2 ∧ B1 ≠ B2) := ⟨by omega⟩
  rw [← hB1] at HB1 ⊢
  obtain ⟨W2, hW2⟩ : ∃ W2, W2 = W1.alloc (.cells #[.int .i64 0, .int .u64 0, .int .i64 0, .int .u64 0, .slice none 0 0] 31) := ⟨_, rfl⟩
  rw [← hW2] at HB1 HB2 HK2 ⊢
  clear d0 d1 d2 d3 d4 hW1 hW2 hB1 hB2 HK1 hs1
  refine (wicketref08_Why.calls ky tr sp mo ck A c l s now e W2 (Kd.C_below HC.out HK2.out) HCC.out HKY.out).mono ?_
  rintro x w3 ⟨rfl, hb3⟩
  have HB13 := Aside0.mk (blk_below HB1.out hb3)
  have HB23 := Aside0.mk (blk_below HB2.out hb3)
  have HK3 := Aside0.mk (below_step HK2.out hb3)
  clear hb3 HB1 HB2 HK2
  by_cases e1 : e = 1
  · have HE1 : Aside0 (tryC ck t s = ck ∧ tryN tr mo s (opens sp t l) = 0 ∧ whyI tr mo s (opens sp t l) = 1) := ⟨by
      have hw : whyI tr mo s (opens sp t l) = 1 := HE.out.symm.trans e1
      refine ⟨?_, ?_, hw⟩
      · unfold tryC; rw [if_pos (whyI_one.1 hw)]
      · unfold tryN; rw [hw, if_neg (by decide)]⟩
    subst e1
    have d0 := (blk_cell HB13.out 0).trans rfl
    have d1 := (blk_cell HB13.out 1).trans rfl
    have d2 := (blk_cell HB13.out 2).trans rfl
    have d3 := (blk_cell HB13.out 3).trans rfl
    have d4 := (blk_cell HB13.out 4).trans rfl
    have dz0 := blk_frozen HB13.out 0
    have dz1 := blk_frozen HB13.out 1
    have dz2 := blk_frozen HB13.out 2
    have dz3 := blk_frozen HB13.out 3
    have dz4 := blk_frozen HB13.out 4
    have e0 := (blk_cell HB23.out 0).trans rfl
    have e1 := (blk_cell HB23.out 1).trans rfl
    have e2 := (blk_cell HB23.out 2).trans rfl
    have e3 := (blk_cell HB23.out 3).trans rfl
    have e4 := (blk_cell HB23.out 4).trans rfl
    have ez0 := blk_frozen HB23.out 0
    have ez1 := blk_frozen HB23.out 1
    have ez2 := blk_frozen HB23.out 2
    have ez3 := blk_frozen HB23.out 3
    have ez4 := blk_frozen HB23.out 4
    go_wp2_with fail
    refine bodyPost_ret (results_ctt rfl _ _ B2 31 #[.int .i64 tr, .int .u64 sp, .int .i64 mo, .int .u64 ck, .slice A l.length c] (0, 0) _ rfl (blk_five HB23.out _ _ _ _ _) Try.underlying31 rfl size31) rfl ?_
    have hb6 := below_five HK3.out hBB.out.2.1 (.int .i64 tr) (.int .u64 sp) (.int .i64 mo) (.int .u64 ck) (.slice A l.length c)
    exact ⟨_, l, by rw [HE1.out.1, HE1.out.2.1, HE1.out.2.2]; rfl, Kd.R_below HD.out hb6, hb6, .inl ⟨by rw [HE1.out.2.2]; decide, rfl⟩⟩
  have b1 : (e == 1) = false := beq_eq_false_iff_ne.mpr e1
  have HCT : Aside0 (tryC ck t s = t) := ⟨by unfold tryC; rw [if_neg (fun hs => e1 (HE.out.trans (whyI_one.2 hs)))]⟩
  have d0 := (blk_cell HB13.out 0).trans rfl
  have d1 := (blk_cell HB13.out 1).trans rfl
  have d2 := (blk_cell HB13.out 2).trans rfl
  have d3 := (blk_cell HB13.out 3).trans rfl
  have d4 := (blk_cell HB13.out 4).trans rfl
  have dz0 := blk_frozen HB13.out 0
  have dz1 := blk_frozen HB13.out 1
  have dz2 := blk_frozen HB13.out 2
  have dz3 := blk_frozen HB13.out 3
  have dz4 := blk_frozen HB13.out 4
  clear e1
  go_wp2_with fail
  clear d0 d1 d2 d3 d4 dz0 dz1 dz2 dz3 dz4
  refine (wicketref08_at.calls tr sp mo ck A c l now t w3 (Kd.C_below HC.out HK3.out) HCC.out (by rw [at_f, HT.out])).mono ?_
  rintro x w4 ⟨rfl, hb4⟩
  have HB14' := Aside0.mk (blk_below HB13.out hb4)
  have HB24' := Aside0.mk (blk_below HB23.out hb4)
  have HK4' := Aside0.mk (below_step HK3.out hb4)
  clear hb4 HB13 HB23 HK3
  have HB14 : Aside0 ((w4.setCell ⟨B1, 3, none⟩ (.int .u64 t)).heap[B1]? = some (.cells #[.int .i64 tr, .int .u64 sp, .int .i64 mo, .int .u64 t, .slice A l.length c] 31 (0, 0))) := ⟨blk_put HB14'.out 3 (.int .u64 t) rfl⟩
  have HB24 := Aside0.mk (blk_far HB24'.out (p := ⟨B1, 3, none⟩) hBB.out.2.2.symm (.int .u64 t))
  have HK4 := Aside0.mk (below_set (j := 3) (v := .int .u64 t) HK4'.out hBB.out.1)
  have p3 := (blk_cell HB14'.out 3).trans rfl
  have f3 := blk_frozen HB14'.out 3
  have d0 := (blk_cell HB14.out 0).trans rfl
  have d1 := (blk_cell HB14.out 1).trans rfl
  have d2 := (blk_cell HB14.out 2).trans rfl
  have d3 := (blk_cell HB14.out 3).trans rfl
  have d4 := (blk_cell HB14.out 4).trans rfl
  have dz0 := blk_frozen HB14.out 0
  have dz1 := blk_frozen HB14.out 1
  have dz2 := blk_frozen HB14.out 2
  have dz3 := blk_frozen HB14.out 3
  have dz4 := blk_frozen HB14.out 4
  by_cases e0 : e = 0
  · subst e0
    have HWY : Aside0 (whyI tr mo s (opens sp t l) = 0) := ⟨HE.out.symm⟩
    have D4 : Aside0 ((w4.setCell ⟨B1, 3, none⟩ (.int .u64 t)).cell? ⟨B1, 4, none⟩ = some (.slice A l.length c)) := ⟨d4⟩
    have hBL : Aside0 (B1 < (w4.setCell ⟨B1, 3, none⟩ (.int .u64 t)).heap.size ∧ B2 < (w4.setCell ⟨B1, 3, none⟩ (.int .u64 t)).heap.size) := ⟨blk_lt HB14.out, blk_lt HB24.out⟩
    go_wp2_with (first
      | ((with_reducible refine gate_dst (N := 30) rfl ?_); refine Kd.R_lit kD (w0 := (w4.setCell ⟨B1, 3, none⟩ (.int .u64 t))) (w4.setCell ⟨B1, 3, none⟩ (.int .u64 t)).heap.size 73 ?hg (N := 30) ?hd (xs := ([] : List DocW)) (inner := []) (ok := fun _ => True) (okp := fun _ => True) ?hr ?hp (fun _ hk => hk) trivial (Below.refl _ _) (Nat.le_refl _) (by simp) ?_; (case hd => rfl); (case hg => rfl); (case hr => first | (go_simp; done) | (go_simp; rfl)); (case hp => exact (Reps.none _ _)); intro v6 w6 ho6 hb6 hg6 hn6; have HO6 := Aside0.mk ho6; have HK6 := Aside0.mk hb6; have hd6 := pw_cell_below hb6 D4.out; clear ho6 hb6 hg6 hn6)
      | ((with_reducible refine gate_builtin (b := .append) (xs := #[.tmp 30, .tmp 32]) rfl ?_); at_builtin; refine Kd.R_append_rows kD (Rr := kD.K w6) (w0 := (w4.setCell ⟨B1, 3, none⟩ (.int .u64 t))) (w4.setCell ⟨B1, 3, none⟩ (.int .u64 t)).heap.size rfl (.tmp 30) (.tmp 32) 29 73 (.agg #[.string ⟨#[]⟩, .int .u64 0, .int .i64 0]) 32 rfl Try.underlying29 infoW rfl (by decide) (by decide) v6 [] l A l.length c (fun _ => True) (fun _ => False) rfl rfl HO6.out (Kd.C_below HC.out (below_step HK4.out HK6.out)) (kD_KM _ _ _ _) (fun _ h => h.elim) (fun _ _ => trivial) HK6.out HK6.out.size (by have := HL.out; simp; omega) ?_; intro v7 w7 ho7 hb7 hg7 hn7; have HO7 : Aside0 (Kd.R kD 73 w7 (w4.setCell ⟨B1, 3, none⟩ (.int .u64 t)).heap.size (fun _ => True) v7 l) := ⟨ho7⟩; have HK7 := Aside0.mk hb7; have HB17 := Aside0.mk (blk_below HB14.out hb7); have HB27 := Aside0.mk (blk_below HB24.out hb7); have m0 := (blk_cell HB17.out 0).trans rfl; have m1 := (blk_cell HB17.out 1).trans rfl; have m2 := (blk_cell HB17.out 2).trans rfl; have m3 := (blk_cell HB17.out 3).trans rfl; have m4 := (blk_cell HB17.out 4).trans rfl; clear ho7 hb7 hg7 hn7)
      | fail)
    refine (wicketref08_open.calls kk tr sp mo t A c l s t r w7 (Kd.C_below HC.out (below_step HK4.out HK7.out)) HCC.out HKK.out).mono ?_
    rintro x w8 ⟨rfl, hb8⟩
    have HO8 := Aside0.mk (Kd.R_below HO7.out hb8)
    have HBB1 := Aside0.mk (blk_below HB17.out hb8)
    have HBB2 := Aside0.mk (blk_below HB27.out hb8)
    have HKS := Aside0.mk (below_step HK7.out hb8)
    have HKK8 := Aside0.mk (below_step HK4.out HKS.out)
    clear hb8 m0 m1 m2 m3 m4 d0 d1 d2 d3 d4 dz0 dz1 dz2 dz3 dz4 p3 f3 hcs b1
    rcases hr with ⟨rfl, hlk⟩ | ⟨i, rfl, hi, hop, hsi, hlk⟩
    · have HLK := Aside0.mk hlk
      have b0 : decide ((-1 : Int) < 0) = true := by decide
      have hN9 : (l.length : Int) < 4398046511104 := HLT.out
      have hN8 : wrap64 (((l.length : Int) + 1) - 1) = (l.length : Int) := by rw [w64L (by omega) (by omega)]; omega
      have hN7 : ((l.length : Int) < (l.length : Int) + 1) = True := eq_true (by omega)
      have HTN : Aside0 (tryN tr mo s (opens sp t l) = wrap64 (tr - 1)) := ⟨by unfold tryN; rw [if_pos HWY.out, HLK.out, w64L (by have := HTR.out; omega) (by have := HTR.out; omega)]⟩
      clear hlk
      go_wp2_with ((with_reducible refine gate_builtin (b := .append) (xs := #[.tmp 40, .tmp 44]) rfl ?_); at_builtin; refine Kd.R_append kD (w0 := (w4.setCell ⟨B1, 3, none⟩ (.int .u64 t))) (w4.setCell ⟨B1, 3, none⟩ (.int .u64 t)).heap.size rfl (.tmp 40) (.tmp 44) 29 73 (.agg #[.string ⟨#[]⟩, .int .u64 0, .int .i64 0]) 32 rfl Try.underlying29 infoW rfl (by decide) (by decide) v7 l ⟨s, t, 0⟩ [.string s, .int .u64 t, .int .i64 0] (fun _ => True) (fun _ => False) rfl rfl (kD_M _ _ _ _) (fun _ h => h.elim) (fun _ _ => trivial) HO8.out HKS.out HKS.out.size (by have := HLT.out; omega) ?_; intro v5 w5 ho hb hg hat; obtain ⟨g, cap, hv5, hgb, hgl, _⟩ := Kd.R_form ho (by simp); rw [List.length_append, List.length_singleton] at hv5; subst hv5; have HO5 := Aside0.mk ho; have HGS := Aside0.mk hgb; have HK5 := Aside0.mk (below_step HK4.out hb); have HGB : Aside0 (B1 ≠ g ∧ B2 ≠ g) := ⟨by have := hBL.out; omega⟩; have HBB15 := Aside0.mk (blk_below HB14.out hb); have HBB25 := Aside0.mk (blk_below HB24.out hb); clear ho hb hg hat hgb hgl; have hix : l.length < l.length + 1 := Nat.lt_succ_self _; have hixL : l.length < (l ++ [(⟨s, t, 0⟩ : DocW)]).length := (by rw [List.length_append, List.length_singleton]; exact Nat.lt_succ_self _); have hu : (docN (l ++ [(⟨s, t, 0⟩ : DocW)]) ((l.length : Nat) : Int)).f2 = 0 := (by rw [docN_snoc]); have hst := doc_set HO5.out (l.length) hix (1 : Int); have hq1 : w5.cell? ⟨g, (l.length) * 3 + 2, none⟩ = some (.int .i64 ((0 : Int))) := (by rw [hst.1, hu]); have hq2 := hst.2.1; have HST := Aside0.mk hst.2.2; clear hst; obtain ⟨W9, hW9⟩ : ∃ W9, W9 = (w5.setCell ⟨g, (l.length) * 3 + 2, none⟩ (.int .i64 (1 : Int))).setCell ⟨B1, 4, none⟩ (.slice (some ⟨g, 0, none⟩) (l.length + 1) cap) := ⟨_, rfl⟩; have HB19 : Aside0 (W9.heap[B1]? = some (.cells #[.int .i64 tr, .int .u64 sp, .int .i64 mo, .int .u64 t, .slice (some ⟨g, 0, none⟩) (l.length + 1) cap] 31 (0, 0))) := ⟨by rw [hW9]; exact blk_put (blk_far HBB15.out (p := ⟨g, (l.length) * 3 + 2, none⟩) HGB.out.1 (.int .i64 (1 : Int))) 4 _ rfl⟩; have HB29 : Aside0 (W9.heap[B2]? = some (.cells #[.int .i64 0, .int .u64 0, .int .i64 0, .int .u64 0, .slice none 0 0] 31 (0, 0))) := ⟨by rw [hW9]; exact blk_far (blk_far HBB25.out (p := ⟨g, (l.length) * 3 + 2, none⟩) HGB.out.2 (.int .i64 (1 : Int))) (p := ⟨B1, 4, none⟩) hBB.out.2.2.symm _⟩; have k4 := (blk_cell (blk_far HBB15.out (p := ⟨g, (l.length) * 3 + 2, none⟩) HGB.out.1 (.int .i64 (1 : Int))) 4).trans rfl; have kz4 := blk_frozen (blk_far HBB15.out (p := ⟨g, (l.length) * 3 + 2, none⟩) HGB.out.1 (.int .i64 (1 : Int))) 4; have hR := Kd.R_mono (Kd.R_tight rfl HST.out) (ok' := fun k => k ≠ B1 ∧ k ≠ B2) (fun k hk => by (have hk2 : k = g := by simpa [Value.ownBlock] using hk); (have := HGB.out); omega); have hR9 := Kd.R_far hR (p := ⟨B1, 4, none⟩) (fun k hk => hk.1) (.slice (some ⟨g, 0, none⟩) (l.length + 1) cap); rw [← hW9] at hR9; have HR9 := Aside0.mk hR9; have hst9 := (doc_set HR9.out (l.length) hix 0).1; rw [docN_set hixL] at hst9; have q9 : W9.cell? ⟨g, (l.length) * 3 + 2, none⟩ = some (.int .i64 (1 : Int)) := hst9; have HK9 : Aside0 (Below w.heap.size w W9) := ⟨by rw [hW9]; exact below_set (below_set HK5.out (by have := HK4.out.size; have := HGS.out; omega)) hBB.out.1⟩; have q0 := (blk_cell HB19.out 0).trans rfl; have q1 := (blk_cell HB19.out 1).trans rfl; have q2 := (blk_cell HB19.out 2).trans rfl; have q3 := (blk_cell HB19.out 3).trans rfl; have q4 := (blk_cell HB19.out 4).trans rfl; have e0 := (blk_cell HB29.out 0).trans rfl; have ez0 := blk_frozen HB29.out 0; have e1 := (blk_cell HB29.out 1).trans rfl; have ez1 := blk_frozen HB29.out 1; have e2 := (blk_cell HB29.out 2).trans rfl; have ez2 := blk_frozen HB29.out 2; have e3 := (blk_cell HB29.out 3).trans rfl; have ez3 := blk_frozen HB29.out 3; have e4 := (blk_cell HB29.out 4).trans rfl; have ez4 := blk_frozen HB29.out 4; have HW9 := Aside0.mk hW9; clear hW9 hst9 hR hR9)
      rw [← HW9.out]
      refine start_ (n := 12) (S := fun w' => w'.cell? ⟨B1, 0, none⟩ = some (.int .i64 tr) ∧ w'.cell? ⟨B1, 1, none⟩ = some (.int .u64 sp) ∧ w'.cell? ⟨B1, 2, none⟩ = some (.int .i64 mo) ∧ w'.cell? ⟨B1, 3, none⟩ = some (.int .u64 t) ∧ w'.cell? ⟨B1, 4, none⟩ = some (.slice (some ⟨g, 0, none⟩) (l.length + 1) cap) ∧ w'.cell? ⟨g, (l.length) * 3 + 2, none⟩ = some (.int .i64 1)) (ds := []) #[false, false, false, false, false, false, false, false, false, false, false, false] (by kernel_rfl) rfl rfl ⟨q0, q1, q2, q3, q4, q9⟩ (fun hHeld => ?_)
      refine pure_ (i := 1) (N := some 60) (v := ?_) (a' := ?_) #[false, true, false, false, false, false, false, false, false, false, false, false] rfl rfl (by kernel_rfl) (fun _ _ _ h => h) (Or.inl ⟨by rfl, ?_⟩) ?_ ?_
      rotate_left
      · intro w'
        go_simp
        with_reducible rfl
      rotate_left
      · simp only [Act.put, List.setIfInBounds_toArray, List.set_cons_zero, List.set_cons_succ, i64_w, i32_w]
        rfl
      refine pure_ (i := 3) (N := some 62) (v := ?_) (a' := ?_) #[false, true, false, true, false, false, false, false, false, false, false, false] rfl rfl (by kernel_rfl) (fun _ _ _ h => h) (Or.inl ⟨by rfl, ?_⟩) ?_ ?_
      rotate_left
      · intro w'
        go_simp
        with_reducible rfl
      rotate_left
      · simp only [Act.put, List.setIfInBounds_toArray, List.set_cons_zero, List.set_cons_succ, i64_w, i32_w]
        rfl
      refine pure_ (i := 4) (N := some 63) (v := ?_) (a' := ?_) #[false, true, false, true, true, false, false, false, false, false, false, false] rfl rfl (by kernel_rfl) (fun _ _ _ h => h) (Or.inl ⟨by rfl, ?_⟩) ?_ ?_
      rotate_left
      · intro w'
        go_simp
        with_reducible rfl
      rotate_left
      · simp only [Act.put, List.setIfInBounds_toArray, List.set_cons_zero, List.set_cons_succ, i64_w, i32_w]
        rfl
      refine pure_ (i := 5) (N := some 64) (v := ?_) (a' := ?_) #[false, true, false, true, true, true, false, false, false, false, false, false] rfl rfl (by kernel_rfl) (fun _ _ _ h => h) (Or.inl ⟨by rfl, ?_⟩) ?_ ?_
      rotate_left
      · intro w'
        go_simp
        with_reducible rfl
      rotate_left
      · simp only [Act.put, List.setIfInBounds_toArray, List.set_cons_zero, List.set_cons_succ, i64_w, i32_w]
        rfl
      refine pure_ (i := 6) (N := some 65) (v := ?_) (a' := ?_) #[false, true, false, true, true, true, true, false, false, false, false, false] rfl rfl (by kernel_rfl) (fun _ _ _ h => h) (Or.inl ⟨by rfl, ?_⟩) ?_ ?_
      rotate_left
      · intro w'
        go_simp
        with_reducible rfl
      rotate_left
      · simp only [Act.put, List.setIfInBounds_toArray, List.set_cons_zero, List.set_cons_succ, i64_w, i32_w]
        rfl
      refine take_ (i := 0) (N := some 59) (v := ?_) (a' := ?_) #[true, true, false, true, true, true, true, false, false, false, false, false] rfl rfl (by kernel_rfl) (fun _ _ _ h => h) (Or.inl ⟨by rfl, ?_⟩) hHeld ?_ ?_
      rotate_left
      · rintro w' ⟨s0, s1, s2, s3, s4, s5⟩
        go_simp
        with_reducible rfl
      rotate_left
      · simp only [Act.put, List.setIfInBounds_toArray, List.set_cons_zero, List.set_cons_succ, i64_w, i32_w]
        rfl
      refine take_ (i := 2) (N := some 61) (v := ?_) (a' := ?_) #[true, true, true, true, true, true, true, false, false, false, false, false] rfl rfl (by kernel_rfl) (fun _ _ _ h => h) (Or.inl ⟨by rfl, ?_⟩) hHeld ?_ ?_
      rotate_left
      · rintro w' ⟨s0, s1, s2, s3, s4, s5⟩
        go_simp
        with_reducible rfl
      rotate_left
      · simp only [Act.put, List.setIfInBounds_toArray, List.set_cons_zero, List.set_cons_succ, i64_w, i32_w]
        rfl
      refine take_ (i := 7) (N := some 66) (v := ?_) (a' := ?_) #[true, true, true, true, true, true, true, true, false, false, false, false] rfl rfl (by kernel_rfl) (fun _ _ _ h => h) (Or.inl ⟨by rfl, ?_⟩) hHeld ?_ ?_
      rotate_left
      · rintro w' ⟨s0, s1, s2, s3, s4, s5⟩
        go_simp
        with_reducible rfl
      rotate_left
      · simp only [Act.put, List.setIfInBounds_toArray, List.set_cons_zero, List.set_cons_succ, i64_w, i32_w]
        rfl
      refine pure_ (i := 8) (N := some 67) (v := ?_) (a' := ?_) #[true, true, true, true, true, true, true, true, true, false, false, false] rfl rfl (by kernel_rfl) (fun _ _ _ h => h) (Or.inl ⟨by rfl, ?_⟩) ?_ ?_
      rotate_left
      · intro w'
        go_simp
        with_reducible rfl
      rotate_left
      · simp only [Act.put, List.setIfInBounds_toArray, List.set_cons_zero, List.set_cons_succ, i64_w, i32_w]
        rfl
      refine one_ (i := 9) (N := none) #[true, true, true, true, true, true, true, true, true, true, false, false] rfl rfl (by kernel_rfl) (by decide) (fun K hK => ?_)
      refine skip_ (w1 := (((((W9.drew.setCell ⟨B2, 0, none⟩ (.int .i64 tr)).setCell ⟨B2, 1, none⟩ (.int .u64 sp)).setCell ⟨B2, 2, none⟩ (.int .i64 mo)).setCell ⟨B2, 3, none⟩ (.int .u64 t)).setCell ⟨B2, 4, none⟩ (.slice (some ⟨g, 0, none⟩) (l.length + 1) cap))) (by rfl) rfl ?_ ?_
      · go_simp
        try rfl
      refine hK.out _ _ ⟨cell_far5 hBB.out.2.2 q0, cell_far5 hBB.out.2.2 q1, cell_far5 hBB.out.2.2 q2, cell_far5 hBB.out.2.2 q3, cell_far5 hBB.out.2.2 q4, cell_far5 HGB.out.2.symm q9⟩ (fun hHeld => ?_)
      clear hK K
      refine pure_ (i := 10) (N := some 7) (v := ?_) (a' := ?_) #[true, true, true, true, true, true, true, true, true, true, true, false] rfl rfl (by kernel_rfl) (fun _ _ _ h => h) (Or.inl ⟨by rfl, ?_⟩) ?_ ?_
      rotate_left
      · intro w'
        go_simp
        with_reducible rfl
      rotate_left
      · simp only [Act.put, List.setIfInBounds_toArray, List.set_cons_zero, List.set_cons_succ, i64_w, i32_w]
        rfl
      refine pure_ (i := 11) (N := some 8) (v := ?_) (a' := ?_) #[true, true, true, true, true, true, true, true, true, true, true, true] rfl rfl (by kernel_rfl) (fun _ _ _ h => h) (Or.inl ⟨by rfl, ?_⟩) ?_ ?_
      rotate_left
      · intro w'
        go_simp
        with_reducible rfl
      rotate_left
      · simp only [Act.put, List.setIfInBounds_toArray, List.set_cons_zero, List.set_cons_succ, i64_w, i32_w]
        rfl
      refine done_ (by kernel_rfl) ?_
      clear e0 e1 e2 e3 e4 ez0 ez1 ez2 ez3 ez4 q0 q1 q2 q3 q4 q9
      go_wp2_with fail
      refine bodyPost_ret (results_ctt rfl _ _ B2 31 #[.int .i64 tr, .int .u64 sp, .int .i64 mo, .int .u64 t, .slice (some ⟨g, 0, none⟩) (l.length + 1) cap] (0, 0) _ rfl (blk_five (blk_drew HB29.out) _ _ _ _ _) Try.underlying31 rfl size31) rfl ?_
      have hb10 := below_five (below_drew1 HK9.out) hBB.out.2.1 (.int .i64 tr) (.int .u64 sp) (.int .i64 mo) (.int .u64 t) (.slice (some ⟨g, 0, none⟩) (l.length + 1) cap)
      refine ⟨_, (l ++ [(⟨s, t, 0⟩ : DocW)]).set l.length (cntD (docN (l ++ [(⟨s, t, 0⟩ : DocW)]) (l.length : Nat)) 1), by rw [HCT.out, HTN.out, HWY.out]; rfl, ?_, hb10, ?_⟩
      · exact Kd.R_mono (Kd.R_lower (Kd.R_far (Kd.R_far (Kd.R_far (Kd.R_far (Kd.R_far (Kd.R_drew HR9.out) (p := ⟨B2, 0, none⟩) (fun k hk => hk.2) _) (p := ⟨B2, 1, none⟩) (fun k hk => hk.2) _) (p := ⟨B2, 2, none⟩) (fun k hk => hk.2) _) (p := ⟨B2, 3, none⟩) (fun k hk => hk.2) _) (p := ⟨B2, 4, none⟩) (fun k hk => hk.2) _) (Nat.zero_le _)) (fun _ _ => trivial)
      · exact .inr (.inl ⟨HWY.out, HLK.out, by rw [docN_snoc]; simp⟩)
    · have HLK := Aside0.mk hlk
      have b0 : decide ((i : Int) < 0) = false := decide_eq_false (by omega)
      obtain ⟨u, hu⟩ : ∃ u, (docN l i).f2 = u := ⟨_, rfl⟩
      have hu0 : 0 ≤ u ∧ u < 1000000 := by
        have h1 := whyI_zero HWY.out HLK.out
        have h2 := HDB.out.cnt _ (List.getElem_mem hi)
        rw [← docN_get hi] at h2
        have h3 := HTR.out
        have h4 : (toW (docN l i)).2.2 = u := hu
        omega
      have HTN : Aside0 (tryN tr mo s (opens sp t l) = wrap64 (tr - (u + 1))) := ⟨by unfold tryN; rw [if_pos HWY.out, HLK.out]; show tr - ((docN l i).f2 + 1) = _; rw [hu, w64L (by have := HTR.out; omega) (by have := HTR.out; omega)]⟩
      have HIX : Aside0 (i < l.length ∧ opn sp t (toW (docN l i)) = true ∧ (docN l i).f0 = s) := ⟨hi, hop, hsi⟩
      obtain ⟨g, cap, hv7, hgb, hgl, _⟩ := Kd.R_form HO8.out (by omega)
      subst hv7
      have HGS := Aside0.mk hgb
      have HGB : Aside0 (B1 ≠ g ∧ B2 ≠ g) := ⟨by have := hBL.out; omega⟩
      have hix : i < l.length := hi
      have hixL : i < l.length := hi
      clear hlk hop hsi hgb hgl
      have hst := doc_set HO8.out (i) hix (u + 1)
      have hq1 : w8.cell? ⟨g, (i) * 3 + 2, none⟩ = some (.int .i64 (u)) := by rw [hst.1, hu]
      have hq2 := hst.2.1
      have HST := Aside0.mk hst.2.2
      clear hst
      obtain ⟨W9, hW9⟩ : ∃ W9, W9 = (w8.setCell ⟨g, (i) * 3 + 2, none⟩ (.int .i64 (u + 1))).setCell ⟨B1, 4, none⟩ (.slice (some ⟨g, 0, none⟩) (l.length) cap) := ⟨_, rfl⟩
      have HB19 : Aside0 (W9.heap[B1]? = some (.cells #[.int .i64 tr, .int .u64 sp, .int .i64 mo, .int .u64 t, .slice (some ⟨g, 0, none⟩) (l.length) cap] 31 (0, 0))) := ⟨by rw [hW9]; exact blk_put (blk_far HBB1.out (p := ⟨g, (i) * 3 + 2, none⟩) HGB.out.1 (.int .i64 (u + 1))) 4 _ rfl⟩
      have HB29 : Aside0 (W9.heap[B2]? = some (.cells #[.int .i64 0, .int .u64 0, .int .i64 0, .int .u64 0, .slice none 0 0] 31 (0, 0))) := ⟨by rw [hW9]; exact blk_far (blk_far HBB2.out (p := ⟨g, (i) * 3 + 2, none⟩) HGB.out.2 (.int .i64 (u + 1))) (p := ⟨B1, 4, none⟩) hBB.out.2.2.symm _⟩
      have k4 := (blk_cell (blk_far HBB1.out (p := ⟨g, (i) * 3 + 2, none⟩) HGB.out.1 (.int .i64 (u + 1))) 4).trans rfl
      have kz4 := blk_frozen (blk_far HBB1.out (p := ⟨g, (i) * 3 + 2, none⟩) HGB.out.1 (.int .i64 (u + 1))) 4
      have hR := Kd.R_mono (Kd.R_tight rfl HST.out) (ok' := fun k => k ≠ B1 ∧ k ≠ B2) (fun k hk => by
        have hk2 : k = g := by simpa [Value.ownBlock] using hk
        have := HGB.out
        omega)
      have hR9 := Kd.R_far hR (p := ⟨B1, 4, none⟩) (fun k hk => hk.1) (.slice (some ⟨g, 0, none⟩) (l.length) cap)
      rw [← hW9] at hR9
      have HR9 := Aside0.mk hR9
      have hst9 := (doc_set HR9.out (i) hix 0).1
      rw [docN_set hixL] at hst9
      have q9 : W9.cell? ⟨g, (i) * 3 + 2, none⟩ = some (.int .i64 (u + 1)) := hst9
      have HK9 : Aside0 (Below w.heap.size w W9) := ⟨by rw [hW9]; exact below_set (below_set HKK8.out (by have := HK4.out.size; have := HGS.out; omega)) hBB.out.1⟩
      have q0 := (blk_cell HB19.out 0).trans rfl
      have q1 := (blk_cell HB19.out 1).trans rfl
      have q2 := (blk_cell HB19.out 2).trans rfl
      have q3 := (blk_cell HB19.out 3).trans rfl
      have q4 := (blk_cell HB19.out 4).trans rfl
      have e0 := (blk_cell HB29.out 0).trans rfl
      have ez0 := blk_frozen HB29.out 0
      have e1 := (blk_cell HB29.out 1).trans rfl
      have ez1 := blk_frozen HB29.out 1
      have e2 := (blk_cell HB29.out 2).trans rfl
      have ez2 := blk_frozen HB29.out 2
      have e3 := (blk_cell HB29.out 3).trans rfl
      have ez3 := blk_frozen HB29.out 3
      have e4 := (blk_cell HB29.out 4).trans rfl
      have ez4 := blk_frozen HB29.out 4
      have HW9 := Aside0.mk hW9
      clear hW9 hst9 hR hR9
      go_wp2_with fail
      rw [← HW9.out]
      refine start_ (n := 12) (S := fun w' => w'.cell? ⟨B1, 0, none⟩ = some (.int .i64 tr) ∧ w'.cell? ⟨B1, 1, none⟩ = some (.int .u64 sp) ∧ w'.cell? ⟨B1, 2, none⟩ = some (.int .i64 mo) ∧ w'.cell? ⟨B1, 3, none⟩ = some (.int .u64 t) ∧ w'.cell? ⟨B1, 4, none⟩ = some (.slice (some ⟨g, 0, none⟩) (l.length) cap) ∧ w'.cell? ⟨g, (i) * 3 + 2, none⟩ = some (.int .i64 (u + 1))) (ds := []) #[false, false, false, false, false, false, false, false, false, false, false, false] (by kernel_rfl) rfl rfl ⟨q0, q1, q2, q3, q4, q9⟩ (fun hHeld => ?_)
      refine pure_ (i := 1) (N := some 60) (v := ?_) (a' := ?_) #[false, true, false, false, false, false, false, false, false, false, false, false] rfl rfl (by kernel_rfl) (fun _ _ _ h => h) (Or.inl ⟨by rfl, ?_⟩) ?_ ?_
      rotate_left
      · intro w'
        go_simp
        with_reducible rfl
      rotate_left
      · simp only [Act.put, List.setIfInBounds_toArray, List.set_cons_zero, List.set_cons_succ, i64_w, i32_w]
        rfl
      refine pure_ (i := 3) (N := some 62) (v := ?_) (a' := ?_) #[false, true, false, true, false, false, false, false, false, false, false, false] rfl rfl (by kernel_rfl) (fun _ _ _ h => h) (Or.inl ⟨by rfl, ?_⟩) ?_ ?_
      rotate_left
      · intro w'
        go_simp
        with_reducible rfl
      rotate_left
      · simp only [Act.put, List.setIfInBounds_toArray, List.set_cons_zero, List.set_cons_succ, i64_w, i32_w]
        rfl
      refine pure_ (i := 4) (N := some 63) (v := ?_) (a' := ?_) #[false, true, false, true, true, false, false, false, false, false, false, false] rfl rfl (by kernel_rfl) (fun _ _ _ h => h) (Or.inl ⟨by rfl, ?_⟩) ?_ ?_
      rotate_left
      · intro w'
        go_simp
        with_reducible rfl
      rotate_left
      · simp only [Act.put, List.setIfInBounds_toArray, List.set_cons_zero, List.set_cons_succ, i64_w, i32_w]
        rfl
      refine pure_ (i := 5) (N := some 64) (v := ?_) (a' := ?_) #[false, true, false, true, true, true, false, false, false, false, false, false] rfl rfl (by kernel_rfl) (fun _ _ _ h => h) (Or.inl ⟨by rfl, ?_⟩) ?_ ?_
      rotate_left
      · intro w'
        go_simp
        with_reducible rfl
      rotate_left
      · simp only [Act.put, List.setIfInBounds_toArray, List.set_cons_zero, List.set_cons_succ, i64_w, i32_w]
        rfl
      refine pure_ (i := 6) (N := some 65) (v := ?_) (a' := ?_) #[false, true, false, true, true, true, true, false, false, false, false, false] rfl rfl (by kernel_rfl) (fun _ _ _ h => h) (Or.inl ⟨by rfl, ?_⟩) ?_ ?_
      rotate_left
      · intro w'
        go_simp
        with_reducible rfl
      rotate_left
      · simp only [Act.put, List.setIfInBounds_toArray, List.set_cons_zero, List.set_cons_succ, i64_w, i32_w]
        rfl
      refine take_ (i := 0) (N := some 59) (v := ?_) (a' := ?_) #[true, true, false, true, true, true, true, false, false, false, false, false] rfl rfl (by kernel_rfl) (fun _ _ _ h => h) (Or.inl ⟨by rfl, ?_⟩) hHeld ?_ ?_
      rotate_left
      · rintro w' ⟨s0, s1, s2, s3, s4, s5⟩
        go_simp
        with_reducible rfl
      rotate_left
      · simp only [Act.put, List.setIfInBounds_toArray, List.set_cons_zero, List.set_cons_succ, i64_w, i32_w]
        rfl
      refine take_ (i := 2) (N := some 61) (v := ?_) (a' := ?_) #[true, true, true, true, true, true, true, false, false, false, false, false] rfl rfl (by kernel_rfl) (fun _ _ _ h => h) (Or.inl ⟨by rfl, ?_⟩) hHeld ?_ ?_
      rotate_left
      · rintro w' ⟨s0, s1, s2, s3, s4, s5⟩
        go_simp
        with_reducible rfl
      rotate_left
      · simp only [Act.put, List.setIfInBounds_toArray, List.set_cons_zero, List.set_cons_succ, i64_w, i32_w]
        rfl
      refine take_ (i := 7) (N := some 66) (v := ?_) (a' := ?_) #[true, true, true, true, true, true, true, true, false, false, false, false] rfl rfl (by kernel_rfl) (fun _ _ _ h => h) (Or.inl ⟨by rfl, ?_⟩) hHeld ?_ ?_
      rotate_left
      · rintro w' ⟨s0, s1, s2, s3, s4, s5⟩
        go_simp
        with_reducible rfl
      rotate_left
      · simp only [Act.put, List.setIfInBounds_toArray, List.set_cons_zero, List.set_cons_succ, i64_w, i32_w]
        rfl
      refine pure_ (i := 8) (N := some 67) (v := ?_) (a' := ?_) #[true, true, true, true, true, true, true, true, true, false, false, false] rfl rfl (by kernel_rfl) (fun _ _ _ h => h) (Or.inl ⟨by rfl, ?_⟩) ?_ ?_
      rotate_left
      · intro w'
        go_simp
        with_reducible rfl
      rotate_left
      · simp only [Act.put, List.setIfInBounds_toArray, List.set_cons_zero, List.set_cons_succ, i64_w, i32_w]
        rfl
      refine one_ (i := 9) (N := none) #[true, true, true, true, true, true, true, true, true, true, false, false] rfl rfl (by kernel_rfl) (by decide) (fun K hK => ?_)
      refine skip_ (w1 := (((((W9.drew.setCell ⟨B2, 0, none⟩ (.int .i64 tr)).setCell ⟨B2, 1, none⟩ (.int .u64 sp)).setCell ⟨B2, 2, none⟩ (.int .i64 mo)).setCell ⟨B2, 3, none⟩ (.int .u64 t)).setCell ⟨B2, 4, none⟩ (.slice (some ⟨g, 0, none⟩) (l.length) cap))) (by rfl) rfl ?_ ?_
      · go_simp
        try rfl
      refine hK.out _ _ ⟨cell_far5 hBB.out.2.2 q0, cell_far5 hBB.out.2.2 q1, cell_far5 hBB.out.2.2 q2, cell_far5 hBB.out.2.2 q3, cell_far5 hBB.out.2.2 q4, cell_far5 HGB.out.2.symm q9⟩ (fun hHeld => ?_)
      clear hK K
      refine pure_ (i := 10) (N := some 7) (v := ?_) (a' := ?_) #[true, true, true, true, true, true, true, true, true, true, true, false] rfl rfl (by kernel_rfl) (fun _ _ _ h => h) (Or.inl ⟨by rfl, ?_⟩) ?_ ?_
      rotate_left
      · intro w'
        go_simp
        with_reducible rfl
      rotate_left
      · simp only [Act.put, List.setIfInBounds_toArray, List.set_cons_zero, List.set_cons_succ, i64_w, i32_w]
        rfl
      refine pure_ (i := 11) (N := some 8) (v := ?_) (a' := ?_) #[true, true, true, true, true, true, true, true, true, true, true, true] rfl rfl (by kernel_rfl) (fun _ _ _ h => h) (Or.inl ⟨by rfl, ?_⟩) ?_ ?_
      rotate_left
      · intro w'
        go_simp
        with_reducible rfl
      rotate_left
      · simp only [Act.put, List.setIfInBounds_toArray, List.set_cons_zero, List.set_cons_succ, i64_w, i32_w]
        rfl
      refine done_ (by kernel_rfl) ?_
      clear e0 e1 e2 e3 e4 ez0 ez1 ez2 ez3 ez4 q0 q1 q2 q3 q4 q9
      go_wp2_with fail
      refine bodyPost_ret (results_ctt rfl _ _ B2 31 #[.int .i64 tr, .int .u64 sp, .int .i64 mo, .int .u64 t, .slice (some ⟨g, 0, none⟩) (l.length) cap] (0, 0) _ rfl (blk_five (blk_drew HB29.out) _ _ _ _ _) Try.underlying31 rfl size31) rfl ?_
      have hb10 := below_five (below_drew1 HK9.out) hBB.out.2.1 (.int .i64 tr) (.int .u64 sp) (.int .i64 mo) (.int .u64 t) (.slice (some ⟨g, 0, none⟩) (l.length) cap)
      refine ⟨_, l.set i (cntD (docN l i) (u + 1)), by rw [HCT.out, HTN.out, HWY.out]; rfl, ?_, hb10, ?_⟩
      · exact Kd.R_mono (Kd.R_lower (Kd.R_far (Kd.R_far (Kd.R_far (Kd.R_far (Kd.R_far (Kd.R_drew HR9.out) (p := ⟨B2, 0, none⟩) (fun k hk => hk.2) _) (p := ⟨B2, 1, none⟩) (fun k hk => hk.2) _) (p := ⟨B2, 2, none⟩) (fun k hk => hk.2) _) (p := ⟨B2, 3, none⟩) (fun k hk => hk.2) _) (p := ⟨B2, 4, none⟩) (fun k hk => hk.2) _) (Nat.zero_le _)) (fun _ _ => trivial)
      · exact .inr (.inr ⟨HWY.out, i, HIX.out.1, HIX.out.2.1, HIX.out.2.2, by rw [hu]⟩)
  · have b0 : (e != 0) = true := bne_iff_ne.mpr e0
    have HW : Aside0 (tryN tr mo s (opens sp t l) = 0 ∧ whyI tr mo s (opens sp t l) = e ∧ e ≠ 0) := ⟨by
      refine ⟨?_, HE.out.symm, e0⟩
      unfold tryN; rw [← HE.out, if_neg e0]⟩
    clear e0
    have e0 := (blk_cell HB24.out 0).trans rfl
    have e1 := (blk_cell HB24.out 1).trans rfl
    have e2 := (blk_cell HB24.out 2).trans rfl
    have e3 := (blk_cell HB24.out 3).trans rfl
    have e4 := (blk_cell HB24.out 4).trans rfl
    have ez0 := blk_frozen HB24.out 0
    have ez1 := blk_frozen HB24.out 1
    have ez2 := blk_frozen HB24.out 2
    have ez3 := blk_frozen HB24.out 3
    have ez4 := blk_frozen HB24.out 4
    go_wp2_with fail
    refine bodyPost_ret (results_ctt rfl _ _ B2 31 #[.int .i64 tr, .int .u64 sp, .int .i64 mo, .int .u64 t, .slice A l.length c] (0, 0) _ rfl (blk_five HB24.out _ _ _ _ _) Try.underlying31 rfl size31) rfl ?_
    have hb6 := below_five HK4.out hBB.out.2.1 (.int .i64 tr) (.int .u64 sp) (.int .i64 mo) (.int .u64 t) (.slice A l.length c)
    exact ⟨_, l, by rw [HW.out.1, HW.out.2.1, HCT.out]; rfl, Kd.R_below HD.out hb6, hb6, .inl ⟨by rw [HW.out.2.1]; exact HW.out.2.2, rfl⟩⟩
end Go.Proofs.Ytgdjoochbgeokaa.Hand
