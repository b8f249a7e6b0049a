/- Disk: the program's Sync, SyncDir. -/
import Derived.Test.YtdekcjopgnfmdaaDskMA
import Derived.Test.YtdekcjopgnfmdaaDskLa
namespace Go.Proofs.Ytdekcjopgnfmdaa.Hand
open Go.RowKit Go.Maps Go.Proofs.YtdekcjopgnfmdaaW.PrintWords Go.Proofs.YtdekcjopgnfmdaaW.PrintLast Go.Proofs.YtdekcjopgnfmdaaW.PrintMore Go.Proofs.Ytdekcjopgnfmdaa.Q
set_option linter.unusedVariables false
set_option linter.unusedSimpArgs false
theorem set_map1 {fm : List FM} {i : Nat} (hi : i < fm.length) (v : Value) : (fm.set i ((fm.getD i fm0).1, v)).map (·.1) = fm.map (·.1) := by
  rw [List.map_set]; refine List.ext_getElem (by simp) (fun j h1 h2 => ?_); rw [List.getElem_set]
  split
  · rename_i e; subst e; rw [List.getD_eq_getElem?_getD, List.getElem?_eq_getElem hi]
    simp
  · rfl
theorem getD_set {α : Type} {l : List α} {i : Nat} {x z : α} (h : i < l.length) : (l.set i x).getD i z = x := by
  rw [List.getD_eq_getElem?_getD, List.getElem?_set_self h]; rfl
theorem getD_set_ne {α : Type} {l : List α} {i j : Nat} {x z : α} (h : i ≠ j) : (l.set i x).getD j z = l.getD j z := by
  rw [List.getD_eq_getElem?_getD, List.getD_eq_getElem?_getD, List.getElem?_set_ne h]
/-- A file has turned. -/
theorem DskM.turnFile {w w' : World} {F : Nat → Prop} {d : Nat} {S : DS} {u : Int} {md ms : Nat} {vf vc : Value} {fm : List FM} (h : DskM w F d S u md ms vf vc fm) {i : Nat} (hi : i < S.files.length)
    (hk : KeptL (fun k => k = (fm.getD i fm0).1 ∨ (fm.getD i fm0).2.ownBlock = some k) w w') {v' : Value} {f' : Fil} (hn : FileAt w' ((fm.getD i fm0).1, v') f') (hv : v'.ownBlock = (fm.getD i fm0).2.ownBlock ∨ ∃ b, v'.ownBlock = some b ∧ w.heap.size ≤ b) :
    DskM w' (grow F w w') d { S with files := S.files.set i f' } u md ms vf vc (fm.set i ((fm.getD i fm0).1, v')) := by
  obtain ⟨n1, n2, n3, n4, n5⟩ := h.ne_d; obtain ⟨f1, f2, f3, f4, f5, f6⟩ := h.foot; have hlen := h.len; have hi' : i < fm.length := by omega
  have hA := h.at_ i hi; have hs : ∀ k, F k → k ≠ (fm.getD i fm0).1 → (fm.getD i fm0).2.ownBlock ≠ some k → w'.heap[k]? = w.heap[k]? := fun k hF hne hne2 => hk.block k (h.lt k hF) (fun hh => hh.elim hne hne2); have hvne : ∀ {v : Value} {b : Nat} {cs : Array Value} {t : Nat}, w.heap[b]? = some (.cells cs t (0, 0)) → 5 ≠ t → (fm.getD i fm0).2.ownBlock ≠ some b := fun hb ht e => Kd.R_ne hA.2 hb ht e.symm; refine { blk := (hs d f1 (n5 i hi).1.symm (fun e => (n5 i hi).2 d e rfl)).trans h.blk, own := ?_, len := by rw [List.length_set, List.length_set, hlen], at_ := fun j hj => ?_, sep := fun a b ha hb hab => ?_, dir := h.dir.same (hs md f2 (h.dir.ne hA.1) (h.dir.ne_own hA.2)), safe := h.safe.same (hs ms f3 (h.safe.ne hA.1) (h.safe.ne_own hA.2)), apart := h.apart, chg := R_keepD rfl h.chg (fun k hv => hs k (f5 k hv) (fun e => Kd.R_ne h.chg hA.1 (by decide) (by rw [hv, e])) (own_ne h.chg hA.2 (by decide) hv)), foot := ?_, lt := lt_grow h.lt hk.size }
  · rw [set_map1 hi']; exact R_keepD rfl h.own (fun k hv => hs k (f4 k hv) (fun e => Kd.R_ne h.own hA.1 (by decide) (by rw [hv, e])) (own_ne h.own hA.2 (by decide) hv))
  · rw [List.length_set] at hj; by_cases e : i = j
    · subst e; rw [getD_set hi', getD_set hi]; exact hn
    · rw [getD_set_ne e, getD_set_ne e]; have hm := f6 _ (getD_mem (z := fm0) (by omega : j < fm.length)); have hsp := h.sep j i (by omega) hi' (fun hh => e hh.symm); refine (h.at_ j hj).same (hs _ hm.1 hsp.1 (fun hh => Kd.R_ne hA.2 (h.at_ j hj).1 (by decide) hh.symm)) (fun k hv => hs k (hm.2 k hv) (fun hh => Kd.R_ne (h.at_ j hj).2 hA.1 (by decide) (by rw [hv, hh])) (hsp.2 k hv))
  · rw [List.length_set] at ha hb
    have hnew : ∀ j, j < fm.length → i ≠ j → ∀ k, v'.ownBlock = some k → (fm.getD j fm0).2.ownBlock ≠ some k := fun j hj hij k hk1 hk2 => by
      rcases hv with hv | ⟨b, hv, hb⟩
      · exact (h.sep i j hi' hj hij).2 k (hv ▸ hk1) hk2
      · rw [hv] at hk1; injection hk1 with hk1; have := h.lt k ((f6 _ (getD_mem (z := fm0) hj)).2 k hk2); omega
    by_cases ea : i = a <;> by_cases eb : i = b
    · exact absurd (ea.symm.trans eb) hab
    · subst ea; rw [getD_set hi', getD_set_ne eb]; exact ⟨(h.sep i b hi' hb hab).1, fun k hk1 => hnew b hb hab k hk1⟩
    · subst eb; rw [getD_set hi', getD_set_ne ea]; exact ⟨(h.sep a i ha hi' hab).1, fun k hk1 hk2 => hnew a ha ea k hk2 hk1⟩
    · rw [getD_set_ne ea, getD_set_ne eb]; exact h.sep a b ha hb hab
  · refine ⟨.inl f1, .inl f2, .inl f3, fun k hv => .inl (f4 k hv), fun k hv => .inl (f5 k hv), fun a ha => ?_⟩; rcases List.mem_or_eq_of_mem_set ha with ha | ha
    · exact ⟨.inl (f6 a ha).1, fun k hv => .inl ((f6 a ha).2 k hv)⟩
    · have hm := f6 _ (getD_mem (z := fm0) hi'); rw [ha]; refine ⟨.inl hm.1, fun k hk2 => ?_⟩; rcases hv with hv | ⟨b, hv, hb2⟩
      · exact .inl (hm.2 k (hv ▸ hk2))
      · have hk3 : some b = some k := hv ▸ hk2; injection hk3 with hk3; subst hk3; exact .inr ⟨hb2, Kd.R_lt hn.2 _ hv⟩
/-- The directory is made safe. -/
theorem DskM.turnSafe {w w' : World} {F : Nat → Prop} {d : Nat} {S : DS} {u : Int} {md ms ms' : Nat} {vf vc : Value} {fm : List FM} (h : DskM w F d S u md ms vf vc fm) (hk : KeptL (fun k => k = d) w w')
    (hb : w'.heap[d]? = some (.cells #[.int .i64 S.room, .int .i64 u, vf, .map (some md), .map (some ms'), .slice none 0 0, .int .i64 S.ops, .int .i64 S.armed, .bool S.dead] 87 (0, 0)))
    (hm : OwnE w' ms' S.dir) (hms : w.heap.size ≤ ms') : DskM w' (grow F w w') d { S with safe := S.dir, chg := [] } u md ms' vf (.slice none 0 0) fm := by
  obtain ⟨n1, n2, n3, n4, n5⟩ := h.ne_d; obtain ⟨f1, f2, f3, f4, f5, f6⟩ := h.foot; have hs : ∀ k, F k → k ≠ d → w'.heap[k]? = w.heap[k]? := fun k hF hne => hk.block k (h.lt k hF) hne; refine { blk := hb, own := R_keepD rfl h.own (fun k hv => hs k (f4 k hv) (n3 k hv)), len := h.len, at_ := fun i hi => ?_, sep := h.sep, dir := h.dir.same (hs md f2 n1), safe := hm, apart := fun e => by have := h.dir.lt; omega, chg := Kd.R_nil _ _ _ _ _, foot := ⟨.inl f1, .inl f2, .inr ⟨hms, hm.lt⟩, fun k hv => .inl (f4 k hv), fun k hv => by simp [Value.ownBlock] at hv, fun a ha => ⟨.inl (f6 a ha).1, fun k hv => .inl ((f6 a ha).2 k hv)⟩⟩, lt := lt_grow h.lt hk.size }; have hm2 := f6 _ (getD_mem (z := fm0) (by rw [h.len]; exact hi : i < fm.length)); exact (h.at_ i hi).same (hs _ hm2.1 (n5 i hi).1) (fun k hv => hs k (hm2.2 k hv) ((n5 i hi).2 k hv))
theorem maps_Clone.calls {w : World} {m : Nat} {l : List Ent} (h : OwnE w m l) : Calls Try.prog 48 #[.map (some m)] w fun e w' => e = .returned (.map (some w.heap.size)) ∧ OwnE w' w.heap.size l ∧ Below w.heap.size w w' := by
  obtain ⟨n, D, hO, hM⟩ := h; have hcon := Go.Proofs.AnyW.maps_Clone_owns cloneD 9 intElem m n D w hO; refine Calls.mono hcon ?_; rintro e w' ⟨rfl, h1, _, hb⟩; exact ⟨rfl, ⟨n, D, h1, hM⟩, hb⟩
set_option maxHeartbeats 2000000 in
set_option maxRecDepth 100000 in
theorem disk_Sync.calls {w : World} {F : Nat → Prop} {d : Nat} {S : DS} (h : DskAt w F d S) (n : ByteArray) (hn : n.size ≤ 9223372036854775807) :
    Calls Try.prog 32 #[.pointer (some ⟨d, 0, none⟩), .string n] w fun e w' => e = .returned (.int .i64 (opSync S n).2) ∧ DskAt w' (grow F w w') d (opSync S n).1 ∧ KeptL F w w' := by
  have HA := Aside0.mk h; obtain ⟨hI, md, ms, vf, vc, fm, h1⟩ := h; have c8 := (blk_cell h1.blk 8).trans rfl; have HN := Aside0.mk hn; have HI := Aside0.mk hI; have H := Aside0.mk h1
  cases hd : S.dead with
  | true =>
    rw [hd] at c8; have HOP : Aside0 (opSync S n = (S, 51)) := ⟨by unfold opSync; rw [hd]; rfl⟩; clear h1 hd hI; go_enter Try.func32, Try.ntmps32
    go_wp2_with fail
    go_ret; rw [HOP.out]; exact ⟨rfl, HA.out.unmoved (Below.refl _ _)⟩
  | false =>
    rw [hd] at c8; have HDD := Aside0.mk hd; clear h1 hd hI; go_enter Try.func32, Try.ntmps32
    go_wp2_with fail
    refine (disk_find.calls H.out (fun e he => ⟨(HI.out.okD e he).1, (HI.out.okD e he).2.1⟩) n HN.out).mono ?_; rintro x w2 ⟨rfl, ⟨hh, rfl⟩ | ⟨en, hh, rfl⟩⟩
    · go_wp2_with fail
      have HOP : Aside0 (opSync S n = (S, 7)) := ⟨by unfold opSync; rw [HDD.out, hh]; rfl⟩; clear hh; go_wp2_with fail
      go_ret; rw [HOP.out]; exact ⟨rfl, HA.out.unmoved (Below.refl _ _)⟩
    · have HH := Aside0.mk hh; obtain ⟨b5, hbb⟩ : ∃ b5, b5 = (fm.getD en.2.toNat fm0).1 := ⟨_, rfl⟩; rw [← hbb]; have HBB := Aside0.mk hbb; clear hbb; have c6 := (blk_cell H.out.blk 6).trans rfl; by_cases ho : S.ops ≥ 1048576
      · have b1 : decide (S.ops ≥ 1048576) = true := decide_eq_true ho; have HOP : Aside0 (opSync S n = (S, 5)) := ⟨by unfold opSync; rw [HDD.out, HH.out]; exact if_pos ho⟩; clear hh ho; go_wp2_with fail
        go_ret; rw [HOP.out]; exact ⟨rfl, HA.out.unmoved (Below.refl _ _)⟩
      · have b1 : decide (S.ops ≥ 1048576) = false := decide_eq_false ho; have HOB : Aside0 (0 ≤ S.ops ∧ S.ops < 1048576) := ⟨by have := HI.out.opsB; omega⟩; have HOP : Aside0 (opSync S n = ifGoes S fun T => setFil T en.2 ((fileOf S en.2).1, ((fileOf S en.2).1.length : Int))) := ⟨by unfold opSync; rw [HDD.out, HH.out]; exact if_neg ho⟩; clear hh ho; go_wp2_with fail
        clear b1 c6; refine (disk_goes.calls H.out HI.out.armB HOB.out).mono ?_; rintro x w4 ⟨rfl, h4, hk4⟩; have H4 := Aside0.mk h4; have HK4 : Aside0 (KeptL F w2 w4) := ⟨(KeptL.refl F w2).trans (hk4.mono (fun k e => by rw [e]; exact H.out.foot.1))⟩; have HG := Aside0.mk (HI.out.goes HOB.out.2); obtain ⟨T, hT⟩ : ∃ T, T = (goes S).1 := ⟨_, rfl⟩; obtain ⟨g, hg⟩ : ∃ g, g = (goes S).2 := ⟨_, rfl⟩; rw [← hT] at H4 HG; rw [← hg] at HG; have hOP := HOP.out; rw [goes_eq, ← hT, ← hg] at hOP; replace HOP := Aside0.mk hOP; rw [← hg]; have HU : Aside0 (used T = used S) := ⟨by unfold used; rw [HG.out.2.1, HG.out.2.2.1]⟩; clear h4 hk4 hT hg hOP; by_cases hg0 : g = 0
        · subst hg0; have hOP := HOP.out; rw [if_pos rfl] at hOP; replace HOP := Aside0.mk hOP; clear hOP; obtain ⟨j, hj⟩ : ∃ j : Nat, j = en.2.toNat := ⟨_, rfl⟩; have hen := HI.out.okD en (has_some HH.out).1; have hjS : j < S.files.length := by omega
          have hjT : j < T.files.length := by rw [HG.out.2.1]; exact hjS
          have hfo : fileOf S en.2 = T.files.getD j ([], 0) := by unfold fileOf; rw [HG.out.2.1, hj]
          rw [hfo] at HOP; obtain ⟨A5, c5, hv5, hb5, hc5, hC5⟩ := H4.out.fileCell j hjT; obtain ⟨fj, hfj⟩ : ∃ fj, fj = T.files.getD j ([], 0) := ⟨_, rfl⟩; rw [← hfj] at hv5 hb5 hC5 hc5 HOP; have HB5 := Aside0.mk hb5; have hbb : b5 = (fm.getD j fm0).1 := by rw [hj]; exact HBB.out
          rw [← hbb] at HB5; have k0 := (blk_cell HB5.out 0).trans rfl; have k1 := (blk_cell HB5.out 1).trans rfl; have kz1 := blk_frozen HB5.out 1; have HIC := Aside0.mk (HI.out.sync_ n); have hkx : KeptL (fun k => k = (fm.getD j fm0).1 ∨ (fm.getD j fm0).2.ownBlock = some k) w4 (w4.setCell ⟨b5, 1, none⟩ (.int .i64 (fj.1.length : Int))) := (KeptL.refl _ w4).setCell _ _ (.inl (.inl hbb)); have hA := (H4.out.at_ j hjT).2; rw [← hfj] at hA; have hty : ∀ k, (fm.getD j fm0).2.ownBlock = some k → k ≠ b5 := fun k hk e => Kd.R_ne hA HB5.out (by decide) (by rw [hk, e])
          have hn9 : FileAt (w4.setCell ⟨b5, 1, none⟩ (.int .i64 (fj.1.length : Int))) ((fm.getD j fm0).1, (fm.getD j fm0).2) (fj.1, (fj.1.length : Int)) := ⟨by
            show (w4.setCell ⟨b5, 1, none⟩ _).heap[(fm.getD j fm0).1]? = _; rw [← hbb]; show _ = some (Obj.cells #[(fm.getD j fm0).2, .int .i64 (fj.1.length : Int)] 97 (0, 0)); rw [hv5]; exact blk_put HB5.out 1 _ rfl, R_keepD rfl hA (fun k hk => Below.heap_setCell _ ⟨b5, 1, none⟩ _ k (hty k hk))⟩
          have h9 := H4.out.turnFile hjT hkx hn9 (.inl rfl)
          have hKW : KeptL F w2 (w4.setCell ⟨b5, 1, none⟩ (.int .i64 (fj.1.length : Int))) := HK4.out.trans (hkx.mono (fun k e => by
            have hm := H.out.foot.2.2.2.2.2 _ (getD_mem (z := fm0) (by rw [H4.out.len]; exact hjT : j < fm.length)); rcases e with e | e
            · rw [e]; exact hm.1
            · exact hm.2 k e))
          have hus : used { T with files := T.files.set j (fj.1, (fj.1.length : Int)) } = used S := by
            have h1 := usedOf_set (fs := T.files) (i := (j : Int)) (f := (fj.1, (fj.1.length : Int))) (by omega) (l := T.dir) (fun e he => (HG.out.1.okD e he).1) HG.out.1.fileN; rw [Int.toNat_natCast] at h1; have h2 : flen T.files (j : Int) = (fj.1.length : Int) := by unfold flen; rw [Int.toNat_natCast, ← hfj]
            show usedOf _ T.dir = _; rw [h1, h2, ← HU.out]; show usedOf T.files T.dir + _ = usedOf T.files T.dir
            simp
          have hfin := h9.monoF (F' := grow F w2 (w4.setCell ⟨b5, 1, none⟩ (.int .i64 (fj.1.length : Int)))) (fun k hk => by
            rcases hk with hk | hk
            · exact .inl hk
            · have h1 := HK4.out.size; exact .inr ⟨by omega, hk.2⟩) (lt_grow H.out.lt hKW.size)
          rw [← hus] at hfin; have hex : ∃ md ms vf vc fm, DskM (w4.setCell ⟨b5, 1, none⟩ (.int .i64 (fj.1.length : Int))) (grow F w2 (w4.setCell ⟨b5, 1, none⟩ (.int .i64 (fj.1.length : Int)))) d (setFil T en.2 (fj.1, (fj.1.length : Int))) (used (setFil T en.2 (fj.1, (fj.1.length : Int)))) md ms vf vc fm := ⟨md, ms, vf, vc, _, by unfold setFil; rw [← hj]; exact hfin⟩; have HFIN : Aside0 (DskAt (w4.setCell ⟨b5, 1, none⟩ (.int .i64 (fj.1.length : Int))) (grow F w2 (w4.setCell ⟨b5, 1, none⟩ (.int .i64 (fj.1.length : Int)))) d (opSync S n).1 ∧ KeptL F w2 (w4.setCell ⟨b5, 1, none⟩ (.int .i64 (fj.1.length : Int)))) := ⟨⟨HIC.out, by rw [HOP.out]; exact hex⟩, hKW⟩; clear hfin hex; clear hj hen hjS hjT hfo hv5 hb5 hc5 hC5 hfj hbb hkx hA hty hn9 h9 hKW hus; go_wp2_with fail
          go_ret; exact ⟨by rw [HOP.out]; rfl, HFIN.out⟩
        · have bg : (g != 0) = true := bne_iff_ne.mpr hg0; have hOP := HOP.out; rw [if_neg hg0] at hOP; replace HOP := Aside0.mk hOP; clear hOP hg0; go_wp2_with fail
          go_ret; rw [HOP.out]; refine ⟨rfl, ⟨HG.out.1, md, ms, vf, vc, fm, ?_⟩, HK4.out⟩; rw [HU.out]; exact H4.out.monoF (fun k hk => .inl hk) (lt_grow H.out.lt HK4.out.size)
set_option maxHeartbeats 2000000 in
set_option maxRecDepth 100000 in
theorem disk_SyncDir.calls {w : World} {F : Nat → Prop} {d : Nat} {S : DS} (h : DskAt w F d S) :
    Calls Try.prog 29 #[.pointer (some ⟨d, 0, none⟩)] w fun e w' => e = .returned (.int .i64 (opSyncDir S).2) ∧ DskAt w' (grow F w w') d (opSyncDir S).1 ∧ KeptL F w w' := by
  have HA := Aside0.mk h; obtain ⟨hI, md, ms, vf, vc, fm, h1⟩ := h; have c8 := (blk_cell h1.blk 8).trans rfl; have HI := Aside0.mk hI; have H := Aside0.mk h1
  cases hd : S.dead with
  | true =>
    rw [hd] at c8; have HOP : Aside0 (opSyncDir S = (S, 51)) := ⟨by unfold opSyncDir; rw [hd]; rfl⟩; clear h1 hd hI; go_enter Try.func29, Try.ntmps29
    go_wp2_with fail
    go_ret; rw [HOP.out]; exact ⟨rfl, HA.out.unmoved (Below.refl _ _)⟩
  | false =>
    rw [hd] at c8; have HDD := Aside0.mk hd; clear h1 hd hI; have c6 := (blk_cell H.out.blk 6).trans rfl; by_cases ho : S.ops ≥ 1048576
    · have b1 : decide (S.ops ≥ 1048576) = true := decide_eq_true ho; have HOP : Aside0 (opSyncDir S = (S, 5)) := ⟨by unfold opSyncDir; rw [HDD.out]; exact if_pos ho⟩; clear ho; go_enter Try.func29, Try.ntmps29
      go_wp2_with fail
      go_ret; rw [HOP.out]; exact ⟨rfl, HA.out.unmoved (Below.refl _ _)⟩
    · have b1 : decide (S.ops ≥ 1048576) = false := decide_eq_false ho; have HOB : Aside0 (0 ≤ S.ops ∧ S.ops < 1048576) := ⟨by have := HI.out.opsB; omega⟩; have HOP : Aside0 (opSyncDir S = ifGoes S fun T => { T with safe := T.dir, chg := [] }) := ⟨by unfold opSyncDir; rw [HDD.out]; exact if_neg ho⟩; clear ho; go_enter Try.func29, Try.ntmps29
      go_wp2_with fail
      clear b1 c6; refine (disk_goes.calls H.out HI.out.armB HOB.out).mono ?_; rintro x w4 ⟨rfl, h4, hk4⟩; have H4 := Aside0.mk h4; have HK4 : Aside0 (KeptL F w w4) := ⟨(KeptL.refl F w).trans (hk4.mono (fun k e => by rw [e]; exact H.out.foot.1))⟩; have HG := Aside0.mk (HI.out.goes HOB.out.2); obtain ⟨T, hT⟩ : ∃ T, T = (goes S).1 := ⟨_, rfl⟩; obtain ⟨g, hg⟩ : ∃ g, g = (goes S).2 := ⟨_, rfl⟩; rw [← hT] at H4 HG; rw [← hg] at HG; have hOP := HOP.out; rw [goes_eq, ← hT, ← hg] at hOP; replace HOP := Aside0.mk hOP; rw [← hg]; have HU : Aside0 (used T = used S) := ⟨by unfold used; rw [HG.out.2.1, HG.out.2.2.1]⟩; clear h4 hk4 hT hg hOP; by_cases hg0 : g = 0
      · subst hg0; have hOP := HOP.out; rw [if_pos rfl] at hOP; replace HOP := Aside0.mk hOP; clear hOP; have c3 := (blk_cell H4.out.blk 3).trans rfl; have HIC := Aside0.mk HI.out.syncDir; go_wp2_with fail
        clear c3; refine (maps_Clone.calls H4.out.dir).mono ?_; rintro x w5 ⟨rfl, hm5, hb5⟩; have H5 := Aside0.mk (H4.out.below hb5); have c4 := (blk_cell H5.out.blk 4).trans rfl; have c5 := (blk_cell H5.out.blk 5).trans rfl; have z4 := blk_frozen H5.out.blk 4; have z5 := blk_frozen H5.out.blk 5; have hms := hm5.lt; have hd5 : w4.heap.size ≠ d := by have := H4.out.lt d H4.out.foot.1; omega
        have hk9 : KeptL (fun k => k = d) w4 ((w5.setCell ⟨d, 4, none⟩ (.map (some w4.heap.size))).setCell ⟨d, 5, none⟩ (.slice none 0 0)) := (((KeptL.of_below (S := fun k => k = d) hb5).setCell ⟨d, 4, none⟩ _ (.inl rfl)).setCell ⟨d, 5, none⟩ _ (.inl rfl)); have hm9 : OwnE ((w5.setCell ⟨d, 4, none⟩ (.map (some w4.heap.size))).setCell ⟨d, 5, none⟩ (.slice none 0 0)) w4.heap.size T.dir := hm5.same ((Below.heap_setCell _ ⟨d, 5, none⟩ _ _ hd5).trans (Below.heap_setCell _ ⟨d, 4, none⟩ _ _ hd5)); have h9 := H4.out.turnSafe hk9 (blkD_put (blkD_put H5.out.blk 4 _ rfl) 5 _ rfl) hm9 (Nat.le_refl _); have hKW : KeptL F w ((w5.setCell ⟨d, 4, none⟩ (.map (some w4.heap.size))).setCell ⟨d, 5, none⟩ (.slice none 0 0)) := HK4.out.trans (hk9.mono (fun k e => by rw [e]; exact H.out.foot.1))
        have hfin := h9.monoF (F' := grow F w ((w5.setCell ⟨d, 4, none⟩ (.map (some w4.heap.size))).setCell ⟨d, 5, none⟩ (.slice none 0 0))) (fun k hk => by
          rcases hk with hk | hk
          · exact .inl hk
          · have h1 := HK4.out.size; exact .inr ⟨by omega, hk.2⟩) (lt_grow H.out.lt hKW.size)
        rw [show used S = used { T with safe := T.dir, chg := [] } from HU.out.symm] at hfin; have HFIN : Aside0 (DskAt ((w5.setCell ⟨d, 4, none⟩ (.map (some w4.heap.size))).setCell ⟨d, 5, none⟩ (.slice none 0 0)) (grow F w ((w5.setCell ⟨d, 4, none⟩ (.map (some w4.heap.size))).setCell ⟨d, 5, none⟩ (.slice none 0 0))) d (opSyncDir S).1 ∧ KeptL F w ((w5.setCell ⟨d, 4, none⟩ (.map (some w4.heap.size))).setCell ⟨d, 5, none⟩ (.slice none 0 0))) := ⟨⟨HIC.out, by rw [HOP.out]; exact ⟨md, _, vf, _, fm, hfin⟩⟩, hKW⟩; clear hfin; clear hm5 hb5 hms hd5 hk9 hm9 h9 hKW; go_wp2_with fail
        go_ret; exact ⟨by rw [HOP.out]; rfl, HFIN.out⟩
      · have bg : (g != 0) = true := bne_iff_ne.mpr hg0; have hOP := HOP.out; rw [if_neg hg0] at hOP; replace HOP := Aside0.mk hOP; clear hOP hg0; go_wp2_with fail
        go_ret; rw [HOP.out]; refine ⟨rfl, ⟨HG.out.1, md, ms, vf, vc, fm, ?_⟩, HK4.out⟩; rw [HU.out]; exact H4.out.monoF (fun k hk => .inl hk) (lt_grow H.out.lt HK4.out.size)
end Go.Proofs.Ytdekcjopgnfmdaa.Hand
