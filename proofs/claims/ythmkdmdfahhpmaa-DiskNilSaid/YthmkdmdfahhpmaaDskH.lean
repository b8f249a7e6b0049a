/- Disk: the program's Create. -/
import Derived.Test.YthmkdmdfahhpmaaDskN
namespace Go.Proofs.Ythmkdmdfahhpmaa.Hand
open Go.RowKit Go.Maps Go.Proofs.YthmkdmdfahhpmaaW.PrintWords Go.Proofs.YthmkdmdfahhpmaaW.PrintLast Go.Proofs.YthmkdmdfahhpmaaW.PrintMore Go.Proofs.Ythmkdmdfahhpmaa.Q
set_option linter.unusedVariables false
set_option linter.unusedSimpArgs false
theorem DskAt.unmoved {w w' : World} {F : Nat → Prop} {d : Nat} {S : DS} (h : DskAt w F d S) (hb : Below w.heap.size w w') : DskAt w' (grow F w w') d S ∧ KeptL F w w' := by
  obtain ⟨h0, md, ms, vf, vc, fm, h1⟩ := h
  exact ⟨⟨h0, md, ms, vf, vc, fm, (h1.below hb).monoF (fun k hk => .inl hk) (lt_grow h1.lt hb.size)⟩, KeptL.of_below hb⟩
theorem OwnE.lenRun {w : World} {m : Nat} {l : List Ent} (h : OwnE w m l) (hS : Srt l) (ty : TypeId) : (Builtin.len_ #[82] ty #[.map (some m)]).run Try.prog w = .ok (.int .i64 (l.length : Int)) w := by
  obtain ⟨D, hO, hM, hT, hsz⟩ := h.tight hS
  have := hO.len Try.underlying82 ty
  rw [hsz] at this
  exact this
theorem getD_app {α : Type} {l : List α} {x z : α} {i : Nat} (h : i < l.length) : (l ++ [x]).getD i z = l.getD i z := by
  rw [List.getD_eq_getElem?_getD, List.getD_eq_getElem?_getD, List.getElem?_append_left h]
theorem getD_last {α : Type} {l : List α} {x z : α} : (l ++ [x]).getD l.length z = x := by
  rw [List.getD_eq_getElem?_getD, List.getElem?_append_right (Nat.le_refl _), Nat.sub_self]
  rfl
/-- A new file. -/
theorem DskM.addFile {w w' : World} {F : Nat → Prop} {d : Nat} {S : DS} {u : Int} {md ms : Nat} {vf vf' vc : Value} {fm : List FM} {b : Nat} (h : DskM w F d S u md ms vf vc fm) (hk : KeptL (fun k => k = d ∨ vf.ownBlock = some k) w w')
    (hb : w'.heap[d]? = some (.cells #[.int .i64 S.room, .int .i64 u, vf', .map (some md), .map (some ms), vc, .int .i64 S.ops, .int .i64 S.armed, .bool S.dead] 87 (0, 0)))
    (hn : w'.heap[b]? = some (.cells #[.slice none 0 0, .int .i64 0] 97 (0, 0))) (hbn : w.heap.size ≤ b)
    (hc : Kd.R kP 95 w' 0 (fun _ => True) vf' (fm.map (·.1) ++ [b])) (hv : vf'.ownBlock = vf.ownBlock ∨ ∃ b, vf'.ownBlock = some b ∧ w.heap.size ≤ b) :
    DskM w' (grow F w w') d { S with files := S.files ++ [([], 0)] } u md ms vf' vc (fm ++ [(b, .slice none 0 0)]) := by
  obtain ⟨n1, n2, n3, n4, n5⟩ := h.ne_d
  obtain ⟨f1, f2, f3, f4, f5, f6⟩ := h.foot
  have hs : ∀ k, F k → k ≠ d → vf.ownBlock ≠ some k → w'.heap[k]? = w.heap[k]? := fun k hF hne hne2 => hk.block k (h.lt k hF) (fun hh => hh.elim hne hne2)
  have hlen := h.len
  have old : ∀ i, i < S.files.length → FileAt w' (fm.getD i fm0) (S.files.getD i ([], 0)) := fun i hi => by
    have hm := f6 _ (getD_mem (z := fm0) (by rw [hlen]; exact hi : i < fm.length))
    refine (h.at_ i hi).same (hs _ hm.1 (n5 i hi).1 (fun hh => ?_)) (fun k hv => hs k (hm.2 k hv) ((n5 i hi).2 k hv) (own_ne (h.at_ i hi).2 h.own (by decide) hv))
    exact Kd.R_ne h.own (h.at_ i hi).1 (by decide) hh.symm
  refine { blk := hb, own := by rw [List.map_append]; exact hc, len := by rw [List.length_append, List.length_append, hlen]; rfl, at_ := fun i hi => ?_, sep := fun i j hi hj hij => ?_, dir := h.dir.same (hs md f2 n1 (h.dir.ne_own h.own)), safe := h.safe.same (hs ms f3 n2 (h.safe.ne_own h.own)), apart := h.apart, chg := R_keepD rfl h.chg (fun k hv => hs k (f5 k hv) (n4 k hv) (own_ne h.chg h.own (by decide) hv)), foot := ?_, lt := lt_grow h.lt hk.size }
  · rw [List.length_append, List.length_singleton] at hi
    rcases Nat.lt_succ_iff_lt_or_eq.1 hi with hi | rfl
    · rw [getD_app hi, getD_app (by rw [hlen]; exact hi)]
      exact old i hi
    · rw [getD_last]
      have e : (fm ++ [(b, Value.slice none 0 0)]).getD S.files.length fm0 = (b, .slice none 0 0) := by rw [← hlen]; exact getD_last
      rw [e]
      exact ⟨hn, Kd.R_nil _ _ _ _ _⟩
  · rw [List.length_append, List.length_singleton] at hi hj
    have fresh : ∀ i, i < fm.length → (fm.getD i fm0).1 ≠ b := fun i hi => by
      have := h.lt _ (f6 _ (getD_mem (z := fm0) hi)).1
      omega
    rcases Nat.lt_succ_iff_lt_or_eq.1 hi with hi | rfl <;> rcases Nat.lt_succ_iff_lt_or_eq.1 hj with hj | rfl
    · rw [getD_app hi, getD_app hj]
      exact h.sep i j hi hj hij
    · rw [getD_app hi, getD_last]
      exact ⟨fresh i hi, fun k _ e => by simp [Value.ownBlock] at e⟩
    · rw [getD_app hj, getD_last]
      exact ⟨(fresh j hj).symm, fun k e _ => by simp [Value.ownBlock] at e⟩
    · exact absurd rfl hij
  · refine ⟨.inl f1, .inl f2, .inl f3, fun k hk2 => ?_, fun k hv => .inl (f5 k hv), fun a ha => ?_⟩
    · rcases hv with hv | ⟨b, hv, hb2⟩
      · exact .inl (f4 k (by rw [← hv]; exact hk2))
      · rw [hv] at hk2
        injection hk2 with hk2
        subst hk2
        exact .inr ⟨hb2, Kd.R_lt hc _ hv⟩
    · rcases List.mem_append.1 ha with ha | ha
      · exact ⟨.inl (f6 a ha).1, fun k hv => .inl ((f6 a ha).2 k hv)⟩
      · rw [List.mem_singleton] at ha
        subst ha
        exact ⟨.inr ⟨hbn, blk_lt hn⟩, fun k e => by simp [Value.ownBlock] at e⟩
theorem infoP : (Try.prog.info? 95).map (fun i => (i.zero, i.size, i.bytes)) = some (some (.pointer none), 1, 8) := by kernel_rfl
theorem grow_trans {F : Nat → Prop} {w w1 w2 : World} (h1 : w.heap.size ≤ w1.heap.size) (h2 : w1.heap.size ≤ w2.heap.size) : ∀ k, grow (grow F w w1) w1 w2 k → grow F w w2 k := fun k hk => by
  rcases hk with (hk | hk) | hk
  · exact .inl hk
  · exact .inr ⟨hk.1, by omega⟩
  · exact .inr ⟨by omega, hk.2⟩
theorem KeptL.growF {F : Nat → Prop} {w w1 w2 : World} (h : KeptL F w w1) (k : KeptL (grow F w w1) w1 w2) : KeptL F w w2 :=
  ⟨k.os.trans h.os, k.tape.trans h.tape, k.output.trans h.output, Nat.le_trans h.size k.size, fun b hb hn => (k.block b (Nat.lt_of_lt_of_le hb h.size) (fun hh => by
    rcases hh with hh | hh
    · exact hn hh
    · omega)).trans (h.block b hb hn)⟩
theorem goes_eq {S : DS} {k : DS → DS} : ifGoes S k = if (goes S).2 = 0 then (k (goes S).1, 0) else ((goes S).1, (goes S).2) := rfl
set_option maxHeartbeats 2000000 in
set_option maxRecDepth 100000 in
theorem disk_Create.calls {w : World} {F : Nat → Prop} {d : Nat} {S : DS} (h : DskAt w F d S) (n : ByteArray) (hn : n.size ≤ 9223372036854775807) :
    Calls Try.prog 37 #[.pointer (some ⟨d, 0, none⟩), .string n] w fun e w' => e = .returned (.int .i64 (opCreate S n).2) ∧ DskAt w' (grow F w w') d (opCreate S n).1 ∧ KeptL F w w' := by
  have HA := Aside0.mk h
  obtain ⟨hI, md, ms, vf, vc, fm, h1⟩ := h
  have c8 := (blk_cell h1.blk 8).trans rfl
  have HN := Aside0.mk hn
  have HI := Aside0.mk hI
  have H := Aside0.mk h1
  cases hd : S.dead with
  | true =>
    rw [hd] at c8
    have HOP : Aside0 (opCreate S n = (S, 51)) := ⟨by unfold opCreate; rw [hd]; rfl⟩
    clear h1 hd hI hn
    go_enter Try.func37, Try.ntmps37
    go_wp2_with fail
    go_ret
    rw [HOP.out]
    exact ⟨rfl, HA.out.unmoved (Below.refl _ _)⟩
  | false =>
    rw [hd] at c8
    have HDD := Aside0.mk hd
    obtain ⟨kk, hkk⟩ := (named_ev n hn).rounds
    have HKK := Aside0.mk hkk
    obtain ⟨r, hr⟩ : ∃ r, r = nameOk n := ⟨_, rfl⟩
    have HR := Aside0.mk hr
    rw [← hr] at HKK
    clear h1 hd hI hn hkk hr
    go_enter Try.func37, Try.ntmps37
    go_wp2_with fail
    refine (disk_named.calls kk n r w HKK.out).mono ?_
    rintro x w1 ⟨rfl, hd1⟩
    have hb1 := hd1.below
    have H1 := Aside0.mk (H.out.below hb1)
    have HB1 := Aside0.mk hb1
    clear hd1 hb1 c8
    cases r with
    | false =>
      have HOP : Aside0 (opCreate S n = (S, 50)) := ⟨by unfold opCreate; rw [HDD.out, ← HR.out]; rfl⟩
      go_wp2_with fail
      go_ret
      rw [HOP.out]
      exact ⟨rfl, HA.out.unmoved HB1.out⟩
    | true =>
      go_wp2_with fail
      refine (disk_find.calls H1.out (fun e he => ⟨(HI.out.okD e he).1, (HI.out.okD e he).2.1⟩) n HN.out).mono ?_
      rintro x w3 ⟨rfl, ⟨hh, rfl⟩ | ⟨en, hh, rfl⟩⟩
      · have HHS := Aside0.mk hh
        have hlenr := fun ty => H1.out.dir.lenRun HI.out.srtD ty
        have c3 := (blk_cell H1.out.blk 3).trans rfl
        have c6 := (blk_cell H1.out.blk 6).trans rfl
        by_cases hf : S.dir.length ≥ 64 ∨ S.ops ≥ 1048576
        · have HOP : Aside0 (opCreate S n = (S, 5)) := ⟨by unfold opCreate; rw [HDD.out, ← HR.out, HHS.out, if_neg (by decide), if_neg (by decide), if_neg (by decide), if_pos hf]⟩
          by_cases h64 : S.dir.length ≥ 64
          · have b1 : decide ((S.dir.length : Int) ≥ 64) = true := decide_eq_true (by omega)
            clear hh hf h64
            go_wp2_with fail
            go_ret
            rw [HOP.out]
            exact ⟨rfl, HA.out.unmoved HB1.out⟩
          · have b1 : decide ((S.dir.length : Int) ≥ 64) = false := decide_eq_false (by omega)
            have b2 : decide (S.ops ≥ 1048576) = true := decide_eq_true (by omega)
            clear hh hf h64
            go_wp2_with fail
            go_ret
            rw [HOP.out]
            exact ⟨rfl, HA.out.unmoved HB1.out⟩
        · have b1 : decide ((S.dir.length : Int) ≥ 64) = false := decide_eq_false (by omega)
          have b2 : decide (S.ops ≥ 1048576) = false := decide_eq_false (by omega)
          have HOB : Aside0 (0 ≤ S.ops ∧ S.ops < 1048576 ∧ S.dir.length < 64) := ⟨by have := HI.out.opsB; omega⟩
          have HOP : Aside0 (opCreate S n = ifGoes S fun T => note { T with files := T.files ++ [([], 0)] } (ByteArray.empty, n, (S.files.length : Int))) := ⟨by unfold opCreate; rw [HDD.out, ← HR.out, HHS.out, if_neg (by decide), if_neg (by decide), if_neg (by decide), if_neg hf]⟩
          clear hh hf
          go_wp2_with fail
          clear b1 b2 c3 c6 hlenr
          refine (disk_goes.calls H1.out HI.out.armB ⟨HOB.out.1, HOB.out.2.1⟩).mono ?_
          rintro x w4 ⟨rfl, h4, hk4⟩
          have H4 := Aside0.mk h4
          have HK4 := Aside0.mk ((KeptL.of_below HB1.out).trans (hk4.mono (fun k e => by rw [e]; exact H.out.foot.1)) : KeptL F w w4)
          have HG := Aside0.mk (HI.out.goes HOB.out.2.1)
          obtain ⟨T, hT⟩ : ∃ T, T = (goes S).1 := ⟨_, rfl⟩
          obtain ⟨g, hg⟩ : ∃ g, g = (goes S).2 := ⟨_, rfl⟩
          rw [← hT] at H4 HG
          rw [← hg] at HG
          have hOP := HOP.out
          rw [goes_eq, ← hT, ← hg] at hOP
          replace HOP := Aside0.mk hOP
          rw [← hg]
          clear h4 hk4 hT hg hOP
          by_cases hg0 : g = 0
          · subst hg0
            have hOP := HOP.out
            rw [if_pos rfl] at hOP
            replace HOP := Aside0.mk hOP
            have c2 := (blk_cell H4.out.blk 2).trans rfl
            have z2 := blk_frozen H4.out.blk 2
            have HLN : Aside0 (((fm.map (·.1)).length + 1) * 8 ≤ 140737488355328) := ⟨by rw [List.length_map, H4.out.len, HG.out.2.1]; have h2 := HI.out.lenF; have h3 := HI.out.opsB; omega⟩
            have H5 : Aside0 (DskM (w4.alloc (.cells #[.slice none 0 0, .int .i64 0] 97)) F d T (used S) md ms vf vc fm) := ⟨H4.out.below (below_alloc (Below.refl _ _) _)⟩
            have HF5 : Aside0 ((w4.alloc (.cells #[.slice none 0 0, .int .i64 0] 97)).heap[w4.heap.size]? = some (.cells #[.slice none 0 0, .int .i64 0] 97 (0, 0))) := ⟨blk_new _ _⟩
            have HLE : Aside0 ((fm.map (·.1)).length = S.files.length) := ⟨by rw [List.length_map, H4.out.len, HG.out.2.1]⟩
            have HBN : Aside0 ((w4.alloc (.cells #[.slice none 0 0, .int .i64 0] 97)).heap.size = w4.heap.size + 1) := ⟨by simp⟩
            have hN9 : (S.files.length : Int) ≤ 1048640 := by have h2 := HI.out.lenF; have h3 := HI.out.opsB; omega
            have hN8 : wrap64 (((S.files.length : Int) + 1) - 1) = (S.files.length : Int) := by rw [w64L (by omega) (by omega)]; omega
            have hN7 : ((S.files.length : Int) + 1) - 1 = (S.files.length : Int) := by omega
            clear hOP
            go_wp2_with ((with_reducible refine gate_builtin (b := .append) (xs := #[.tmp 46, .tmp 49]) rfl ?_); at_builtin; refine Kd.R_append kP (w0 := (w4.alloc (.cells #[.slice none 0 0, .int .i64 0] 97))) 0 rfl (.tmp 46) (.tmp 49) 84 95 (.pointer none) 8 rfl Try.underlying84 infoP rfl (by decide) (by decide) vf (fm.map (·.1)) w4.heap.size [.pointer (some ⟨w4.heap.size, 0, none⟩)] (fun _ => True) (fun _ => False) rfl (congrArg (fun z => Value.slice (some ⟨z, 0, none⟩) 1 1) HBN.out.symm) rfl (fun _ h => h.elim) (fun _ _ => trivial) H5.out.own (Below.refl _ _) (Nat.zero_le _) HLN.out ?_; intro v7 w7 ho hb hg hat; obtain ⟨A7, c7, hv7⟩ := Kd.R_slice ho; rw [List.length_append, List.length_singleton, HLE.out] at hv7; subst hv7; have HR7 := Aside0.mk ho; have HAT := Aside0.mk hat; have HG7 := Aside0.mk hg; have BD7 := Aside0.mk (blk_grown H5.out.blk hg (fun e => Kd.R_ne H5.out.own H5.out.blk (by decide) e)); have BF7 := Aside0.mk (blk_grown HF5.out hg (fun e => Kd.R_ne H5.out.own HF5.out (by decide) e)); have x2 := (blk_cell BD7.out 2).trans rfl; have xz2 := blk_frozen BD7.out 2; clear ho hb hg hat)
            have hk8 := (KeptL.grown (S := fun k => k = d ∨ vf.ownBlock = some k) ((KeptL.refl _ w4).alloc (.cells #[.slice none 0 0, .int .i64 0] 97)) HG7.out (fun k e => .inl (.inr e))).setCell ⟨d, 2, none⟩ (.slice A7 (S.files.length + 1) c7) (.inl (.inl rfl))
            have hNED : ∀ k, (∃ q, q ∈ 95 :: kP.E ∧ ∃ cells, w7.heap[k]? = some (.cells cells q (0, 0))) → k ≠ d := fun k hk e => by
              obtain ⟨q, hq, cells, hcc⟩ := hk
              rw [e] at hcc
              refine blk_ne hcc BD7.out (fun e2 => ?_) rfl
              rw [e2] at hq
              revert hq
              decide
            have hbf : d ≠ w4.heap.size := by have := H4.out.lt d H4.out.foot.1; omega
            have hat4 : (Value.slice A7 (S.files.length + 1) c7).ownBlock = vf.ownBlock ∨ ∃ b, (Value.slice A7 (S.files.length + 1) c7).ownBlock = some b ∧ w4.heap.size ≤ b := by
              rcases HAT.out with h | ⟨b, h1, h2⟩
              · exact .inl h
              · exact .inr ⟨b, h1, by have := HBN.out; omega⟩
            obtain ⟨w8, hw8⟩ : ∃ w8, w8 = w7.setCell ⟨d, 2, none⟩ (.slice A7 (S.files.length + 1) c7) := ⟨_, rfl⟩
            have h8 := H4.out.addFile hk8 (blkD_put BD7.out 2 _ rfl) (blk_far BF7.out (p := ⟨d, 2, none⟩) hbf.symm _) (Nat.le_refl _) (Kd.R_far (Kd.R_mono (Kd.R_bound HR7.out) (ok' := fun k => k ≠ d) (fun k hk e => hNED k hk.2.2.2 e)) (p := ⟨d, 2, none⟩) (fun k hk => hk) _ |> fun z => Kd.R_mono z (fun _ _ => trivial)) hat4
            rw [← hw8] at h8 hk8 ⊢
            have H8 := Aside0.mk h8
            have HK8 := Aside0.mk hk8
            clear hk8 hNED hbf hat4 hw8 h8 x2 xz2 c2 z2 HR7 HAT HG7 BD7 BF7 H5 HF5 hN9 hN8 hN7
            have hI8 : Inv { T with files := T.files ++ [([], 0)] } := HG.out.1.newFile (by have h1 := HG.out.2.1; have h2 := HG.out.2.2.2.2.2.2 (by first | rfl | trivial); have h3 := HI.out.lenF; rw [h1, h2]; omega)
            have hns := nameOk_size HR.out.symm
            have hub := HI.out.usedB
            have hj8 : S.files.length < (T.files ++ [(([] : List Int), (0 : Int))]).length := by rw [HG.out.2.1, List.length_append]; simp
            refine (disk_note.calls H8.out hI8 ⟨#[]⟩ n S.files.length hj8 (by show 0 ≤ 32; omega) hns.2 (.inr (by omega)) (by omega)).mono ?_
            rintro x w9 ⟨⟨v9, rfl⟩, hk9, vc9, h9⟩
            have hab : (⟨#[]⟩ : ByteArray) ≠ n := fun e => by
              have h1 := hns.1
              rw [← e] at h1
              exact absurd h1 (by decide)
            have hus := used_note hI8 hab (S.files.length : Int)
            have hu8 : used { T with files := T.files ++ [([], 0)] } = used S := by
              show usedOf (T.files ++ [([], 0)]) T.dir = usedOf S.files S.dir
              rw [HG.out.2.1, HG.out.2.2.1]
              exact usedOf_app _ (fun e he => ⟨(HI.out.okD e he).1, (HI.out.okD e he).2.1⟩)
            rw [hu8] at hus
            rw [← hus] at h9
            have hIC := HI.out.create n
            have hKF : KeptL F w w8 := HK4.out.trans (HK8.out.mono (fun k e => by
              rcases e with e | e
              · rw [e]; exact H.out.foot.1
              · exact H.out.foot.2.2.2.1 k e))
            have hK9 : KeptL F w w9 := ⟨hk9.os.trans hKF.os, hk9.tape.trans hKF.tape, hk9.output.trans hKF.output, Nat.le_trans hKF.size hk9.size, fun b hb hn => (hk9.block b (Nat.lt_of_lt_of_le hb hKF.size) (fun hh => by
              rcases hh with hh | hh
              · exact hn hh
              · have := HK4.out.size; omega)).trans (hKF.block b hb hn)⟩
            have hfin : DskAt w9 (grow F w w9) d (opCreate S n).1 := ⟨hIC, by
              rw [HOP.out]
              exact ⟨md, ms, _, vc9, _, h9.monoF (fun k hk => by
                rcases hk with (hk | hk) | hk
                · exact .inl hk
                · have h1 := HK4.out.size; have h2 := hk9.size; exact .inr ⟨by omega, by omega⟩
                · have h1 := hKF.size; exact .inr ⟨by omega, hk.2⟩) (lt_grow H.out.lt hK9.size)⟩⟩
            have HFIN := Aside0.mk (And.intro hfin hK9)
            clear hfin hK9 hKF hIC h9 hk9 hus hu8 hab hns hub hj8 hI8
            go_wp2_with fail
            go_ret
            exact ⟨by rw [HOP.out]; rfl, HFIN.out⟩
          · have bg : (g != 0) = true := bne_iff_ne.mpr hg0
            have hOP := HOP.out
            rw [if_neg hg0] at hOP
            replace HOP := Aside0.mk hOP
            have HU : Aside0 (used T = used S) := ⟨by unfold used; rw [HG.out.2.1, HG.out.2.2.1]⟩
            clear hOP hg0
            go_wp2_with fail
            go_ret
            rw [HOP.out]
            refine ⟨rfl, ⟨HG.out.1, md, ms, vf, vc, fm, ?_⟩, HK4.out⟩
            rw [HU.out]
            exact H4.out.monoF (fun k hk => .inl hk) (lt_grow H.out.lt HK4.out.size)
      · have HOP : Aside0 (opCreate S n = (S, 8)) := ⟨by unfold opCreate; rw [HDD.out, ← HR.out, hh]; rfl⟩
        clear hh
        go_wp2_with fail
        go_ret
        rw [HOP.out]
        exact ⟨rfl, HA.out.unmoved HB1.out⟩
end Go.Proofs.Ythmkdmdfahhpmaa.Hand
