/- Disk: the program's Read, List; what slices.Clone, slices.Sorted(maps.Keys(..)) give. -/
import Derived.Test.YtdekcjopgnfmdaaDskK
import Derived.Test.YtdekcjopgnfmdaaDskLb
namespace Go.Proofs.Ytdekcjopgnfmdaa.Hand
open Go.RowKit Go.Maps Go.Proofs.YtdekcjopgnfmdaaW.PrintWords Go.Proofs.YtdekcjopgnfmdaaW.PrintLast Go.Proofs.YtdekcjopgnfmdaaW.PrintMore Go.Proofs.Ytdekcjopgnfmdaa.Q
set_option linter.unusedVariables false
set_option linter.unusedSimpArgs false
theorem clone_bytes {w : World} {v : Value} {bs : List Int} {base : Nat} (h : Kd.R kB 5 w base (fun _ => True) v bs) (hl : bs.length ≤ 1073741824) :
    Calls Try.prog 52 #[v] w fun e w' => ∃ v', e = .returned v' ∧ Kd.R kB 5 w' w.heap.size (fun _ => True) v' bs ∧ Below w.heap.size w w' := by
  have ho := Kd.own_of_R (enc := Value.int .u8) (h1 := fun _ => rfl) h; rcases ho.2 with ⟨rfl, e⟩ | ⟨g, cap, cur, rfl, hbase, hb, h1, h2, h3, h4⟩
  · have hS : bs = [] := List.length_eq_zero_iff.1 (by
      obtain ⟨A, c, hv⟩ := Kd.R_slice h; have h2 : (0 : Nat) = bs.length := by simpa using congrArg (fun z => match z with | .slice _ n _ => n | _ => 0) hv
      exact h2.symm)
    subst hS; refine Calls.mono (Go.Proofs.AnyE.slices_Clone_nil cloneB 0 0 w) ?_; rintro e w' ⟨rfl, rfl⟩; exact ⟨_, rfl, Kd.R_nil _ _ _ _ _, Below.refl _ _⟩
  · obtain ⟨i0, hi, hzz⟩ := Option.map_eq_some_iff.1 infoB; simp only [Prod.mk.injEq] at hzz; obtain ⟨hz0, hz1, hz2⟩ := hzz
    have hcells : ∀ j u, (encs (Value.int .u8) bs)[j]? = some u → w.cell? ⟨g, 0 + j, none⟩ = some u := fun j u hu => by
      have := ho.cells (g := g) (by simp [Value.ownBlock]) j u hu; rw [add_plain] at this; rw [Nat.zero_add]; exact this
    have hcon := Go.Proofs.AnyE.slices_Clone cloneB i0 (.int .u8 0) 1 1 hi hz0 hz1 hz2 rfl (by decide) (fun w => Try.sizeOf5 w) g 0 bs.length cap (encs (Value.int .u8) bs) w (by simp [encs]) (by unfold Go.maxLen; omega) (by omega) hcells (fun u hu => by
      obtain ⟨x, _, rfl⟩ := List.mem_map.1 hu; rfl)
    refine Calls.mono hcon ?_; rintro e w' ⟨v', rfl, hown, _, hb'⟩; exact ⟨v', rfl, Kd.R_of_own (enc := Value.int .u8) (h1 := fun _ => rfl) hown (fun _ _ => trivial), hb'⟩
theorem str_mk (b : ByteArray) : Go.Proofs.encStr (nm b) = .string b := by
  show Value.string ⟨(nm b).toArray⟩ = _; unfold nm; rw [ByteArray.toList_eq]
theorem ks_nm (b : ByteArray) : ks b = .string (nm b) := by
  unfold ks nm; rw [ByteArray.toList_eq]
theorem nm_of (l : List UInt8) : nm ⟨l.toArray⟩ = l := by
  unfold nm; rw [ByteArray.toList_eq]
/-- The map's keys are the names of the entries. -/
theorem keys_of {w : World} {m n : Nat} {D : DW} {l : List Ent} (hO : Owns w m n D) (hM : MapE D l) (hS : Srt l) : (l.map fun e => nm e.1).Perm (Go.strKeys D) := by
  have hC := hO.canon lawS; have hT := hO.tidy lawS; obtain ⟨es, rfl, _, hk⟩ := hC; obtain ⟨es', e, hs⟩ := hT; injection e with e; subst e; obtain ⟨es2, e2, hks⟩ := Go.World.ownsMap.keysOf hO; injection e2 with e2; subst e2; refine Go.perm_strKeys hs (fun p hp => ?_) ?_ (fun x => ?_)
  · obtain ⟨kv, hkv⟩ := hks p hp; obtain ⟨x, _, h2, _⟩ := Go.Maps.keyOf_str Try.underlying9 hkv; exact ⟨x, h2⟩
  · have h1 := hS.nodup; unfold List.Nodup at h1 ⊢; rw [List.pairwise_map] at h1 ⊢; exact h1.imp (fun hpq e => hpq (nm_inj e))
  · have e3 : (Lit.string x) = ks ⟨x.toArray⟩ := by rw [ks_nm, nm_of]
    rw [e3, has_view, hM.look_, Option.isSome_map]
    constructor
    · intro hx; obtain ⟨e, he, rfl⟩ := List.mem_map.1 hx; have : (⟨(nm e.1).toArray⟩ : ByteArray) = e.1 := nm_inj (nm_of _); rw [this, has_in hS.nodup he rfl]; rfl
    · intro hx; obtain ⟨e, he⟩ := Option.isSome_iff_exists.1 hx; obtain ⟨h1, h2⟩ := has_some he; exact List.mem_map.2 ⟨e, h1, by rw [h2, nm_of]⟩
theorem sorts_in (m : Nat) : Go.Proofs.AnyZ.SortsIn Try.prog sortedD_ren Fence.wide m :=
  ⟨fun blk off cap ss W hH hblk hsz => callsIn_wide.2 (Go.Proofs.AnyM.slices_Sort_string sortD blk off cap ss W hH hblk hsz),
   fun p cap W => callsIn_wide.2 (Go.Proofs.AnyM.slices_Sort_string_none sortD p cap W)⟩
theorem keys.calls (w : World) (m : Nat) : Calls Try.prog 51 #[.map (some m)] w fun e w' => e = .returned (.func (.func 75) #[] #[.pointer (some ⟨w.heap.size, 0, none⟩)]) ∧ w' = w.alloc (.cells #[.map (some m)] 82) :=
  callsIn_wide.1 (Go.Proofs.AnyZ.keys_in keysD Fence.wide 5 trivial rfl (some m) w)
theorem sorted_id {l : List Ent} (hS : Srt l) : (l.map fun e => nm e.1).mergeSort Go.leB = l.map fun e => nm e.1 := by
  refine List.mergeSort_of_pairwise ?_; rw [List.pairwise_map]; exact hS.imp (fun h => by simp only [Go.leB, decide_eq_true_eq]; exact List.le_of_lt h)
theorem sorted.calls {w : World} {m b : Nat} {l : List Ent} (h : OwnE w m l) (hS : Srt l) (hl : l.length ≤ 2097152) (hb : w.heap[b]? = some (.cells #[.map (some m)] 82 (0, 0))) :
    Calls Try.prog 50 #[.func (.func 75) #[] #[.pointer (some ⟨b, 0, none⟩)]] w fun e w' => ∃ v, e = .returned v ∧ Kd.R Kd.string 9 w' w.heap.size (fun _ => True) v (l.map (·.1)) ∧ Below w.heap.size w w' := by
  obtain ⟨D, hO, hM, hT, hsz⟩ := h.tight hS; have hseq := Go.Proofs.AnyZ.keys_gives (ρ := keysD_ren) { keysD with } Fence.wide 2 trivial rfl (by omega) b m l.length D w (blk_lt hb) ((blk_cell hb 0).trans rfl) hO; have cS := Go.Proofs.AnyZ.sorted_in sortedD Fence.wide 5 trivial trivial trivial trivial rfl (by omega) (sorts_in _) (Go.Proofs.enters_of Try.func74 (by kernel_rfl) rfl) 75 #[.pointer (some ⟨b, 0, none⟩)] trivial (Go.Proofs.enters_of Try.func75 (by kernel_rfl) rfl) _ (Maps.size D) (by rw [hsz]; unfold Go.maxLen; omega) (by rw [hsz]; omega) w hseq; refine (callsIn_wide.1 cS).mono ?_; rintro e w' ⟨v, ss, rfl, hp, hrow, _, hb'⟩; refine ⟨v, rfl, ?_, hb'⟩; have hp2 : ss.Perm (l.map fun e => nm e.1) := hp.trans (keys_of hO hM hS).symm; have e1 : (ss.mergeSort fun x y => decide (x ≤ y)) = l.map fun e => nm e.1 := (Go.mergeSort_of_perm hp2).trans (sorted_id hS); rw [e1] at hrow
  have e2 : (l.map fun e => nm e.1).map Go.Proofs.encStr = encs Value.string (l.map (·.1)) := by
    unfold encs; rw [List.map_map, List.map_map]; exact List.map_congr_left (fun e _ => str_mk e.1)
  rw [e2] at hrow; have e3 : ss.length = (l.map (·.1)).length := by rw [hp2.length_eq, List.length_map, List.length_map]
  rw [e3] at hrow; exact Kd.R_of_own (enc := Value.string) (h1 := fun _ => rfl) hrow (fun _ _ => trivial)
set_option maxHeartbeats 1000000 in
theorem disk_Read.calls {w : World} {F : Nat → Prop} {d : Nat} {S : DS} (h : DskAt w F d S) (n : ByteArray) (hn : n.size ≤ 9223372036854775807) :
    Calls Try.prog 33 #[.pointer (some ⟨d, 0, none⟩), .string n] w fun e w' => ∃ v, e = .returned (.tuple #[v, .int .i64 (rdFile S n).2]) ∧ Kd.R kB 5 w' w.heap.size (fun _ => True) v (rdFile S n).1 ∧ Below w.heap.size w w' := by
  obtain ⟨hI, md, ms, vf, vc, fm, h1⟩ := h; have c8 := (blk_cell h1.blk 8).trans rfl; have H := Aside0.mk h1; have HI := Aside0.mk hI; have HN := Aside0.mk hn
  cases hd : S.dead with
  | true =>
    rw [hd] at c8; have HOP : Aside0 (rdFile S n = ([], 51)) := ⟨by unfold rdFile; rw [hd]; rfl⟩; clear h1 hd hI hn; go_enter Try.func33, Try.ntmps33
    go_wp2_with fail
    go_ret2; rw [HOP.out]; exact ⟨_, rfl, Kd.R_nil _ _ _ _ _, Below.refl _ _⟩
  | false =>
    rw [hd] at c8; have HDD := Aside0.mk hd; clear h1 hd hI hn; go_enter Try.func33, Try.ntmps33
    go_wp2_with fail
    refine (disk_find.calls H.out (fun e he => ⟨(HI.out.okD e he).1, (HI.out.okD e he).2.1⟩) n HN.out).mono ?_; rintro x w2 ⟨rfl, ⟨hh, rfl⟩ | ⟨en, hh, rfl⟩⟩
    · have HOP : Aside0 (rdFile S n = ([], 7)) := ⟨by unfold rdFile; rw [HDD.out, hh]; rfl⟩; clear hh; go_wp2_with fail
      go_ret2; rw [HOP.out]; exact ⟨_, rfl, Kd.R_nil _ _ _ _ _, Below.refl _ _⟩
    · have HOP : Aside0 (rdFile S n = ((fileOf S en.2).1, 0)) := ⟨by unfold rdFile; rw [HDD.out, hh]; rfl⟩; have hen := HI.out.okD en (has_some hh).1; obtain ⟨j, hj⟩ : ∃ j : Nat, j = en.2.toNat := ⟨_, rfl⟩; have hjS : j < S.files.length := by omega
      have hA := H.out.at_ j hjS; have hfl := (HI.out.fil _ (fileOf_mem hen.1 hen.2.1)).1; have hfo : fileOf S en.2 = S.files.getD j ([], 0) := by unfold fileOf; rw [hj]
      rw [← hj]; obtain ⟨⟨b5, v5⟩, hfm⟩ : ∃ a, a = fm.getD j fm0 := ⟨_, rfl⟩; rw [← hfm] at hA ⊢; obtain ⟨fj, hfj⟩ : ∃ fj, fj = S.files.getD j ([], 0) := ⟨_, rfl⟩; rw [← hfj] at hA hfo; rw [hfo] at hfl HOP; obtain ⟨hA1, hA2⟩ := hA; have hA1' : w2.heap[b5]? = some (.cells #[v5, .int .i64 fj.2] 97 (0, 0)) := hA1; have hA2' : Kd.R kB 5 w2 0 (fun _ => True) v5 fj.1 := hA2; have k0 := (blk_cell hA1' 0).trans rfl; have HA2 := Aside0.mk hA2'; have HFL : Aside0 (fj.1.length ≤ 1073741824) := ⟨by omega⟩; clear hh hen hj hjS hfl hfo hfm hfj hA1 hA2 hA1' hA2'; go_wp2_with fail
      refine (clone_bytes HA2.out HFL.out).mono ?_; rintro x w3 ⟨v3, rfl, hr3, hb3⟩; have HR3 := Aside0.mk (And.intro hr3 hb3); clear hr3 hb3; go_wp2_with fail
      go_ret2; rw [HOP.out]; exact ⟨_, rfl, HR3.out.1, HR3.out.2⟩
set_option maxHeartbeats 1000000 in
theorem disk_List.calls {w : World} {F : Nat → Prop} {d : Nat} {S : DS} (h : DskAt w F d S) :
    Calls Try.prog 26 #[.pointer (some ⟨d, 0, none⟩)] w fun e w' => ∃ v, e = .returned v ∧ Kd.R Kd.string 9 w' w.heap.size (fun _ => True) v (lstOf S) ∧ Below w.heap.size w w' := by
  obtain ⟨hI, md, ms, vf, vc, fm, h1⟩ := h; have c8 := (blk_cell h1.blk 8).trans rfl; have c3 := (blk_cell h1.blk 3).trans rfl; have H := Aside0.mk h1; have HI := Aside0.mk hI
  cases hd : S.dead with
  | true =>
    rw [hd] at c8; have HOP : Aside0 (lstOf S = []) := ⟨by unfold lstOf; rw [hd]; rfl⟩; clear h1 hd hI; go_enter Try.func26, Try.ntmps26
    go_wp2_with fail
    go_ret; rw [HOP.out]; exact ⟨_, rfl, Kd.R_nil _ _ _ _ _, Below.refl _ _⟩
  | false =>
    rw [hd] at c8; have HOP : Aside0 (lstOf S = S.dir.map (·.1)) := ⟨by unfold lstOf; rw [hd]; rfl⟩; clear h1 hd hI; go_enter Try.func26, Try.ntmps26
    go_wp2_with fail
    refine (keys.calls w md).mono ?_; rintro x w1 ⟨rfl, hw1⟩; have hb1 : Below w.heap.size w w1 := by rw [hw1]; exact below_alloc (Below.refl _ _) _
    have hB : w1.heap[w.heap.size]? = some (.cells #[.map (some md)] 82 (0, 0)) := by rw [hw1]; exact blk_new _ _
    have HB1 := Aside0.mk hb1; have HB := Aside0.mk hB; clear hb1 hB hw1 c3 c8; go_wp2_with fail
    refine (sorted.calls (H.out.below HB1.out).dir HI.out.srtD (by have := HI.out.lenD; omega) HB.out).mono ?_; rintro x w2 ⟨v2, rfl, hr2, hb2⟩; have HR2 := Aside0.mk (And.intro (Kd.R_lower hr2 HB1.out.size) (below_step HB1.out hb2)); clear hr2 hb2; go_wp2_with fail
    go_ret; rw [HOP.out]; exact ⟨_, rfl, HR2.out.1, HR2.out.2⟩
end Go.Proofs.Ytdekcjopgnfmdaa.Hand
