/- Disk: the program's Durable; a nil disk. Disk: what New makes: the plain law, the disk while it is made. Disk: the program's New. Disk: a disk that is wholly made behind a world; the calls on it. Disk: the law's live. -/
import Derived.Test.YtdekcjopgnfmdaaDskO
import Derived.Lib.SlBytesConst
namespace Go.Proofs.Ytdekcjopgnfmdaa.Hand
open Go.RowKit Go.Maps Go.Proofs.YtdekcjopgnfmdaaW.PrintWords Go.Proofs.YtdekcjopgnfmdaaW.PrintLast Go.Proofs.YtdekcjopgnfmdaaW.PrintMore Go.Proofs.Ytdekcjopgnfmdaa.Q
set_option linter.unusedVariables false
set_option linter.unusedSimpArgs false
theorem disk_Durable.calls {w : World} {F : Nat → Prop} {d : Nat} {S : DS} (h : DskAt w F d S) :
    Calls Try.prog 25 #[.pointer (some ⟨d, 0, none⟩)] w fun e w' => ∃ v, e = .returned v ∧ Kd.R kF 65 w' w.heap.size (fun _ => True) v ((leftOf S 0 []).map mkF) ∧ Below w.heap.size w w' := by
  have H := Aside0.mk h; clear h; go_enter Try.func25, Try.ntmps25
  go_wp2_with fail
  refine (disk_Left.calls H.out 0 (by omega) none 0 [] (Kd.C_nil _ _) (Nat.le_refl _) (fun x hx => absurd hx List.not_mem_nil)).mono ?_; rintro x w1 ⟨v, rfl, hr, hb⟩; have HR := Aside0.mk (And.intro hr hb); clear hr hb; go_wp2_with fail
  go_ret; exact ⟨_, rfl, HR.out.1, HR.out.2⟩
end Go.Proofs.Ytdekcjopgnfmdaa.Hand
namespace Go.Proofs.Ytdekcjopgnfmdaa.Hand
open Go.RowKit Go.Maps Go.Proofs.YtdekcjopgnfmdaaW.PrintWords Go.Proofs.YtdekcjopgnfmdaaW.PrintLast Go.Proofs.YtdekcjopgnfmdaaW.PrintMore Go.Proofs.Ytdekcjopgnfmdaa.Q
set_option linter.unusedVariables false
set_option linter.unusedSimpArgs false
def ds0 (room : Int) : DS := ⟨room, [], [], [], [], 0, 0, false⟩
def newAdd (S : DS) (f : FilD) : DS := { S with files := S.files ++ [(f.f1, (f.f1.length : Int))], dir := with_ S.dir f.f0 (S.files.length : Int) }
def newErr (S : DS) (f : FilD) : Int := if nameOk f.f0 = false then 50 else if (has S.dir f.f0).isSome then 34 else if f.f1.length > 4194304 then 1 else 0
def newGo (S : DS) : List FilD → DS × Int
  | [] => (S, 0)
  | f :: fs => if newErr S f ≠ 0 then (S, newErr S f) else newGo (newAdd S f) fs
def newEnd (p : DS × Int) : DS × Int := if p.2 ≠ 0 then p else if used p.1 > p.1.room then (p.1, 5) else ({ p.1 with safe := p.1.dir }, 0)
def newOf (room : Int) (fs : List FilD) : DS × Int := if room < 0 then (ds0 room, 2) else if fs.length > 64 then (ds0 room, 32) else newEnd (newGo (ds0 room) fs)
def FilOk (f : FilD) : Prop := f.f0.size ≤ 9223372036854775807 ∧ (∀ x, x ∈ f.f1 → 0 ≤ x ∧ x ≤ 255)
/-- A disk that is being made of i files. -/
structure Mid (room : Int) (S : DS) (i : Nat) : Prop where
  inv : Inv { S with safe := S.dir }
  lenF : S.files.length = i
  lenD : S.dir.length ≤ i
  e1 : S.safe = []
  e2 : S.chg = []
  e3 : S.ops = 0
  e4 : S.armed = 0
  e5 : S.dead = false
  e6 : S.room = room
theorem Mid.start {room : Int} (h : 0 ≤ room ∧ room ≤ 9223372036854775807) : Mid room (ds0 room) 0 where
  inv := {
    srtD := List.Pairwise.nil
    srtS := List.Pairwise.nil
    okD := fun e he => by cases he
    okS := fun e he => by cases he
    okC := fun e he => by cases he
    lenD := Nat.zero_le _
    lenS := Nat.zero_le _
    lenF := by show (0 : Int) ≤ 64 + 0; omega
    lenC := by show (0 : Int) ≤ 0; omega
    opsB := by show (0 : Int) ≤ 0 ∧ (0 : Int) ≤ 1048576; omega
    fil := fun e he => by cases he
    roomB := h
    armB := by show (0 : Int) ≤ 0 ∧ (0 : Int) ≤ 9223372036854775807; omega
    hist := rfl
    fileN := List.Pairwise.nil }
  lenF := rfl
  lenD := Nat.zero_le _
  e1 := rfl
  e2 := rfl
  e3 := rfl
  e4 := rfl
  e5 := rfl
  e6 := rfl
theorem Mid.add {room : Int} {S : DS} {i : Nat} (h : Mid room S i) (hi : i < 64) {f : FilD} (hf : FilOk f) (he : newErr S f = 0) : Mid room (newAdd S f) (i + 1) := by
  have hI := h.inv
  have hn : nameOk f.f0 = true ∧ has S.dir f.f0 = none ∧ f.f1.length ≤ 4194304 := by
    unfold newErr at he
    split at he
    · exact absurd he (by decide)
    · rename_i h1
      split at he
      · exact absurd he (by decide)
      · rename_i h2
        split at he
        · exact absurd he (by decide)
        · rename_i h3; exact ⟨by simpa using h1, by simpa using h2, by omega⟩
  obtain ⟨h1, h2, h3⟩ := hn; have hs := nameOk_size h1; have hlen : (newAdd S f).files.length = i + 1 := by show (S.files ++ [_]).length = i + 1; rw [List.length_append, h.lenF]; rfl
  have hdl : (newAdd S f).dir.length ≤ i + 1 := Nat.le_trans (with_len _ _ _) (by have := h.lenD; omega)
  have hok : ∀ e, e ∈ (newAdd S f).dir → 0 ≤ e.2 ∧ e.2 < (newAdd S f).files.length ∧ 1 ≤ e.1.size ∧ e.1.size ≤ 32 := fun e hm => by
    rw [hlen]; rcases with_mem.1 hm with rfl | ⟨hm, _⟩
    · refine ⟨by show (0 : Int) ≤ (S.files.length : Int); omega, by show (S.files.length : Int) < _; rw [h.lenF]; omega, hs⟩
    · have h9 := hI.okD e hm; refine ⟨h9.1, ?_, h9.2.2⟩; have h8 : e.2 < (S.files.length : Int) := h9.2.1; rw [h.lenF] at h8; omega
  have hfn : ((newAdd S f).dir.map (·.2)).Nodup := by
    have h9 := turn_fileN (l := S.dir) hI.fileN (c := (ByteArray.empty, f.f0, (S.files.length : Int))) (fun _ e he2 => by
      have h8 : e.2 < (S.files.length : Int) := (hI.okD e (turn1_mem he2)).2.1; show e.2 ≠ (S.files.length : Int); omega)
    have e9 : turn S.dir (ByteArray.empty, f.f0, (S.files.length : Int)) = with_ S.dir f.f0 (S.files.length : Int) := by
      unfold turn turn1; rw [if_neg (by show ¬ f.f0.size = 0; omega), if_pos (by rfl)]
    rw [e9] at h9; exact h9
  refine ⟨{ srtD := hI.srtD.with_ _ _, srtS := hI.srtD.with_ _ _, okD := hok, okS := hok, okC := fun c hc => absurd (h.e2 ▸ (show c ∈ S.chg from hc) : c ∈ ([] : List Chg)) List.not_mem_nil, lenD := ?_, lenS := ?_, lenF := ?_, lenC := hI.lenC, opsB := hI.opsB, fil := fun x hx => ?_, roomB := hI.roomB, armB := hI.armB, hist := ?_, fileN := hfn }, hlen, hdl, h.e1, h.e2, h.e3, h.e4, h.e5, h.e6⟩
  · show (newAdd S f).dir.length ≤ 64; omega
  · show (newAdd S f).dir.length ≤ 64; omega
  · show ((newAdd S f).files.length : Int) ≤ 64 + S.ops; rw [hlen, h.e3]; omega
  · rcases List.mem_append.1 hx with hx | hx
    · exact hI.fil x hx
    · rw [List.mem_singleton] at hx; subst hx; exact ⟨h3, by show (0 : Int) ≤ (f.f1.length : Int); omega, Int.le_refl _, hf.2⟩
  · show S.chg.foldl turn _ = _; rw [h.e2]; rfl
theorem Mid.used_add {room : Int} {S : DS} {i : Nat} (h : Mid room S i) {f : FilD} (he : has S.dir f.f0 = none) : used (newAdd S f) = used S + (f.f1.length : Int) := by
  show usedOf (S.files ++ [(f.f1, (f.f1.length : Int))]) (ins f.f0 (S.files.length : Int) (without S.dir f.f0)) = _; rw [usedOf_ins, usedOf_app _ (fun e hm => ⟨(h.inv.okD e (without_mem.1 hm).1).1, (h.inv.okD e (without_mem.1 hm).1).2.1⟩), usedOf_without _ _ _ h.inv.srtD.nodup, he]
  have e9 : flen (S.files ++ [(f.f1, (f.f1.length : Int))]) (S.files.length : Int) = (f.f1.length : Int) := by
    unfold flen; rw [Int.toNat_natCast, getD_last]
  rw [e9]; simp only; unfold used; omega
theorem Mid.usedB {room : Int} {S : DS} {i : Nat} (h : Mid room S i) : 0 ≤ used S ∧ used S ≤ 268435456 := h.inv.usedB
theorem Mid.fin {room : Int} {S : DS} {i : Nat} (h : Mid room S i) : Inv { S with safe := S.dir } := h.inv
/-- The disk while it is made. -/
structure NewM (w : World) (B d : Nat) (S : DS) (md : Nat) (vf : Value) (fm : List FM) : Prop where
  blk : w.heap[d]? = some (.cells #[.int .i64 S.room, .int .i64 (used S), vf, .map (some md), .map none, .slice none 0 0, .int .i64 0, .int .i64 0, .bool false] 87 (0, 0))
  own : Kd.R kP 95 w 0 (fun _ => True) vf (fm.map (·.1))
  len : fm.length = S.files.length
  at_ : ∀ i, i < S.files.length → FileAt w (fm.getD i fm0) (S.files.getD i ([], 0))
  sep : ∀ i j, i < fm.length → j < fm.length → i ≠ j → (fm.getD i fm0).1 ≠ (fm.getD j fm0).1 ∧ ∀ k, (fm.getD i fm0).2.ownBlock = some k → (fm.getD j fm0).2.ownBlock ≠ some k
  dir : OwnE w md S.dir
  foot : B ≤ d ∧ B ≤ md ∧ (∀ k, vf.ownBlock = some k → B ≤ k) ∧ ∀ a, a ∈ fm → B ≤ a.1 ∧ ∀ k, a.2.ownBlock = some k → B ≤ k
theorem NewM.lt {w : World} {B d : Nat} {S : DS} {md : Nat} {vf : Value} {fm : List FM} (h : NewM w B d S md vf fm) {i : Nat} (hi : i < fm.length) : (fm.getD i fm0).1 < w.heap.size ∧ ∀ k, (fm.getD i fm0).2.ownBlock = some k → k < w.heap.size := by
  have h1 := h.at_ i (by rw [← h.len]; exact hi); exact ⟨blk_lt h1.1, fun k hk => Kd.R_lt h1.2 _ hk⟩
/-- What none of its blocks was touched by. -/
theorem NewM.below {w w' : World} {B d : Nat} {S : DS} {md : Nat} {vf : Value} {fm : List FM} (h : NewM w B d S md vf fm) (hb : Below w.heap.size w w') : NewM w' B d S md vf fm where
  blk := blk_below h.blk hb
  own := Kd.R_below h.own hb
  len := h.len
  at_ := fun i hi => ⟨blk_below (h.at_ i hi).1 hb, Kd.R_below (h.at_ i hi).2 hb⟩
  sep := h.sep
  dir := h.dir.same (hb.block _ h.dir.lt)
  foot := h.foot
/-- A file more. -/
theorem NewM.step {w w' : World} {B d : Nat} {S S' : DS} {md : Nat} {vf vf' : Value} {fm : List FM} {b : Nat} {v : Value} {f : Fil} (h : NewM w B d S md vf fm)
    (hk : KeptL (fun k => k = d ∨ k = md ∨ vf.ownBlock = some k) w w')
    (hb : w'.heap[d]? = some (.cells #[.int .i64 S'.room, .int .i64 (used S'), vf', .map (some md), .map none, .slice none 0 0, .int .i64 0, .int .i64 0, .bool false] 87 (0, 0)))
    (hn : FileAt w' (b, v) f) (hbn : w.heap.size ≤ b) (hvn : ∀ k, v.ownBlock = some k → w.heap.size ≤ k)
    (hc : Kd.R kP 95 w' 0 (fun _ => True) vf' (fm.map (·.1) ++ [b])) (hv : vf'.ownBlock = vf.ownBlock ∨ ∃ b, vf'.ownBlock = some b ∧ w.heap.size ≤ b)
    (hd : OwnE w' md S'.dir) (hf : S'.files = S.files ++ [f]) : NewM w' B d S' md vf' (fm ++ [(b, v)]) := by
  have hlen := h.len; obtain ⟨f1, f2, f3, f4⟩ := h.foot; have hdw : d < w.heap.size := blk_lt h.blk; have hbB : B ≤ b := by omega
  refine { blk := hb, own := by rw [List.map_append]; exact hc, len := by rw [hf, List.length_append, List.length_append, hlen]; rfl, at_ := fun i hi => ?_, sep := fun i j hi hj hij => ?_, dir := hd, foot := ⟨f1, f2, fun k hk2 => ?_, fun a ha => ?_⟩ }
  · rw [hf, List.length_append, List.length_singleton] at hi; rcases Nat.lt_succ_iff_lt_or_eq.1 hi with hi | rfl
    · rw [hf, getD_app hi, getD_app (by rw [hlen]; exact hi)]; have hA := h.at_ i hi; have hl := h.lt (i := i) (by omega); refine hA.same (hk.block _ hl.1 (fun hh => ?_)) (fun k hv2 => hk.block _ (hl.2 k hv2) (fun hh => ?_))
      · rcases hh with hh | hh | hh
        · exact blk_ne hA.1 h.blk (by decide) hh
        · exact h.dir.ne hA.1 hh.symm
        · exact Kd.R_ne h.own hA.1 (by decide) hh.symm
      · rcases hh with hh | hh | hh
        · exact Kd.R_ne hA.2 h.blk (by decide) (by rw [hv2, hh])
        · exact h.dir.ne_own hA.2 (by rw [hv2, hh])
        · exact own_ne hA.2 h.own (by decide) hv2 hh
    · rw [hf, getD_last]; have e : (fm ++ [(b, v)]).getD S.files.length fm0 = (b, v) := by rw [← hlen]; exact getD_last
      rw [e]; exact hn
  · rw [List.length_append, List.length_singleton] at hi hj; rcases Nat.lt_succ_iff_lt_or_eq.1 hi with hi | rfl <;> rcases Nat.lt_succ_iff_lt_or_eq.1 hj with hj | rfl
    · rw [getD_app hi, getD_app hj]; exact h.sep i j hi hj hij
    · rw [getD_app hi, getD_last]; have hl := h.lt hi; exact ⟨by show (fm.getD i fm0).1 ≠ b; omega, fun k e1 e2 => by have h1 := hl.2 k e1; have h2 := hvn k e2; omega⟩
    · rw [getD_app hj, getD_last]; have hl := h.lt hj; exact ⟨by show b ≠ (fm.getD j fm0).1; omega, fun k e1 e2 => by have h1 := hl.2 k e2; have h2 := hvn k e1; omega⟩
    · exact absurd rfl hij
  · rcases hv with hv | ⟨b2, hv, hb2⟩
    · exact f3 k (by rw [← hv]; exact hk2)
    · rw [hv] at hk2; injection hk2 with hk2; omega
  · rcases List.mem_append.1 ha with ha | ha
    · exact f4 a ha
    · rw [List.mem_singleton] at ha; subst ha; exact ⟨hbB, fun k e => by have := hvn k e; omega⟩
/-- The disk is made. -/
theorem NewM.done {w w' : World} {B d : Nat} {S : DS} {md ms i : Nat} {room : Int} {vf : Value} {fm : List FM} (h : NewM w B d S md vf fm) (hM : Mid room S i) (hk : KeptL (fun k => k = d) w w')
    (hb : w'.heap[d]? = some (.cells #[.int .i64 S.room, .int .i64 (used S), vf, .map (some md), .map (some ms), .slice none 0 0, .int .i64 0, .int .i64 0, .bool false] 87 (0, 0)))
    (hs : OwnE w' ms S.dir) (hms : w.heap.size ≤ ms) : DskAt w' (fun k => B ≤ k ∧ k < w'.heap.size) d { S with safe := S.dir } := by
  obtain ⟨f1, f2, f3, f4⟩ := h.foot; have hdw : d < w.heap.size := blk_lt h.blk; have hmd := h.dir.lt; have hlt : ∀ k, k < w.heap.size → k < w'.heap.size := fun k hk2 => Nat.lt_of_lt_of_le hk2 hk.size; refine ⟨hM.inv, md, ms, vf, .slice none 0 0, fm, { blk := ?_, own := R_keepD rfl h.own (fun k hv => hk.block k (Kd.R_lt h.own _ hv) (fun e => Kd.R_ne h.own h.blk (by decide) (by rw [hv, e]))), len := h.len, at_ := fun i hi => ?_, sep := h.sep, dir := h.dir.same (hk.block md hmd (fun e => h.dir.ne h.blk e)), safe := hs, apart := by omega, chg := ?_, foot := ?_, lt := fun k hk2 => hk2.2 }⟩
  · rw [hb]; show _ = some (Obj.cells #[.int .i64 S.room, .int .i64 (used S), vf, .map (some md), .map (some ms), .slice none 0 0, .int .i64 S.ops, .int .i64 S.armed, .bool S.dead] _ _); rw [hM.e3, hM.e4, hM.e5]
  · have hA := h.at_ i hi; have hl := h.lt (i := i) (by rw [h.len]; exact hi); exact hA.same (hk.block _ hl.1 (fun e => blk_ne hA.1 h.blk (by decide) e)) (fun k hv2 => hk.block _ (hl.2 k hv2) (fun e => Kd.R_ne hA.2 h.blk (by decide) (by rw [hv2, e])))
  · show Kd.R kC _ _ _ _ _ S.chg; rw [hM.e2]; exact Kd.R_nil _ _ _ _ _
  · refine ⟨⟨f1, hlt _ hdw⟩, ⟨f2, hlt _ hmd⟩, ⟨by omega, hs.lt⟩, fun k hv => ⟨f3 k hv, hlt _ (Kd.R_lt h.own _ hv)⟩, fun k hv => by simp [Value.ownBlock] at hv, fun a ha => ?_⟩; obtain ⟨i, hi, rfl⟩ := List.getElem_of_mem ha; have hl := h.lt hi; have e9 : fm.getD i fm0 = fm[i] := by rw [List.getD_eq_getElem?_getD, List.getElem?_eq_getElem hi]; rfl
    rw [e9] at hl; exact ⟨⟨(f4 _ ha).1, hlt _ hl.1⟩, fun k hv => ⟨(f4 _ ha).2 k hv, hlt _ (hl.2 k hv)⟩⟩
end Go.Proofs.Ytdekcjopgnfmdaa.Hand
namespace Go.Proofs.Ytdekcjopgnfmdaa.Hand
open Go.RowKit Go.Maps Go.Proofs.YtdekcjopgnfmdaaW.PrintWords Go.Proofs.YtdekcjopgnfmdaaW.PrintLast Go.Proofs.YtdekcjopgnfmdaaW.PrintMore Go.Proofs.Ytdekcjopgnfmdaa.Q
set_option linter.unusedVariables false
set_option linter.unusedSimpArgs false
set_option maxHeartbeats 2000000 in
set_option maxRecDepth 100000 in
theorem clone_C {w : World} {A : Option Addr} {n c : Nat} {bs : List Int} (hC : Kd.C kB w A n bs) (hc : n ≤ c) (hl : n ≤ 1073741824) :
    Calls Try.prog 52 #[.slice A n c] w fun e w' => ∃ v', e = .returned v' ∧ Kd.R kB 5 w' w.heap.size (fun _ => True) v' bs ∧ Below w.heap.size w w' := by
  cases A with
  | none =>
    have h0 : n = 0 := by
      rcases Nat.eq_zero_or_pos n with h | h
      · exact h
      · obtain ⟨ad, e, _⟩ := hC.2.2 h
        cases e
    subst h0; have h1 : bs = [] := List.length_eq_zero_iff.1 hC.1; subst h1; refine Calls.mono (Go.Proofs.AnyE.slices_Clone_nil cloneB 0 c w) ?_; rintro e w' ⟨rfl, rfl⟩; exact ⟨_, rfl, Kd.R_nil _ _ _ _ _, Below.refl _ _⟩
  | some ad =>
    have hq := Go.Lib.run_eql_slice_nil (P := Try.prog) w 53 5 (some ad) n c 0 0 Try.underlying53; simp only [Option.isNone_some] at hq; have HC := Aside0.mk hC; have HCC := Aside0.mk hc; have HL := Aside0.mk hl; clear hC hc hl
    have HR5 : Aside0 (Kd.R kB 5 (w.alloc (.cells #[] 5)) w.heap.size (fun _ => True) (.slice (some ⟨w.heap.size, 0, none⟩) 0 0) []) := ⟨Kd.R_of_own (enc := Value.int .u8) (h1 := fun _ => rfl) (by
      refine ⟨rfl, .inr ⟨w.heap.size, 0, #[], rfl, Nat.le_refl _, blk_new _ _, ?_⟩⟩; simp [encs]) (fun _ _ => trivial)⟩
    go_enter Try.func52, Try.ntmps52
    go_wp2_with ((with_reducible refine gate_builtin (b := .append) (xs := #[.tmp 5, .tmp 6]) rfl ?_); at_builtin; refine Kd.R_append_rows kB (Rr := kB.K w) (w0 := w) w.heap.size rfl (.tmp 5) (.tmp 6) 53 5 (.int .u8 0) 1 rfl Try.underlying53 infoB rfl (by decide) (by decide) (.slice (some ⟨w.heap.size, 0, none⟩) 0 0) [] bs (some ad) n c (fun _ => True) (fun _ => False) rfl rfl HR5.out (Kd.C_below HC.out (below_alloc (Below.refl _ _) _)) (fun _ _ h => h) (fun _ h => h.elim) (fun _ _ => trivial) (below_alloc (Below.refl _ _) _) (by simp) (by have := HL.out; simp; omega) ?_; intro v7 w7 ho hb hg hat; have HO7 := Aside0.mk ho; have HB7 := Aside0.mk hb; clear ho hb hg hat)
    go_ret; exact ⟨_, rfl, HO7.out, HB7.out⟩
/-- What New answers. -/
def NewAns (w w' : World) (r : DS × Int) (e : Ending) : Prop := ((r.2 = 0 ∧ ∃ d, e = .returned (.tuple #[.pointer (some ⟨d, 0, none⟩), .int .i64 0]) ∧ DskAt w' (fun k => w.heap.size ≤ k ∧ k < w'.heap.size) d r.1) ∨ (r.2 ≠ 0 ∧ e = .returned (.tuple #[.pointer none, .int .i64 r.2]))) ∧ Below w.heap.size w w'
theorem newGo_step {S : DS} {fs : List FilD} {i : Nat} (h : i < fs.length) {R : DS × Int} (hR : R = newGo S (fs.drop i)) :
    (newErr S (rd_T65 fs (i : Int)) ≠ 0 → R = (S, newErr S (rd_T65 fs (i : Int)))) ∧ (newErr S (rd_T65 fs (i : Int)) = 0 → R = newGo (newAdd S (rd_T65 fs (i : Int))) (fs.drop (i + 1))) := by
  have e1 : fs.drop i = rd_T65 fs (i : Int) :: fs.drop (i + 1) := by
    rw [List.drop_eq_getElem_cons h]
    congr 1
    unfold rd_T65; rw [Int.toNat_natCast, List.getD_eq_getElem?_getD, List.getElem?_eq_getElem h]; rfl
  rw [e1] at hR; unfold newGo at hR
  constructor
  · intro h1; rw [hR, if_pos h1]
  · intro h1; rw [hR, if_neg (by rw [h1]; decide)]
set_option maxHeartbeats 4000000 in
set_option maxRecDepth 100000 in
theorem disk_New.calls (room : Int) (hr : room ≤ 9223372036854775807) (A : Option Addr) (c : Nat) (fs : List FilD) (w : World) (hC : Kd.C kF w A fs.length fs) (hc : fs.length ≤ c) (hok : ∀ f, f ∈ fs → FilOk f) :
    Calls Try.prog 19 #[.slice A fs.length c, .int .i64 room] w fun e w' => NewAns w w' (newOf room fs) e := by
  by_cases h0 : room < 0
  · have b0 : decide (room < 0) = true := decide_eq_true h0; have HOP : Aside0 (newOf room fs = (ds0 room, 2)) := ⟨by unfold newOf; rw [if_pos h0]⟩; clear h0 hC hc hok hr; go_enter Try.func19, Try.ntmps19
    go_wp2_with fail
    go_ret2; rw [HOP.out]; exact ⟨.inr ⟨by show (2 : Int) ≠ 0; decide, rfl⟩, Below.refl _ _⟩
  have b0 : decide (room < 0) = false := decide_eq_false h0; by_cases h1 : fs.length > 64
  · have b1 : decide ((fs.length : Int) > 64) = true := decide_eq_true (by omega); have HOP : Aside0 (newOf room fs = (ds0 room, 32)) := ⟨by unfold newOf; rw [if_neg h0, if_pos h1]⟩; clear h0 h1 hC hc hok hr; go_enter Try.func19, Try.ntmps19
    go_wp2_with fail
    go_ret2; rw [HOP.out]; exact ⟨.inr ⟨by show (32 : Int) ≠ 0; decide, rfl⟩, Below.refl _ _⟩
  have b1 : decide ((fs.length : Int) > 64) = false := decide_eq_false (by omega); have HOP : Aside0 (newOf room fs = newEnd (newGo (ds0 room) fs)) := ⟨by unfold newOf; rw [if_neg h0, if_neg h1]⟩; have HRB : Aside0 (0 ≤ room ∧ room ≤ 9223372036854775807 ∧ fs.length ≤ 64) := ⟨by omega⟩; have HC := Aside0.mk hC; have HCC := Aside0.mk hc; have HOK := Aside0.mk hok; have hlb : (fs.length : Int) ≤ 64 := by omega
  clear h0 h1 hC hc hok hr; have hmm := @run_makeMap Try.prog; go_enter Try.func19, Try.ntmps19
  go_wp2_with fail
  obtain ⟨md, hmd⟩ : ∃ md, md = w.heap.size := ⟨_, rfl⟩; obtain ⟨w0, hw0⟩ : ∃ w0, w0 = (w.alloc (.map #[] 0)).alloc (.cells #[.int .i64 room, .int .i64 0, .slice none 0 0, .map (some w.heap.size), .map none, .slice none 0 0, .int .i64 0, .int .i64 0, .bool false] 87) := ⟨_, rfl⟩; rw [← hw0]; have hsz : (w.alloc (.map #[] 0)).heap.size = w.heap.size + 1 := by simp
  have hbd : w0.heap[w.heap.size + 1]? = some (.cells #[.int .i64 room, .int .i64 0, .slice none 0 0, .map (some w.heap.size), .map none, .slice none 0 0, .int .i64 0, .int .i64 0, .bool false] 87 (0, 0)) := by rw [hw0, ← hsz]; exact blk_new _ _
  have HB0 : Aside0 (Below w.heap.size w w0) := ⟨by rw [hw0]; exact below_alloc (below_alloc (Below.refl _ _) _) _⟩; obtain ⟨d, hd⟩ : ∃ d, d = w.heap.size + 1 := ⟨_, rfl⟩; have hmade : OwnE w0 md [] := ⟨0, .map [], by rw [hw0, hmd]; exact (World.ownsMap_made w Try.prog 9 intElem).alloc _, MapE.empty⟩; rw [← hd, ← hmd] at hbd; have HM0 : Aside0 (NewM w0 w.heap.size d (ds0 room) md (.slice none 0 0) [] ∧ Mid room (ds0 room) 0) := ⟨{ blk := hbd, own := Kd.R_nil _ _ _ _ _, len := rfl, at_ := fun i hi => absurd hi (Nat.not_lt_zero _), sep := fun i j hi => absurd hi (Nat.not_lt_zero _), dir := hmade, foot := ⟨by omega, by omega, fun k hk => by simp [Value.ownBlock] at hk, fun a ha => by cases ha⟩ }, Mid.start ⟨HRB.out.1, HRB.out.2.1⟩⟩; have HS9 : Aside0 (w.heap.size = md ∧ d = md + 1) := ⟨by omega⟩; rw [show w.heap.size + 1 = d from hd.symm]; clear hbd hmade hsz hw0 hmm; obtain ⟨N, hN⟩ : ∃ N, N = fs.length := ⟨_, rfl⟩; have HN : Aside0 (fs.length = N) := ⟨hN.symm⟩; rw [← hN] at hlb ⊢; clear hN b0 b1 hd hmd; go_loopw [22] (fun v22 wr => ∃ i : Nat, i ≤ N ∧ v22 = .int .i64 i ∧ Aside0 (∃ S vf fm, NewM wr w.heap.size d S md vf fm ∧ Mid room S i ∧ newGo (ds0 room) fs = newGo S (fs.drop i) ∧ Below w.heap.size w wr)) (fun v22 _ => N - (intOf v22).toNat)
  case atStart => exact ⟨0, Nat.zero_le _, rfl, ⟨_, _, _, HM0.out.1, HM0.out.2, rfl, HB0.out⟩⟩
  case round =>
    clear HM0; obtain ⟨i, hi, rfl, HR⟩ := hrel; obtain ⟨S, vf, fm, hM, hMid, hgo, hBr⟩ := HR.out; clear HR; have HM := Aside0.mk hM; have HMid := Aside0.mk hMid; have HGO := Aside0.mk hgo; have HBR := Aside0.mk hBr; by_cases hlt : i < N
    · obtain ⟨ad, A1, c1, hA, o0, o1, hl1, g1⟩ := at_T65 HC.out (i : Int) (by omega) (by rw [HN.out]; omega); replace o0 := pw_cell_below hBr o0; replace o1 := pw_cell_below hBr o1; have hst := newGo_step (by rw [HN.out]; exact hlt) hgo; obtain ⟨⟨f0, f1⟩, hf⟩ : ∃ f, f = rd_T65 fs (i : Int) := ⟨_, rfl⟩; rw [← hf] at o0 o1 hl1 g1 hst; rw [Int.toNat_natCast] at o0 o1; simp only at o0 o1 hl1 g1
      have hmem : (⟨f0, f1⟩ : FilD) ∈ fs := by
        rw [hf]; unfold rd_T65; rw [Int.toNat_natCast]; exact getD_mem (by rw [HN.out]; exact hlt)
      have hfo := HOK.out _ hmem; have HFO := Aside0.mk hfo; have HST := Aside0.mk hst; have hfl : (f1.length : Int) ≤ 9223372036854775807 := by have := g1.2.1; omega
      obtain ⟨L, hL⟩ : ∃ L, L = f1.length := ⟨_, rfl⟩; have HL := Aside0.mk hL; rw [← hL] at o1 hl1 g1 hfl; have HG1 := Aside0.mk (And.intro hl1 g1); obtain ⟨wa, hwa⟩ : ∃ wa, wa = wr.alloc (.cells #[.string f0, .slice A1 L c1] 65) := ⟨_, rfl⟩; subst hA; clear hf hmem hfo hst hl1 g1 hgo hM hMid hBr hL; go_wp2_with fail
      rw [← hwa]; obtain ⟨B9, hB9⟩ : ∃ B9, B9 = wr.heap.size := ⟨_, rfl⟩; have hbf : wa.heap[B9]? = some (.cells #[.string f0, .slice A1 L c1] 65 (0, 0)) := by rw [hwa, hB9]; exact blk_new _ _
      have HBA : Aside0 (Below wr.heap.size wr wa) := ⟨by rw [hwa]; exact below_alloc (Below.refl _ _) _⟩; have HMA := Aside0.mk (HM.out.below HBA.out); have HBF := Aside0.mk hbf; have HB9 := Aside0.mk hB9; rw [← hB9]; clear o0 o1 hbf hwa hB9; have c3 := (blk_cell HMA.out.blk 3).trans rfl; have q0 := (blk_cell HBF.out 0).trans rfl; obtain ⟨x9, hlook, hx9⟩ := dir_look (HMA.out.dir.same rfl : OwnE wa.drew md S.dir) f0 HFO.out.1; obtain ⟨bh, hbh⟩ : ∃ bh, bh = (has S.dir f0).isSome := ⟨_, rfl⟩; rw [← hbh] at hlook; have HBH := Aside0.mk hbh; clear hx9 hbh; refine start_ (n := 12) (S := fun w' => w'.cell? ⟨d, 3, none⟩ = some (.map (some md)) ∧ w'.cell? ⟨B9, 0, none⟩ = some (.string f0) ∧ (Instr.lookup 82 (.map (some md)) (.string f0) true).run Try.prog w' = .ok (.tuple #[.int .i64 x9, .bool bh]) w') (ds := []) (bm 12 0) (by kernel_rfl) rfl rfl ⟨c3, q0, hlook⟩ (fun hHeld => ?_); refine pure_ (i := 0) (N := some 28) (v:=?_) (a':=?_) (bm 12 1) rfl rfl (by kernel_rfl) (fun _ _ _ h => h) (Or.inl ⟨by rfl, ?_⟩) ?_ ?_; rotate_left
      · intro w'; go_simp; with_reducible rfl
      rotate_left
      · simp only [Act.put,s_a,s_b,s_c,i64_w,i32_w]; rfl
      refine pure_ (i := 1) (N := some 29) (v:=?_) (a':=?_) (bm 12 3) rfl rfl (by kernel_rfl) (fun _ _ _ h => h) (Or.inl ⟨by rfl, ?_⟩) ?_ ?_; rotate_left
      · intro w'; go_simp; with_reducible rfl
      rotate_left
      · simp only [Act.put,s_a,s_b,s_c,i64_w,i32_w]; rfl
      refine pure_ (i := 2) (N := some 30) (v:=?_) (a':=?_) (bm 12 7) rfl rfl (by kernel_rfl) (fun _ _ _ h => h) (Or.inl ⟨by rfl, ?_⟩) ?_ ?_; rotate_left
      · intro w'; go_simp; with_reducible rfl
      rotate_left
      · simp only [Act.put,s_a,s_b,s_c,i64_w,i32_w]; rfl
      refine pure_ (i := 4) (N := some 32) (v:=?_) (a':=?_) (bm 12 23) rfl rfl (by kernel_rfl) (fun _ _ _ h => h) (Or.inl ⟨by rfl, ?_⟩) ?_ ?_; rotate_left
      · intro w'; go_simp; with_reducible rfl
      rotate_left
      · simp only [Act.put,s_a,s_b,s_c,i64_w,i32_w]; rfl
      refine take_ (i := 3) (N := some 31) (v:=?_) (a':=?_) (bm 12 31) rfl rfl (by kernel_rfl) (fun _ _ _ h => h) (Or.inl ⟨by rfl, ?_⟩) hHeld ?_ ?_; rotate_left
      · rintro w' ⟨s0, s1, s2⟩; go_simp; with_reducible rfl
      rotate_left
      · simp only [Act.put,s_a,s_b,s_c,i64_w,i32_w]; rfl
      refine take_ (i := 5) (N := some 33) (v:=?_) (a':=?_) (bm 12 63) rfl rfl (by kernel_rfl) (fun _ _ _ h => h) (Or.inl ⟨by rfl, ?_⟩) hHeld ?_ ?_; rotate_left
      · rintro w' ⟨s0, s1, s2⟩; go_simp; with_reducible rfl
      rotate_left
      · simp only [Act.put,s_a,s_b,s_c,i64_w,i32_w]; rfl
      refine take_ (i := 6) (N := some 34) (v:=?_) (a':=?_) (bm 12 127) rfl rfl (by kernel_rfl) (fun _ _ _ h => h) (Or.inl ⟨by rfl, ?_⟩) hHeld ?_ ?_; rotate_left
      · rintro w' ⟨s0, s1, s2⟩; go_simp; with_reducible rfl
      rotate_left
      · simp only [Act.put,s_a,s_b,s_c,i64_w,i32_w]; rfl
      refine pure_ (i := 7) (N := some 27) (v:=?_) (a':=?_) (bm 12 255) rfl rfl (by kernel_rfl) (fun _ _ _ h => h) (Or.inl ⟨by rfl, ?_⟩) ?_ ?_; rotate_left
      · intro w'; go_simp; with_reducible rfl
      rotate_left
      · simp only [Act.put,s_a,s_b,s_c,i64_w,i32_w]; rfl
      refine pure_ (i := 8) (N := some 35) (v:=?_) (a':=?_) (bm 12 511) rfl rfl (by kernel_rfl) (fun _ _ _ h => h) (Or.inl ⟨by rfl, ?_⟩) ?_ ?_; rotate_left
      · intro w'; go_simp; with_reducible rfl
      rotate_left
      · simp only [Act.put,s_a,s_b,s_c,i64_w,i32_w]; rfl
      refine pure_ (i := 9) (N := some 36) (v:=?_) (a':=?_) (bm 12 1023) rfl rfl (by kernel_rfl) (fun _ _ _ h => h) (Or.inl ⟨by rfl, ?_⟩) ?_ ?_; rotate_left
      · intro w'; go_simp; with_reducible rfl
      rotate_left
      · simp only [Act.put,s_a,s_b,s_c,i64_w,i32_w]; rfl
      refine pure_ (i := 10) (N := some 9) (v:=?_) (a':=?_) (bm 12 2047) rfl rfl (by kernel_rfl) (fun _ _ _ h => h) (Or.inl ⟨by rfl, ?_⟩) ?_ ?_; rotate_left
      · intro w'; go_simp; with_reducible rfl
      rotate_left
      · simp only [Act.put,s_a,s_b,s_c,i64_w,i32_w]; rfl
      refine pure_ (i := 11) (N := some 10) (v:=?_) (a':=?_) (bm 12 4095) rfl rfl (by kernel_rfl) (fun _ _ _ h => h) (Or.inl ⟨by rfl, ?_⟩) ?_ ?_; rotate_left
      · intro w'; go_simp; with_reducible rfl
      rotate_left
      · simp only [Act.put,s_a,s_b,s_c,i64_w,i32_w]; rfl
      refine done_ (by kernel_rfl) ?_; clear c3 hlook; obtain ⟨kk, hkk⟩ := (named_ev f0 HFO.out.1).rounds; have HKK := Aside0.mk hkk; obtain ⟨r, hr⟩ : ∃ r, r = nameOk f0 := ⟨_, rfl⟩; have HR := Aside0.mk hr; rw [← hr] at HKK; clear hkk hr; go_wp2_with fail
      refine (disk_named.calls kk f0 r _ HKK.out).mono ?_; rintro x w1 ⟨rfl, hd1⟩; have HB1 := Aside0.mk (below_step (below_drew1 (Below.refl wa.heap.size wa)) hd1.below); have HM1 := Aside0.mk (HMA.out.below HB1.out); have HBF1 := Aside0.mk (blk_below HBF.out HB1.out); clear hd1 q0; have HBW : Aside0 (Below w.heap.size w w1) := ⟨below_step (below_step HBR.out HBA.out) HB1.out⟩
      cases r with
      | false =>
        have HE : Aside0 (newOf room fs = (S, 50)) := ⟨by
          have e1 : newErr S ⟨f0, f1⟩ = 50 := by unfold newErr; rw [if_pos HR.out.symm]
          rw [HOP.out, HST.out.1 (by rw [e1]; decide), e1]; rfl⟩
        go_wp2_with fail
        go_ret2; rw [HE.out]; exact ⟨.inr ⟨by show (50 : Int) ≠ 0; decide, rfl⟩, HBW.out⟩
      | true =>
        have k1 := (blk_cell HBF1.out 1).trans rfl
        cases bh with
        | true =>
          have HE : Aside0 (newOf room fs = (S, 34)) := ⟨by
            have e1 : newErr S ⟨f0, f1⟩ = 34 := by unfold newErr; rw [if_neg (by rw [← HR.out]; decide), if_pos HBH.out.symm]
            rw [HOP.out, HST.out.1 (by rw [e1]; decide), e1]; rfl⟩
          go_wp2_with fail
          go_ret2; rw [HE.out]; exact ⟨.inr ⟨by show (34 : Int) ≠ 0; decide, rfl⟩, HBW.out⟩
        | false =>
          by_cases hbig : (L : Int) > 4194304
          · have b4 : decide ((L : Int) > 4194304) = true := decide_eq_true hbig
            have HE : Aside0 (newOf room fs = (S, 1)) := ⟨by
              have e1 : newErr S ⟨f0, f1⟩ = 1 := by unfold newErr; rw [if_neg (by rw [← HR.out]; decide), if_neg (by rw [← HBH.out]; decide), if_pos (by show f1.length > 4194304; rw [← HL.out]; omega)]
              rw [HOP.out, HST.out.1 (by rw [e1]; decide), e1]; rfl⟩
            clear hbig; go_wp2_with fail
            go_ret2; rw [HE.out]; exact ⟨.inr ⟨by show (1 : Int) ≠ 0; decide, rfl⟩, HBW.out⟩
          have b4 : decide ((L : Int) > 4194304) = false := decide_eq_false hbig; have HE : Aside0 (newErr S ⟨f0, f1⟩ = 0) := ⟨by unfold newErr; rw [if_neg (by rw [← HR.out]; decide), if_neg (by rw [← HBH.out]; decide), if_neg (by show ¬ f1.length > 4194304; rw [← HL.out]; omega)]⟩; have HLB : Aside0 ((L : Int) ≤ 4194304) := ⟨by omega⟩; clear hbig; go_wp2_with fail
          clear b4 k1; have c3 := (blk_cell HM1.out.blk 3).trans rfl; have q0 := (blk_cell HBF1.out 0).trans rfl; obtain ⟨D6, hO6, hE6, hT6, hz6⟩ := (HM1.out.dir.same rfl : OwnE w1.drew md S.dir).tight HMid.out.inv.srtD; have hidl := HMid.out.lenD; have hN64 := HRB.out.2.2; rw [HN.out] at hN64; obtain ⟨w3, hst3, hO3, htu⟩ := World.ownsMap.store hO6 lawS Try.underlying82 (by unfold maxLen; omega) (key_of f0 HFO.out.1) (intElem_mk (wf_i64 (x := (i : Int)) (by omega) (by omega))); have HO3 : Aside0 (OwnE w3 md (with_ S.dir f0 (i : Int))) := ⟨⟨_, _, hO3, hE6.put hT6.isMap (i : Int)⟩⟩; have HK3 : Aside0 (KeptL (fun k => k = md) w1 w3) := ⟨(KeptL.refl (fun k => k = md) w1).drew.grown htu.grown (fun k e => by cases e; exact .inl rfl)⟩; clear hO6 hE6 hT6 hz6 hO3 htu hidl hN64; refine start_ (n := 8) (S := fun w' => w'.cell? ⟨d, 3, none⟩ = some (.map (some md)) ∧ w'.cell? ⟨B9, 0, none⟩ = some (.string f0)) (ds := [7]) (bm 8 0) (by kernel_rfl) rfl rfl ⟨c3, q0⟩ (fun hHeld => ?_); refine pure_ (i := 0) (N := some 49) (v:=?_) (a':=?_) (bm 8 1) rfl rfl (by kernel_rfl) (fun _ _ _ h => h) (Or.inl ⟨by rfl, ?_⟩) ?_ ?_; rotate_left
          · intro w'; go_simp; with_reducible rfl
          rotate_left
          · simp only [Act.put,s_a,s_b,s_c,i64_w,i32_w]; rfl
          refine pure_ (i := 1) (N := some 50) (v:=?_) (a':=?_) (bm 8 3) rfl rfl (by kernel_rfl) (fun _ _ _ h => h) (Or.inl ⟨by rfl, ?_⟩) ?_ ?_; rotate_left
          · intro w'; go_simp; with_reducible rfl
          rotate_left
          · simp only [Act.put,s_a,s_b,s_c,i64_w,i32_w]; rfl
          refine pure_ (i := 2) (N := some 51) (v:=?_) (a':=?_) (bm 8 7) rfl rfl (by kernel_rfl) (fun _ _ _ h => h) (Or.inl ⟨by rfl, ?_⟩) ?_ ?_; rotate_left
          · intro w'; go_simp; with_reducible rfl
          rotate_left
          · simp only [Act.put,s_a,s_b,s_c,i64_w,i32_w]; rfl
          refine pure_ (i := 4) (N := some 53) (v:=?_) (a':=?_) (bm 8 23) rfl rfl (by kernel_rfl) (fun _ _ _ h => h) (Or.inl ⟨by rfl, ?_⟩) ?_ ?_; rotate_left
          · intro w'; go_simp; with_reducible rfl
          rotate_left
          · simp only [Act.put,s_a,s_b,s_c,i64_w,i32_w]; rfl
          refine pure_ (i := 6) (N := some 55) (v:=?_) (a':=?_) (bm 8 87) rfl rfl (by kernel_rfl) (fun _ _ _ h => h) (Or.inl ⟨by rfl, ?_⟩) ?_ ?_; rotate_left
          · intro w'; go_simp; with_reducible rfl
          rotate_left
          · simp only [Act.put,s_a,s_b,s_c,i64_w,i32_w]; rfl
          refine take_ (i := 3) (N := some 52) (v:=?_) (a':=?_) (bm 8 95) rfl rfl (by kernel_rfl) (fun _ _ _ h => h) (Or.inl ⟨by rfl, ?_⟩) hHeld ?_ ?_; rotate_left
          · rintro w' ⟨s0, s1⟩; go_simp; with_reducible rfl
          rotate_left
          · simp only [Act.put,s_a,s_b,s_c,i64_w,i32_w]; rfl
          refine take_ (i := 5) (N := some 54) (v:=?_) (a':=?_) (bm 8 127) rfl rfl (by kernel_rfl) (fun _ _ _ h => h) (Or.inl ⟨by rfl, ?_⟩) hHeld ?_ ?_; rotate_left
          · rintro w' ⟨s0, s1⟩; go_simp; with_reducible rfl
          rotate_left
          · simp only [Act.put,s_a,s_b,s_c,i64_w,i32_w]; rfl
          refine last_ (i := 7) (N := none) (bm 8 255) rfl rfl (by kernel_rfl) (by decide) (fun K hK => ?_); refine skip_ (w1 := w3) (by rfl) rfl ?_ ?_
          · go_simp
            try rfl
          refine hK.out _ _ ?_; clear hK K; refine done_ (by kernel_rfl) ?_; clear hst3 c3 q0; go_wp2_with fail
          obtain ⟨Af, cf, hvf⟩ := Kd.R_slice HM1.out.own; rw [List.length_map] at hvf; subst hvf; have HND : Aside0 (md ≠ d ∧ md ≠ B9) := ⟨HM1.out.dir.ne HM1.out.blk, HM1.out.dir.ne HBF1.out⟩; have HBD3 := Aside0.mk ((HK3.out.block d (blk_lt HM1.out.blk) HND.out.1.symm).trans HM1.out.blk); have HBF3 := Aside0.mk ((HK3.out.block B9 (blk_lt HBF1.out) HND.out.2.symm).trans HBF1.out); have HOW3 : Aside0 (Kd.R kP 95 w3 0 (fun _ => True) (.slice Af fm.length cf) (fm.map (·.1))) := ⟨R_keepD rfl HM1.out.own (fun k hv => HK3.out.block k (Kd.R_lt HM1.out.own _ hv) (fun e => HM1.out.dir.ne_own HM1.out.own (by rw [hv, e])))⟩; have HBW3 : Aside0 (Below w.heap.size w w3) := ⟨HBW.out.trans (HK3.out.below HBW.out.size (fun b e => by rw [e, ← HS9.out.1]; exact Nat.le_refl _))⟩; have c2 := (blk_cell HBD3.out 2).trans rfl; have k1 := (blk_cell HBF3.out 1).trans rfl; have HFL : Aside0 (fm.length = i) := ⟨HM1.out.len.trans HMid.out.lenF⟩; refine start_ (n := 18) (S := fun w' => w'.cell? ⟨d, 2, none⟩ = some (.slice Af fm.length cf) ∧ w'.cell? ⟨B9, 1, none⟩ = some (.slice A1 L c1)) (ds := [14, 17]) (bm 18 0) (by kernel_rfl) rfl rfl ⟨c2, k1⟩ (fun hHeld => ?_); refine pure_ (i := 0) (N := some 56) (v:=?_) (a':=?_) (bm 18 1) rfl rfl (by kernel_rfl) (fun _ _ _ h => h) (Or.inl ⟨by rfl, ?_⟩) ?_ ?_; rotate_left
          · intro w'; go_simp; with_reducible rfl
          rotate_left
          · simp only [Act.put,s_a,s_b,s_c,i64_w,i32_w]; rfl
          refine pure_ (i := 1) (N := some 57) (v:=?_) (a':=?_) (bm 18 3) rfl rfl (by kernel_rfl) (fun _ _ _ h => h) (Or.inl ⟨by rfl, ?_⟩) ?_ ?_; rotate_left
          · intro w'; go_simp; with_reducible rfl
          rotate_left
          · simp only [Act.put,s_a,s_b,s_c,i64_w,i32_w]; rfl
          refine pure_ (i := 2) (N := some 58) (v:=?_) (a':=?_) (bm 18 7) rfl rfl (by kernel_rfl) (fun _ _ _ h => h) (Or.inl ⟨by rfl, ?_⟩) ?_ ?_; rotate_left
          · intro w'; go_simp; with_reducible rfl
          rotate_left
          · simp only [Act.put,s_a,s_b,s_c,i64_w,i32_w]; rfl
          refine pure_ (i := 3) (N := some 59) (v:=?_) (a':=?_) (bm 18 15) rfl rfl (by kernel_rfl) (fun _ _ _ h => h) (Or.inl ⟨by rfl, ?_⟩) ?_ ?_; rotate_left
          · intro w'; go_simp; with_reducible rfl
          rotate_left
          · simp only [Act.put,s_a,s_b,s_c,i64_w,i32_w]; rfl
          refine pure_ (i := 5) (N := some 61) (v:=?_) (a':=?_) (bm 18 47) rfl rfl (by kernel_rfl) (fun _ _ _ h => h) (Or.inl ⟨by rfl, ?_⟩) ?_ ?_; rotate_left
          · intro w'; go_simp; with_reducible rfl
          rotate_left
          · simp only [Act.put,s_a,s_b,s_c,i64_w,i32_w]; rfl
          refine pure_ (i := 8) (N := some 64) (v:=?_) (a':=?_) (bm 18 303) rfl rfl (by kernel_rfl) (fun _ _ _ h => h) (Or.inl ⟨by rfl, ?_⟩) ?_ ?_; rotate_left
          · intro w'; go_simp; with_reducible rfl
          rotate_left
          · simp only [Act.put,s_a,s_b,s_c,i64_w,i32_w]; rfl
          refine take_ (i := 4) (N := some 60) (v:=?_) (a':=?_) (bm 18 319) rfl rfl (by kernel_rfl) (fun _ _ _ h => h) (Or.inl ⟨by rfl, ?_⟩) hHeld ?_ ?_; rotate_left
          · rintro w' ⟨s0, s1⟩; go_simp; with_reducible rfl
          rotate_left
          · simp only [Act.put,s_a,s_b,s_c,i64_w,i32_w]; rfl
          refine take_ (i := 6) (N := some 62) (v:=?_) (a':=?_) (bm 18 383) rfl rfl (by kernel_rfl) (fun _ _ _ h => h) (Or.inl ⟨by rfl, ?_⟩) hHeld ?_ ?_; rotate_left
          · rintro w' ⟨s0, s1⟩; go_simp; with_reducible rfl
          rotate_left
          · simp only [Act.put,s_a,s_b,s_c,i64_w,i32_w]; rfl
          refine take_ (i := 9) (N := some 65) (v:=?_) (a':=?_) (bm 18 895) rfl rfl (by kernel_rfl) (fun _ _ _ h => h) (Or.inl ⟨by rfl, ?_⟩) hHeld ?_ ?_; rotate_left
          · rintro w' ⟨s0, s1⟩; go_simp; with_reducible rfl
          rotate_left
          · simp only [Act.put,s_a,s_b,s_c,i64_w,i32_w]; rfl
          refine pure_ (i := 10) (N := some 66) (v:=?_) (a':=?_) (bm 18 1919) rfl rfl (by kernel_rfl) (fun _ _ _ h => h) (Or.inl ⟨by rfl, ?_⟩) ?_ ?_; rotate_left
          · intro w'; go_simp; with_reducible rfl
          rotate_left
          · simp only [Act.put,s_a,s_b,s_c,i64_w,i32_w]; rfl
          refine one_ (i := 7) (N := some 63) (bm 18 2047) rfl rfl (by kernel_rfl) (by decide) (fun K hK => ?_); refine goes_ Try.func52 (by kernel_rfl) rfl #[.slice A1 L c1] (by rfl) rfl rfl (by simp only [List.map_toArray, List.map_cons, List.map_nil]; rfl) ?_; with_reducible refine (clone_C (w := w3.drew) (Kd.C_below HG1.out.2 (below_drew1 HBW3.out)) HG1.out.1 (by have := HLB.out; omega)).mono ?_
          rintro e w4 ⟨v4, rfl, hr4, hb4⟩; obtain ⟨A4, c4, hv4⟩ := Kd.R_slice hr4; rw [← HL.out] at hv4; subst hv4; have HR4 := Aside0.mk hr4; have HB4 := Aside0.mk hb4; clear hr4 hb4; refine ⟨_, rfl, ?_⟩; refine hK.out _ _ ⟨pw_cell_below HB4.out hHeld.1, pw_cell_below HB4.out hHeld.2⟩ (fun hHeld => ?_); clear hK K; refine norm_ (a' := ?_) ?_ ?_; rotate_left
          · show Act.put _ (some 63) _ = _; simp only [Act.put,s_a,s_b,s_c,i64_w,i32_w]; rfl
          refine pure_ (i := 11) (N := some 67) (v:=?_) (a':=?_) (bm 18 4095) rfl rfl (by kernel_rfl) (fun _ _ _ h => h) (Or.inl ⟨by rfl, ?_⟩) ?_ ?_; rotate_left
          · intro w'; go_simp; with_reducible rfl
          rotate_left
          · simp only [Act.put,s_a,s_b,s_c,i64_w,i32_w]; rfl
          refine one_ (i := 12) (N := some 68) (bm 18 8191) rfl rfl (by kernel_rfl) (by decide) (fun K hK => ?_); refine value_ (w1 := w4.alloc (.cells #[.slice A4 L c4, .int .i64 (L : Int)] 97)) (v := .pointer (some ⟨w4.heap.size, 0, none⟩)) (by rfl) rfl ?_ ?_
          · go_simp
            try rfl
          refine hK.out _ _ ⟨pw_cell_below (below_alloc (Below.refl _ _) _) hHeld.1, pw_cell_below (below_alloc (Below.refl _ _) _) hHeld.2⟩ (fun hHeld => ?_); clear hK K; refine norm_ (a' := ?_) ?_ ?_; rotate_left
          · show Act.put _ (some 68) _ = _; simp only [Act.put,s_a,s_b,s_c,i64_w,i32_w]; rfl
          refine one_ (i := 13) (N := some 69) (bm 18 16383) rfl rfl (by kernel_rfl) (by decide) (fun K hK => ?_); refine value_ (w1 := (w4.alloc (.cells #[.slice A4 L c4, .int .i64 (L : Int)] 97)).alloc (.cells #[.pointer (some ⟨w4.heap.size, 0, none⟩)] 95)) (v := .slice (some ⟨(w4.alloc (.cells #[.slice A4 L c4, .int .i64 (L : Int)] 97)).heap.size, 0, none⟩) 1 1) (by rfl) rfl ?_ ?_
          · go_simp
            try rfl
          refine hK.out _ _ ⟨pw_cell_below (below_alloc (Below.refl _ _) _) hHeld.1, pw_cell_below (below_alloc (Below.refl _ _) _) hHeld.2⟩ (fun hHeld => ?_); clear hK K; refine norm_ (a' := ?_) ?_ ?_; rotate_left
          · show Act.put _ (some 69) _ = _; simp only [Act.put,s_a,s_b,s_c,i64_w,i32_w]; rfl
          refine last_ (i := 14) (N := some 70) (bm 18 32767) rfl rfl (by kernel_rfl) (by decide) (fun K hK => ?_); have HBX : Aside0 (Below w3.heap.size w3 (w4.alloc (.cells #[.slice A4 L c4, .int .i64 (L : Int)] 97))) := ⟨below_alloc (below_step (below_drew1 (Below.refl _ _)) HB4.out) _⟩; have BD4 := Aside0.mk (blk_below HBD3.out HBX.out); have BF4 := Aside0.mk (blk_below HBF3.out HBX.out); have BN4 : Aside0 ((w4.alloc (.cells #[.slice A4 L c4, .int .i64 (L : Int)] 97)).heap[w4.heap.size]? = some (.cells #[.slice A4 L c4, .int .i64 (L : Int)] 97 (0, 0))) := ⟨blk_new _ _⟩; have HO4 := Aside0.mk (Kd.R_below HOW3.out HBX.out); refine Kd.R_append_step kP (w0 := w4.alloc (.cells #[.slice A4 L c4, .int .i64 (L : Int)] 97)) (W := w4.alloc (.cells #[.slice A4 L c4, .int .i64 (L : Int)] 97)) 0 (by rfl) (.tmp 60) (.tmp 69) 84 95 (.pointer none) 8 (by rfl) Try.underlying84 infoP rfl (by decide) (by decide) (.slice Af fm.length cf) (fm.map (·.1)) w4.heap.size [.pointer (some ⟨w4.heap.size, 0, none⟩)] (fun _ => True) (fun _ => False) (by rfl) (by rfl) (by rfl) (fun k hk => hk.elim) (fun _ _ => trivial) HO4.out (Below.refl _ _) (Nat.zero_le _) (by rw [List.length_map, HFL.out]; omega) ?_; intro v8 w8 ho hb hg hat; obtain ⟨A8, c8, hv8⟩ := Kd.R_slice ho; obtain ⟨n8, hn8⟩ : ∃ n8, n8 = (fm.map (·.1) ++ [w4.heap.size]).length := ⟨_, rfl⟩; rw [← hn8] at hv8; clear hn8; subst hv8; have HO8 := Aside0.mk ho; have HAT := Aside0.mk hat; have HG8 := Aside0.mk hg; have BD8 := Aside0.mk (blk_grown BD4.out hg (fun e => Kd.R_ne HO4.out BD4.out (by decide) e)); have BF8 := Aside0.mk (blk_grown BF4.out hg (fun e => Kd.R_ne HO4.out BF4.out (by decide) e)); have BN8 := Aside0.mk (blk_grown BN4.out hg (fun e => Kd.R_ne HO4.out BN4.out (by decide) e)); have x2 := (blk_cell BD8.out 2).trans rfl; have xz2 := blk_frozen BD8.out 2; clear ho hb hg hat; refine hK.out _ _ ?_; clear hK K; refine norm_ (a' := ?_) ?_ ?_; rotate_left
          · show Act.put _ (some 70) _ = _; simp only [Act.put,s_a,s_b,s_c,i64_w,i32_w]; rfl
          refine pure_ (i := 15) (N := some 71) (v:=?_) (a':=?_) (bm 18 65535) rfl rfl (by kernel_rfl) (fun _ _ _ h => h) (Or.inl ⟨by rfl, ?_⟩) ?_ ?_; rotate_left
          · intro w'; go_simp; with_reducible rfl
          rotate_left
          · simp only [Act.put,s_a,s_b,s_c,i64_w,i32_w]; rfl
          refine pure_ (i := 16) (N := some 72) (v:=?_) (a':=?_) (bm 18 131071) rfl rfl (by kernel_rfl) (fun _ _ _ h => h) (Or.inl ⟨by rfl, ?_⟩) ?_ ?_; rotate_left
          · intro w'; go_simp; with_reducible rfl
          rotate_left
          · simp only [Act.put,s_a,s_b,s_c,i64_w,i32_w]; rfl
          refine last_ (i := 17) (N := none) (bm 18 262143) rfl rfl (by kernel_rfl) (by decide) (fun K hK => ?_); refine skip_ (w1 := w8.setCell ⟨d, 2, none⟩ (.slice A8 n8 c8)) (by rfl) rfl ?_ ?_
          · go_simp
            try rfl
          refine hK.out _ _ ?_; clear hK K; refine done_ (by kernel_rfl) ?_; have HNB : Aside0 (d ≠ B9 ∧ d ≠ w4.heap.size) := ⟨blk_ne HBD3.out HBF3.out (by decide), by have h1 := blk_lt HBD3.out; have h2 := (below_step (below_drew1 (Below.refl w3.heap.size w3)) HB4.out).size; omega⟩; obtain ⟨w9, hw9⟩ : ∃ w9, w9 = w8.setCell ⟨d, 2, none⟩ (.slice A8 n8 c8) := ⟨_, rfl⟩; have BD9 : Aside0 (w9.heap[d]? = some (.cells #[.int .i64 S.room, .int .i64 (used S), .slice A8 n8 c8, .map (some md), .map none, .slice none 0 0, .int .i64 0, .int .i64 0, .bool false] 87 (0, 0))) := ⟨by rw [hw9]; exact blkD_put BD8.out 2 _ rfl⟩; have BF9 : Aside0 (w9.heap[B9]? = some (.cells #[.string f0, .slice A1 L c1] 65 (0, 0))) := ⟨by rw [hw9]; exact blk_far BF8.out (p := ⟨d, 2, none⟩) HNB.out.1.symm _⟩; have BN9 : Aside0 (w9.heap[w4.heap.size]? = some (.cells #[.slice A4 L c4, .int .i64 (L : Int)] 97 (0, 0))) := ⟨by rw [hw9]; exact blk_far BN8.out (p := ⟨d, 2, none⟩) HNB.out.2.symm _⟩; have HK9 : Aside0 (KeptL (fun k => k = d ∨ (Value.slice Af fm.length cf).ownBlock = some k) w4 w9) := ⟨by rw [hw9]; exact (KeptL.grown (S := fun k => k = d ∨ (Value.slice Af fm.length cf).ownBlock = some k) ((KeptL.refl _ w4).alloc (.cells #[.slice A4 L c4, .int .i64 (L : Int)] 97)) HG8.out (fun k e => .inl (.inr e))).setCell ⟨d, 2, none⟩ _ (.inl (.inl rfl))⟩
          have HO9 : Aside0 (Kd.R kP 95 w9 0 (fun _ => True) (.slice A8 n8 c8) (fm.map (·.1) ++ [w4.heap.size])) := ⟨R_keepD rfl HO8.out (fun k hv => by
            rw [hw9]; exact ((KeptL.refl (fun k => k = d) w8).setCell ⟨d, 2, none⟩ (.slice A8 n8 c8) (.inl rfl)).block k (Kd.R_lt HO8.out _ hv) (fun e => Kd.R_ne HO8.out BD8.out (by decide) (by rw [hv, e])))⟩
          have HA9 : Aside0 ((Value.slice A8 n8 c8).ownBlock = (Value.slice Af fm.length cf).ownBlock ∨ ∃ b, (Value.slice A8 n8 c8).ownBlock = some b ∧ w4.heap.size ≤ b) := ⟨by
            rcases HAT.out with h | ⟨b, h1, h2⟩
            · exact .inl h
            · exact .inr ⟨b, h1, by rw [World.size_alloc] at h2; omega⟩⟩
          rw [← hw9]; clear hw9 x2 xz2 HG8 HAT BD8 BF8 BN8 HO8; have d1 := (blk_cell BD9.out 1).trans rfl; have z1 := blk_frozen BD9.out 1; have k1 := (blk_cell BF9.out 1).trans rfl; go_wp2_with fail
          refine start_ (n := 11) (S := fun w' => w'.cell? ⟨d, 1, none⟩ = some (.int .i64 (used S)) ∧ w'.cell? ⟨B9, 1, none⟩ = some (.slice A1 L c1)) (ds := [10]) (bm 11 0) (by kernel_rfl) rfl rfl ⟨d1, k1⟩ (fun hHeld => ?_); refine pure_ (i := 0) (N := some 73) (v:=?_) (a':=?_) (bm 11 1) rfl rfl (by kernel_rfl) (fun _ _ _ h => h) (Or.inl ⟨by rfl, ?_⟩) ?_ ?_; rotate_left
          · intro w'; go_simp; with_reducible rfl
          rotate_left
          · simp only [Act.put,s_a,s_b,s_c,i64_w,i32_w]; rfl
          refine pure_ (i := 1) (N := some 74) (v:=?_) (a':=?_) (bm 11 3) rfl rfl (by kernel_rfl) (fun _ _ _ h => h) (Or.inl ⟨by rfl, ?_⟩) ?_ ?_; rotate_left
          · intro w'; go_simp; with_reducible rfl
          rotate_left
          · simp only [Act.put,s_a,s_b,s_c,i64_w,i32_w]; rfl
          refine pure_ (i := 2) (N := some 75) (v:=?_) (a':=?_) (bm 11 7) rfl rfl (by kernel_rfl) (fun _ _ _ h => h) (Or.inl ⟨by rfl, ?_⟩) ?_ ?_; rotate_left
          · intro w'; go_simp; with_reducible rfl
          rotate_left
          · simp only [Act.put,s_a,s_b,s_c,i64_w,i32_w]; rfl
          refine pure_ (i := 4) (N := some 77) (v:=?_) (a':=?_) (bm 11 23) rfl rfl (by kernel_rfl) (fun _ _ _ h => h) (Or.inl ⟨by rfl, ?_⟩) ?_ ?_; rotate_left
          · intro w'; go_simp; with_reducible rfl
          rotate_left
          · simp only [Act.put,s_a,s_b,s_c,i64_w,i32_w]; rfl
          refine take_ (i := 3) (N := some 76) (v:=?_) (a':=?_) (bm 11 31) rfl rfl (by kernel_rfl) (fun _ _ _ h => h) (Or.inl ⟨by rfl, ?_⟩) hHeld ?_ ?_; rotate_left
          · rintro w' ⟨s0, s1⟩; go_simp; with_reducible rfl
          rotate_left
          · simp only [Act.put,s_a,s_b,s_c,i64_w,i32_w]; rfl
          refine take_ (i := 5) (N := some 78) (v:=?_) (a':=?_) (bm 11 63) rfl rfl (by kernel_rfl) (fun _ _ _ h => h) (Or.inl ⟨by rfl, ?_⟩) hHeld ?_ ?_; rotate_left
          · rintro w' ⟨s0, s1⟩; go_simp; with_reducible rfl
          rotate_left
          · simp only [Act.put,s_a,s_b,s_c,i64_w,i32_w]; rfl
          refine pure_ (i := 6) (N := some 79) (v:=?_) (a':=?_) (bm 11 127) rfl rfl (by kernel_rfl) (fun _ _ _ h => h) (Or.inl ⟨by rfl, ?_⟩) ?_ ?_; rotate_left
          · intro w'; go_simp; with_reducible rfl
          rotate_left
          · simp only [Act.put,s_a,s_b,s_c,i64_w,i32_w]; rfl
          refine pure_ (i := 7) (N := some 80) (v:=?_) (a':=?_) (bm 11 255) rfl rfl (by kernel_rfl) (fun _ _ _ h => h) (Or.inl ⟨by rfl, ?_⟩) ?_ ?_; rotate_left
          · intro w'; go_simp; with_reducible rfl
          rotate_left
          · simp only [Act.put,s_a,s_b,s_c,i64_w,i32_w]; rfl
          refine pure_ (i := 8) (N := some 81) (v:=?_) (a':=?_) (bm 11 511) rfl rfl (by kernel_rfl) (fun _ _ _ h => h) (Or.inl ⟨by rfl, ?_⟩) ?_ ?_; rotate_left
          · intro w'; go_simp; with_reducible rfl
          rotate_left
          · simp only [Act.put,s_a,s_b,s_c,i64_w,i32_w]; rfl
          refine pure_ (i := 9) (N := some 82) (v:=?_) (a':=?_) (bm 11 1023) rfl rfl (by kernel_rfl) (fun _ _ _ h => h) (Or.inl ⟨by rfl, ?_⟩) ?_ ?_; rotate_left
          · intro w'; go_simp; with_reducible rfl
          rotate_left
          · simp only [Act.put,s_a,s_b,s_c,i64_w,i32_w]; rfl
          refine last_ (i := 10) (N := none) (bm 11 2047) rfl rfl (by kernel_rfl) (by decide) (fun K hK => ?_); refine skip_ (w1 := w9.drew.setCell ⟨d, 1, none⟩ (.int .i64 (wrap64 (used S + (L : Int))))) (by rfl) rfl ?_ ?_
          · go_simp
            try rfl
          refine hK.out _ _ ?_; clear hK K; refine done_ (by kernel_rfl) ?_; have hns : has S.dir f0 = none := by have := HBH.out; simpa using this.symm
          have hua := HMid.out.used_add (f := ⟨f0, f1⟩) hns; have hub := HMid.out.usedB; have hLf : (f1.length : Int) = L := by rw [← HL.out]
          have hw : wrap64 (used S + (L : Int)) = used (newAdd S ⟨f0, f1⟩) := by have h1 := HLB.out; rw [hua, w64L (by omega) (by omega)]; show used S + (L : Int) = used S + (f1.length : Int); omega
          rw [hw]; obtain ⟨w10, hw10⟩ : ∃ w10, w10 = w9.drew.setCell ⟨d, 1, none⟩ (.int .i64 (used (newAdd S ⟨f0, f1⟩))) := ⟨_, rfl⟩; have hk10 : KeptL (fun k => k = d) w9 w10 := by rw [hw10]; exact (KeptL.refl (fun k => k = d) w9).drew.setCell ⟨d, 1, none⟩ _ (.inl rfl)
          have hd10 : w10.heap[d]? = some (.cells #[.int .i64 S.room, .int .i64 (used (newAdd S ⟨f0, f1⟩)), .slice A8 n8 c8, .map (some md), .map none, .slice none 0 0, .int .i64 0, .int .i64 0, .bool false] 87 (0, 0)) := by rw [hw10]; exact blkD_put (blk_drew BD9.out) 1 _ rfl
          have hkW : KeptL (fun k => k = d ∨ (Value.slice Af fm.length cf).ownBlock = some k) w4 w10 := HK9.out.trans (hk10.mono (fun k e => .inl e)); have hkB : KeptL (fun k => k = d ∨ (Value.slice Af fm.length cf).ownBlock = some k) w3 w10 := (KeptL.of_below (below_step (below_drew1 (Below.refl _ _)) HB4.out)).trans hkW; have hkA : KeptL (fun k => k = d ∨ k = md ∨ (Value.slice Af fm.length cf).ownBlock = some k) w1 w10 := (HK3.out.mono (fun k e => .inr (.inl e))).trans (hkB.mono (fun k e => e.elim .inl (fun h => .inr (.inr h)))); have hs13 : w1.heap.size ≤ w3.heap.size := HK3.out.size; have hs34 : w3.heap.size ≤ w4.heap.size := (below_step (below_drew1 (Below.refl w3.heap.size w3)) HB4.out).size; have hvn : ∀ k, (Value.slice A4 L c4).ownBlock = some k → w3.heap.size ≤ k := fun k hv => ((Kd.R_bound HR4.out).1 k hv).2.1; have hdl := blk_lt HM1.out.blk
          have hn10 : FileAt w10 (w4.heap.size, .slice A4 L c4) (f1, (f1.length : Int)) := ⟨by
            rw [hLf]
            exact (hk10.block _ (blk_lt BN9.out) (fun e => HNB.out.2 e.symm)).trans BN9.out, R_keepD rfl (Kd.R_lower HR4.out (Nat.zero_le _)) (fun k hv => hkW.block k (Kd.R_lt HR4.out _ hv) (fun hh => by
              have h1 := hvn k hv; rcases hh with hh | hh
              · omega
              · have h2 := Kd.R_lt HM1.out.own _ hh; omega))⟩
          have hc10 : Kd.R kP 95 w10 0 (fun _ => True) (.slice A8 n8 c8) (fm.map (·.1) ++ [w4.heap.size]) := R_keepD rfl HO9.out (fun k hv => hk10.block k (Kd.R_lt HO9.out _ hv) (fun e => Kd.R_ne HO9.out BD9.out (by decide) (by rw [hv, e])))
          have hO10 : OwnE w10 md (newAdd S ⟨f0, f1⟩).dir := by
            show OwnE w10 md (with_ S.dir f0 (S.files.length : Int)); rw [HMid.out.lenF]
            exact HO3.out.same (hkB.block md HO3.out.lt (fun hh => by
              rcases hh with hh | hh
              · exact HND.out.1 hh
              · exact HO3.out.ne_own HOW3.out hh))
          have hv10 : (Value.slice A8 n8 c8).ownBlock = (Value.slice Af fm.length cf).ownBlock ∨ ∃ b, (Value.slice A8 n8 c8).ownBlock = some b ∧ w1.heap.size ≤ b := by
            rcases HA9.out with h | ⟨b, h1, h2⟩
            · exact .inl h
            · exact .inr ⟨b, h1, by omega⟩
          have hstep := HM1.out.step (S' := newAdd S ⟨f0, f1⟩) hkA hd10 hn10 (by omega) (fun k hv => Nat.le_trans hs13 (hvn k hv)) hc10 hv10 hO10 rfl; have hmid := HMid.out.add (by have h1 := HRB.out.2.2; rw [HN.out] at h1; omega) HFO.out HE.out
          have hB10 : Below w.heap.size w w10 := HBW.out.trans (hkA.below HBW.out.size (fun b hb => by
            obtain ⟨f1, f2, f3, f4⟩ := HM1.out.foot; rcases hb with hb | hb | hb
            · omega
            · omega
            · exact f3 b hb))
          have HNX : Aside0 (∃ S vf fm, NewM w10 w.heap.size d S md vf fm ∧ Mid room S (i + 1) ∧ newGo (ds0 room) fs = newGo S (fs.drop (i + 1)) ∧ Below w.heap.size w w10) := ⟨_, _, _, hstep, hmid, HST.out.2 HE.out, hB10⟩; rw [← hw10]; clear hstep hmid hB10 hv10 hO10 hc10 hn10 hdl hvn hs34 hs13 hkA hkB hkW hd10 hk10 hw10 hw hLf hub hua hns d1 z1 k1; go_wp2_with fail
          go_roundw
          case rel => exact ⟨i + 1, by omega, by go_num, HNX⟩
          case measure => simp [intOf]; omega
    · have hiN : i = N := by omega
      subst hiN; have HGN : Aside0 (newGo (ds0 room) fs = (S, 0)) := ⟨by rw [HGO.out, List.drop_eq_nil_of_le (by rw [HN.out]; exact Nat.le_refl _)]; rfl⟩; have c1 := (blk_cell HM.out.blk 1).trans rfl; clear hM hMid hgo hBr; by_cases hu : used S > room
      · have b1 : decide (used S > room) = true := decide_eq_true hu
        have HE : Aside0 (newOf room fs = (S, 5)) := ⟨by
          rw [HOP.out, HGN.out]; unfold newEnd; rw [if_neg (by show ¬ (0 : Int) ≠ 0; decide), if_pos (by rw [HMid.out.e6]; exact hu)]⟩
        clear hu; go_wp2_with fail
        go_ret2; rw [HE.out]; exact ⟨.inr ⟨by show (5 : Int) ≠ 0; decide, rfl⟩, HBR.out⟩
      · have b1 : decide (used S > room) = false := decide_eq_false hu
        have HE : Aside0 (newOf room fs = ({ S with safe := S.dir }, 0)) := ⟨by
          rw [HOP.out, HGN.out]; unfold newEnd; rw [if_neg (by show ¬ (0 : Int) ≠ 0; decide), if_neg (by rw [HMid.out.e6]; exact hu)]⟩
        have c3 := (blk_cell HM.out.blk 3).trans rfl; clear hu; go_wp2_with fail
        refine (maps_Clone.calls HM.out.dir).mono ?_; rintro x w5 ⟨rfl, hm5, hb5⟩; have BD5 := Aside0.mk (blk_below HM.out.blk hb5); have c4 := (blk_cell BD5.out 4).trans rfl; have z4 := blk_frozen BD5.out 4; have HM5 := Aside0.mk (And.intro hm5 hb5); clear hm5 hb5 c1 c3; go_wp2_with fail
        go_ret2; rw [HE.out]; have hk5 : KeptL (fun k => k = d) wr (w5.setCell ⟨d, 4, none⟩ (.map (some wr.heap.size))) := (KeptL.of_below HM5.out.2).setCell ⟨d, 4, none⟩ _ (.inl rfl); have hdl := blk_lt HM.out.blk; refine ⟨.inl ⟨rfl, d, rfl, ?_⟩, HBR.out.trans (hk5.below HBR.out.size (fun b e => by rw [e]; exact HM.out.foot.1))⟩; exact HM.out.done HMid.out hk5 (blkD_put BD5.out 4 _ rfl) (HM5.out.1.same (Below.heap_setCell _ ⟨d, 4, none⟩ _ _ (by show wr.heap.size ≠ d; omega))) (Nat.le_refl _)
end Go.Proofs.Ytdekcjopgnfmdaa.Hand
namespace Go.Proofs.Ytdekcjopgnfmdaa.Hand
open Go.RowKit Go.Maps Go.Proofs.YtdekcjopgnfmdaaW.PrintWords Go.Proofs.YtdekcjopgnfmdaaW.PrintLast Go.Proofs.YtdekcjopgnfmdaaW.PrintMore Go.Proofs.Ytdekcjopgnfmdaa.Q
set_option linter.unusedVariables false
set_option linter.unusedSimpArgs false
/-- The disk at d, all of whose blocks were made behind w. -/
def OwnD (w wr : World) (d : Nat) (S : DS) : Prop := ∃ F : Nat → Prop, DskAt wr F d S ∧ (∀ k, F k → w.heap.size ≤ k) ∧ Below w.heap.size w wr
theorem OwnD.step {w wr w' : World} {F : Nat → Prop} {d : Nat} {S : DS} (hF : ∀ k, F k → w.heap.size ≤ k) (hB : Below w.heap.size w wr) (h : DskAt w' (grow F wr w') d S) (hk : KeptL F wr w') : OwnD w w' d S :=
  ⟨_, h, fun k hh => by
    rcases hh with hh | hh
    · exact hF k hh
    · exact Nat.le_trans hB.size hh.1, hB.trans (hk.below hB.size hF)⟩
theorem OwnD.tell {w wr w' : World} {d : Nat} {S : DS} (h : OwnD w wr d S) (hb : Below wr.heap.size wr w') : OwnD w w' d S := by
  obtain ⟨F, h1, h2, h3⟩ := h; exact ⟨F, h1.below hb, h2, below_step h3 hb⟩
theorem OwnD.below {w wr : World} {d : Nat} {S : DS} (h : OwnD w wr d S) : Below w.heap.size w wr := by
  obtain ⟨F, h1, h2, h3⟩ := h; exact h3
theorem OwnD.inv {w wr : World} {d : Nat} {S : DS} (h : OwnD w wr d S) : Inv S := by
  obtain ⟨F, h1, h2, h3⟩ := h; exact h1.1
theorem disk_New.own (room : Int) (hr : room ≤ 9223372036854775807) (A : Option Addr) (c : Nat) (fs : List FilD) (w : World) (hC : Kd.C kF w A fs.length fs) (hc : fs.length ≤ c) (hok : ∀ f, f ∈ fs → FilOk f) :
    Calls Try.prog 19 #[.slice A fs.length c, .int .i64 room] w fun e w' => Below w.heap.size w w' ∧ (((newOf room fs).2 = 0 ∧ ∃ d, e = .returned (.tuple #[.pointer (some ⟨d, 0, none⟩), .int .i64 0]) ∧ OwnD w w' d (newOf room fs).1) ∨ ((newOf room fs).2 ≠ 0 ∧ e = .returned (.tuple #[.pointer none, .int .i64 (newOf room fs).2]))) := by
  refine (disk_New.calls room hr A c fs w hC hc hok).mono ?_; rintro e w' ⟨⟨h0, d, rfl, h1⟩ | ⟨h0, rfl⟩, hb⟩
  · exact ⟨hb, .inl ⟨h0, d, rfl, _, h1, fun k hk => hk.1, hb⟩⟩
  · exact ⟨hb, .inr ⟨h0, rfl⟩⟩
theorem disk_Create.own {w wr : World} {d : Nat} {S : DS} (h : OwnD w wr d S) (n : ByteArray) (hn : n.size ≤ 9223372036854775807) :
    Calls Try.prog 38 #[.pointer (some ⟨d, 0, none⟩), .string n] wr fun e w' => e = .returned (.int .i64 (opCreate S n).2) ∧ OwnD w w' d (opCreate S n).1 := by
  obtain ⟨F, h1, h2, h3⟩ := h; refine (disk_Create.calls h1 n hn).mono ?_; rintro e w' ⟨rfl, h4, hk⟩; exact ⟨rfl, OwnD.step h2 h3 h4 hk⟩
theorem disk_Sync.own {w wr : World} {d : Nat} {S : DS} (h : OwnD w wr d S) (n : ByteArray) (hn : n.size ≤ 9223372036854775807) :
    Calls Try.prog 32 #[.pointer (some ⟨d, 0, none⟩), .string n] wr fun e w' => e = .returned (.int .i64 (opSync S n).2) ∧ OwnD w w' d (opSync S n).1 := by
  obtain ⟨F, h1, h2, h3⟩ := h; refine (disk_Sync.calls h1 n hn).mono ?_; rintro e w' ⟨rfl, h4, hk⟩; exact ⟨rfl, OwnD.step h2 h3 h4 hk⟩
theorem disk_SyncDir.own {w wr : World} {d : Nat} {S : DS} (h : OwnD w wr d S) :
    Calls Try.prog 29 #[.pointer (some ⟨d, 0, none⟩)] wr fun e w' => e = .returned (.int .i64 (opSyncDir S).2) ∧ OwnD w w' d (opSyncDir S).1 := by
  obtain ⟨F, h1, h2, h3⟩ := h; refine (disk_SyncDir.calls h1).mono ?_; rintro e w' ⟨rfl, h4, hk⟩; exact ⟨rfl, OwnD.step h2 h3 h4 hk⟩
/-- Append: the bytes lie below w, or were made behind wr. -/
theorem disk_Append.own {w w0 wr : World} {d : Nat} {S : DS} (h : OwnD w w0 d S) (hb0 : Below w0.heap.size w0 wr) (n : ByteArray) (hn : n.size ≤ 9223372036854775807) (A : Option Addr) (c : Nat) (p : List Int) (hC : Kd.C kB wr A p.length p) (hpb : ∀ x, x ∈ p → 0 ≤ x ∧ x ≤ 255) (hpl : (p.length : Int) ≤ 1073741824) (hnf : ∀ ad, A = some ad → 0 < p.length → ad.block < w.heap.size ∨ w0.heap.size ≤ ad.block) :
    Calls Try.prog 39 #[.pointer (some ⟨d, 0, none⟩), .string n, .slice A p.length c] wr fun e w' => e = .returned (.int .i64 (opAppend S n p).2) ∧ OwnD w w' d (opAppend S n p).1 := by
  obtain ⟨F, h1, h2, h3⟩ := h; refine (disk_Append.calls (h1.below hb0) n hn A c p hC hpb hpl (fun ad e hp hF => ?_)).mono ?_
  · have h4 := h2 _ hF; have h5 := h1.lt _ hF; rcases hnf ad e hp with h6 | h6 <;> omega
  · rintro e w' ⟨rfl, h4, hk⟩; exact ⟨rfl, OwnD.step h2 (below_step h3 hb0) h4 hk⟩
theorem disk_Count.own {w wr : World} {d : Nat} {S : DS} (h : OwnD w wr d S) : Calls Try.prog 21 #[.pointer (some ⟨d, 0, none⟩)] wr fun e w' => e = .returned (.int .i64 S.ops) ∧ w' = wr := by
  obtain ⟨F, h1, h2, h3⟩ := h; exact disk_Count.calls h1
theorem disk_Dead.own {w wr : World} {d : Nat} {S : DS} (h : OwnD w wr d S) : Calls Try.prog 22 #[.pointer (some ⟨d, 0, none⟩)] wr fun e w' => e = .returned (.bool S.dead) ∧ w' = wr := by
  obtain ⟨F, h1, h2, h3⟩ := h; exact disk_Dead.calls h1
theorem disk_Durable.own {w wr : World} {d : Nat} {S : DS} (h : OwnD w wr d S) :
    Calls Try.prog 25 #[.pointer (some ⟨d, 0, none⟩)] wr fun e w' => ∃ v, e = .returned v ∧ Kd.R kF 65 w' wr.heap.size (fun _ => True) v ((leftOf S 0 []).map mkF) ∧ Below wr.heap.size wr w' ∧ OwnD w w' d S := by
  have hh := h; obtain ⟨F, h1, h2, h3⟩ := h; refine (disk_Durable.calls h1).mono ?_; rintro e w' ⟨v, rfl, h4, hb⟩; exact ⟨v, rfl, h4, hb, hh.tell hb⟩
theorem disk_Left.own {w wr : World} {d : Nat} {S : DS} (h : OwnD w wr d S) (dN : Int) (hdN : -9223372036854775808 ≤ dN ∧ dN ≤ 9223372036854775807) (At : Option Addr) (ct : Nat) (ts : List Int) (hCt : Kd.C (Kd.int .i64) wr At ts.length ts) (hct : ts.length ≤ ct) (hts : ∀ x, x ∈ ts → -9223372036854775808 ≤ x ∧ x ≤ 9223372036854775807) :
    Calls Try.prog 17 #[.pointer (some ⟨d, 0, none⟩), .agg #[.int .i64 dN, .slice At ts.length ct]] wr fun e w' => ∃ v, e = .returned v ∧ Kd.R kF 65 w' wr.heap.size (fun _ => True) v ((leftOf S dN ts).map mkF) ∧ Below wr.heap.size wr w' ∧ OwnD w w' d S := by
  have hh := h; obtain ⟨F, h1, h2, h3⟩ := h; refine (disk_Left.calls h1 dN hdN At ct ts hCt hct hts).mono ?_; rintro e w' ⟨v, rfl, h4, hb⟩; exact ⟨v, rfl, h4, hb, hh.tell hb⟩
end Go.Proofs.Ytdekcjopgnfmdaa.Hand
namespace Go.Proofs.Ytdekcjopgnfmdaa.Hand
open Go.RowKit Go.Maps Go.Proofs.YtdekcjopgnfmdaaW.PrintWords Go.Proofs.YtdekcjopgnfmdaaW.PrintLast Go.Proofs.YtdekcjopgnfmdaaW.PrintMore Go.Proofs.Ytdekcjopgnfmdaa.Q
set_option linter.unusedVariables false
set_option linter.unusedSimpArgs false
def nA : ByteArray := ⟨#[97]⟩
def lv0 : DS := (newOf 100 []).1
def lv1 : DS := (opCreate lv0 nA).1
def lv2 : DS := (opAppend lv1 nA [120, 121]).1
def lv3 : DS := (opSync lv2 nA).1
def lv4 : DS := (opSyncDir lv3).1
def lv5 : DS := (opAppend lv4 nA [122]).1
theorem lv_0 : (newOf 100 []).2 = 0 := by decide +kernel
theorem lv_1 : (opCreate lv0 nA).2 = 0 := by decide +kernel
theorem lv_2 : (opAppend lv1 nA [120, 121]).2 = 0 := by decide +kernel
theorem lv_3 : (opSync lv2 nA).2 = 0 := by decide +kernel
theorem lv_4 : (opSyncDir lv3).2 = 0 := by decide +kernel
theorem lv_5 : (opAppend lv4 nA [122]).2 = 0 := by decide +kernel
theorem lv_6 : leftOf lv5 0 [] = [(nA, [120, 121])] := by decide +kernel
theorem lv_7 : leftOf lv5 0 [1] = [(nA, [120, 121, 122])] := by decide +kernel
theorem lv_8 : lv5.ops = 5 := by decide +kernel
theorem C_lit (w : World) (bs : List Int) (z : Nat × Nat) (h : bs.length ≤ 1073741824) : Kd.C kB (w.alloc (.cells (bs.map (Value.int .u8)).toArray 5 z)) (some ⟨w.heap.size, 0, none⟩) bs.length bs :=
  Kd.C_of_reads (enc := Value.int .u8) (h1 := fun _ => rfl) (d := 0) ⟨rfl, by omega, fun _ => ⟨_, rfl, fun j hj => by
    rw [add_plain]; have h1 := cell_of_row (w.alloc (.cells (bs.map (Value.int .u8)).toArray 5 z)) w.heap.size j _ _ z (blk_new w (.cells (bs.map (Value.int .u8)).toArray 5 z)); rw [h1]; simp only [List.getElem?_toArray, List.getElem?_map]; rw [List.getElem?_eq_getElem hj, List.getD_eq_getElem?_getD, List.getElem?_eq_getElem hj]; rfl⟩⟩
theorem C_litI (w : World) (bs : List Int) (h : bs.length ≤ 1073741824) : Kd.C (Kd.int .i64) (w.alloc (.cells (bs.map (Value.int .i64)).toArray 3)) (some ⟨w.heap.size, 0, none⟩) bs.length bs :=
  Kd.C_of_reads (enc := Value.int .i64) (h1 := fun _ => rfl) (d := 0) ⟨rfl, by omega, fun _ => ⟨_, rfl, fun j hj => by
    rw [add_plain]; have h1 := blk_cell (blk_new w (.cells (bs.map (Value.int .i64)).toArray 3)) j; rw [h1]; simp only [List.getElem?_toArray, List.getElem?_map]; rw [List.getElem?_eq_getElem hj, List.getD_eq_getElem?_getD, List.getElem?_eq_getElem hj]; rfl⟩⟩
set_option maxHeartbeats 4000000 in
set_option maxRecDepth 100000 in
theorem law_live.calls (w : World) : Calls Try.prog 13 #[] w fun e w' => e = .returned (.bool true) ∧ Below w.heap.size w w' := by
  have kc := fun (w : World) (C : Array Value) (n c : Nat) => Lib.run_convert_bytes_const (P := Try.prog) w 53 5 C n c Try.underlying53 Try.underlying5; go_enter Try.func13, Try.ntmps13
  go_wp2_with fail
  refine (disk_New.own 100 (by omega) none 0 [] w ⟨rfl, by show (0 : Nat) ≤ _; omega, fun h => absurd h (Nat.lt_irrefl _)⟩ (Nat.le_refl _) (fun f hf => by cases hf)).mono ?_; rintro e w1 ⟨hb1, ⟨_, d, rfl, h1⟩ | ⟨h0, rfl⟩⟩
  · have H1 : Aside0 (OwnD w w1 d lv0) := ⟨h1⟩; clear h1 hb1; go_wp2_with fail
    refine (wicketlaw05_num.calls 0 0 _ rfl).mono ?_; rintro x w2 ⟨rfl, hd⟩; replace H1 := Aside0.mk (H1.out.tell hd.below); clear hd; go_wp2_with fail
    refine (disk_Create.own H1.out nA (by decide)).mono ?_; rintro x w3 ⟨rfl, hh⟩; rw [lv_1]; have H2 : Aside0 (OwnD w w3 d lv1) := ⟨hh⟩; clear hh; go_wp2_with fail
    refine (wicketlaw05_num.calls 0 0 _ rfl).mono ?_; rintro x w4 ⟨rfl, hd⟩; replace H2 := Aside0.mk (H2.out.tell hd.below); clear hd; go_wp2_with fail
    refine (disk_Append.own H2.out (below_alloc (Below.refl _ _) (.cells #[.int .u8 120, .int .u8 121] 5 (2, 3))) nA (by decide) (some ⟨w4.heap.size, 0, none⟩) 2 [120, 121] (C_lit w4 [120, 121] (2, 3) (by decide)) (by decide) (by decide) (fun ad e _ => by cases e; exact .inr (Nat.le_refl _))).mono ?_; rintro x w5 ⟨rfl, hh⟩; rw [lv_2]; have H3 : Aside0 (OwnD w w5 d lv2) := ⟨hh⟩; clear hh; go_wp2_with fail
    refine (wicketlaw05_num.calls 0 0 _ rfl).mono ?_; rintro x w6 ⟨rfl, hd⟩; replace H3 := Aside0.mk (H3.out.tell hd.below); clear hd; go_wp2_with fail
    refine (disk_Sync.own H3.out nA (by decide)).mono ?_; rintro x w7 ⟨rfl, hh⟩; rw [lv_3]; have H4 : Aside0 (OwnD w w7 d lv3) := ⟨hh⟩; clear hh; go_wp2_with fail
    refine (wicketlaw05_num.calls 0 0 _ rfl).mono ?_; rintro x w8 ⟨rfl, hd⟩; replace H4 := Aside0.mk (H4.out.tell hd.below); clear hd; go_wp2_with fail
    refine (disk_SyncDir.own H4.out).mono ?_; rintro x w9 ⟨rfl, hh⟩; rw [lv_4]; have H5 : Aside0 (OwnD w w9 d lv4) := ⟨hh⟩; clear hh; go_wp2_with fail
    refine (wicketlaw05_num.calls 0 0 _ rfl).mono ?_; rintro x w10 ⟨rfl, hd⟩; replace H5 := Aside0.mk (H5.out.tell hd.below); clear hd; go_wp2_with fail
    refine (disk_Append.own H5.out (below_alloc (Below.refl _ _) (.cells #[.int .u8 122] 5 (1, 2))) nA (by decide) (some ⟨w10.heap.size, 0, none⟩) 1 [122] (C_lit w10 [122] (1, 2) (by decide)) (by decide) (by decide) (fun ad e _ => by cases e; exact .inr (Nat.le_refl _))).mono ?_; rintro x w11 ⟨rfl, hh⟩; rw [lv_5]; have H6 : Aside0 (OwnD w w11 d lv5) := ⟨hh⟩; clear hh; go_wp2_with fail
    refine (wicketlaw05_num.calls 0 0 _ rfl).mono ?_; rintro x w12 ⟨rfl, hd⟩; replace H6 := Aside0.mk (H6.out.tell hd.below); clear hd; go_wp2_with fail
    refine (disk_Durable.own H6.out).mono ?_; rintro x w13 ⟨v13, rfl, hr13, hb13, h13⟩; rw [lv_6] at hr13; obtain ⟨A13, c13, hv13⟩ := Kd.R_slice hr13
    change v13 = .slice A13 1 c13 at hv13
    subst hv13; have H7 : Aside0 (OwnD w w13 d lv5) := ⟨h13⟩; have HR13 := Aside0.mk hr13; clear hr13 hb13 h13; go_wp2_with fail
    refine (disk_Left.own (H7.out.tell (below_alloc (Below.refl _ _) (.cells #[.int .i64 1] 3))) 0 (by omega) (some ⟨w13.heap.size, 0, none⟩) 1 [1] (C_litI w13 [1] (by decide)) (Nat.le_refl _) (fun x hx => by rw [List.mem_singleton] at hx; omega)).mono ?_; rintro x w14 ⟨v14, rfl, hr14, hb14, h14⟩; rw [lv_7] at hr14; obtain ⟨A14, c14, hv14⟩ := Kd.R_slice hr14
    change v14 = .slice A14 1 c14 at hv14
    subst hv14; have HB := Aside0.mk h14.below; have H8 : Aside0 (OwnD w w14 d lv5) := ⟨h14⟩; obtain ⟨a1, B1, e1, rfl, _, o1, _, g1⟩ := at_T65 (Kd.C_below (Kd.R_reads' HR13.out).2.2 (below_step (below_alloc (Below.refl _ _) (.cells #[.int .i64 1] 3)) hb14)) 0 (by omega) (by decide); obtain ⟨a2, B2, e2, rfl, _, o2, _, g2⟩ := at_T65 (Kd.R_reads' hr14).2.2 0 (by omega) (by decide)
    change w14.cell? ⟨(a1.add 0).block, (a1.add 0).off + 1, none⟩ = some (.slice B1 2 e1) at o1
    change w14.cell? ⟨(a2.add 0).block, (a2.add 0).off + 1, none⟩ = some (.slice B2 3 e2) at o2
    rw [show a1.add 0 = a1 from by unfold Addr.add; rfl] at o1; rw [show a2.add 0 = a2 from by unfold Addr.add; rfl] at o2; have k1 := Kd.C_string (P := Try.prog) (c := e1) Try.underlying53 Try.underlying5 Try.underlying9 g1; have k2 := Kd.C_string (P := Try.prog) (c := e2) Try.underlying53 Try.underlying5 Try.underlying9 g2
    change (convert 53 9 (.slice B1 2 e1)).run Try.prog w14 = .ok (.string ⟨#[120, 121]⟩) w14 at k1
    change (convert 53 9 (.slice B2 3 e2)).run Try.prog w14 = .ok (.string ⟨#[120, 121, 122]⟩) w14 at k2
    clear g1 g2 hr14 hb14 h14; go_wp2_with fail
    refine (disk_Count.own H8.out).mono ?_; rintro x w15 ⟨rfl, rfl⟩; rw [lv_8]; go_wp2_with fail
    go_ret; exact ⟨rfl, HB.out⟩
  · exact absurd lv_0 h0
end Go.Proofs.Ytdekcjopgnfmdaa.Hand
