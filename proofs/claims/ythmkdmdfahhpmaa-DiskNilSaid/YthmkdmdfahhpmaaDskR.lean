/- Disk: what New makes: the plain law, the disk while it is made. -/
import Derived.Test.YthmkdmdfahhpmaaDskQ
namespace Go.Proofs.Ythmkdmdfahhpmaa.Hand
open Go.RowKit Go.Maps Go.Proofs.YthmkdmdfahhpmaaW.PrintWords Go.Proofs.YthmkdmdfahhpmaaW.PrintLast Go.Proofs.YthmkdmdfahhpmaaW.PrintMore Go.Proofs.Ythmkdmdfahhpmaa.Q
set_option linter.unusedVariables false
set_option linter.unusedSimpArgs false
def ds0 (room : Int) : DS := ⟨room, [], [], [], [], 0, 0, false⟩
def newAdd (S : DS) (f : FilD) : DS := { S with files := S.files ++ [(f.f1, (f.f1.length : Int))], dir := with_ S.dir f.f0 (S.files.length : Int) }
def newErr (S : DS) (f : FilD) : Int := if nameOk f.f0 = false then 50 else if (has S.dir f.f0).isSome then 34 else if f.f1.length > 4194304 then 1 else 0
def newGo (S : DS) : List FilD → DS × Int
  | [] => (S, 0)
  | f :: fs => if newErr S f ≠ 0 then (S, newErr S f) else newGo (newAdd S f) fs
def newEnd (p : DS × Int) : DS × Int := if p.2 ≠ 0 then p else if used p.1 > p.1.room then (p.1, 5) else ({ p.1 with safe := p.1.dir }, 0)
def newOf (room : Int) (fs : List FilD) : DS × Int := if room < 0 then (ds0 room, 2) else if fs.length > 64 then (ds0 room, 32) else newEnd (newGo (ds0 room) fs)
def FilOk (f : FilD) : Prop := f.f0.size ≤ 9223372036854775807 ∧ (∀ x, x ∈ f.f1 → 0 ≤ x ∧ x ≤ 255)
/-- A disk that is being made of i files. -/
structure Mid (room : Int) (S : DS) (i : Nat) : Prop where
  inv : Inv { S with safe := S.dir }
  lenF : S.files.length = i
  lenD : S.dir.length ≤ i
  e1 : S.safe = []
  e2 : S.chg = []
  e3 : S.ops = 0
  e4 : S.armed = 0
  e5 : S.dead = false
  e6 : S.room = room
theorem Mid.start {room : Int} (h : 0 ≤ room ∧ room ≤ 9223372036854775807) : Mid room (ds0 room) 0 where
  inv := {
    srtD := List.Pairwise.nil
    srtS := List.Pairwise.nil
    okD := fun e he => by cases he
    okS := fun e he => by cases he
    okC := fun e he => by cases he
    lenD := Nat.zero_le _
    lenS := Nat.zero_le _
    lenF := by show (0 : Int) ≤ 64 + 0; omega
    lenC := by show (0 : Int) ≤ 0; omega
    opsB := by show (0 : Int) ≤ 0 ∧ (0 : Int) ≤ 1048576; omega
    fil := fun e he => by cases he
    roomB := h
    armB := by show (0 : Int) ≤ 0 ∧ (0 : Int) ≤ 9223372036854775807; omega
    hist := rfl
    fileN := List.Pairwise.nil }
  lenF := rfl
  lenD := Nat.zero_le _
  e1 := rfl
  e2 := rfl
  e3 := rfl
  e4 := rfl
  e5 := rfl
  e6 := rfl
theorem Mid.add {room : Int} {S : DS} {i : Nat} (h : Mid room S i) (hi : i < 64) {f : FilD} (hf : FilOk f) (he : newErr S f = 0) : Mid room (newAdd S f) (i + 1) := by
  have hI := h.inv
  have hn : nameOk f.f0 = true ∧ has S.dir f.f0 = none ∧ f.f1.length ≤ 4194304 := by
    unfold newErr at he
    split at he
    · exact absurd he (by decide)
    · rename_i h1
      split at he
      · exact absurd he (by decide)
      · rename_i h2
        split at he
        · exact absurd he (by decide)
        · rename_i h3
          exact ⟨by simpa using h1, by simpa using h2, by omega⟩
  obtain ⟨h1, h2, h3⟩ := hn
  have hs := nameOk_size h1
  have hlen : (newAdd S f).files.length = i + 1 := by show (S.files ++ [_]).length = i + 1; rw [List.length_append, h.lenF]; rfl
  have hdl : (newAdd S f).dir.length ≤ i + 1 := Nat.le_trans (with_len _ _ _) (by have := h.lenD; omega)
  have hok : ∀ e, e ∈ (newAdd S f).dir → 0 ≤ e.2 ∧ e.2 < (newAdd S f).files.length ∧ 1 ≤ e.1.size ∧ e.1.size ≤ 32 := fun e hm => by
    rw [hlen]
    rcases with_mem.1 hm with rfl | ⟨hm, _⟩
    · refine ⟨by show (0 : Int) ≤ (S.files.length : Int); omega, by show (S.files.length : Int) < _; rw [h.lenF]; omega, hs⟩
    · have h9 := hI.okD e hm
      refine ⟨h9.1, ?_, h9.2.2⟩
      have h8 : e.2 < (S.files.length : Int) := h9.2.1
      rw [h.lenF] at h8
      omega
  have hfn : ((newAdd S f).dir.map (·.2)).Nodup := by
    have h9 := turn_fileN (l := S.dir) hI.fileN (c := (ByteArray.empty, f.f0, (S.files.length : Int))) (fun _ e he2 => by
      have h8 : e.2 < (S.files.length : Int) := (hI.okD e (turn1_mem he2)).2.1
      show e.2 ≠ (S.files.length : Int)
      omega)
    have e9 : turn S.dir (ByteArray.empty, f.f0, (S.files.length : Int)) = with_ S.dir f.f0 (S.files.length : Int) := by
      unfold turn turn1
      rw [if_neg (by show ¬ f.f0.size = 0; omega), if_pos (by rfl)]
    rw [e9] at h9
    exact h9
  refine ⟨{ srtD := hI.srtD.with_ _ _, srtS := hI.srtD.with_ _ _, okD := hok, okS := hok, okC := fun c hc => absurd (h.e2 ▸ (show c ∈ S.chg from hc) : c ∈ ([] : List Chg)) List.not_mem_nil, lenD := ?_, lenS := ?_, lenF := ?_, lenC := hI.lenC, opsB := hI.opsB, fil := fun x hx => ?_, roomB := hI.roomB, armB := hI.armB, hist := ?_, fileN := hfn }, hlen, hdl, h.e1, h.e2, h.e3, h.e4, h.e5, h.e6⟩
  · show (newAdd S f).dir.length ≤ 64
    omega
  · show (newAdd S f).dir.length ≤ 64
    omega
  · show ((newAdd S f).files.length : Int) ≤ 64 + S.ops
    rw [hlen, h.e3]
    omega
  · rcases List.mem_append.1 hx with hx | hx
    · exact hI.fil x hx
    · rw [List.mem_singleton] at hx
      subst hx
      exact ⟨h3, by show (0 : Int) ≤ (f.f1.length : Int); omega, Int.le_refl _, hf.2⟩
  · show S.chg.foldl turn _ = _
    rw [h.e2]
    rfl
theorem Mid.used_add {room : Int} {S : DS} {i : Nat} (h : Mid room S i) {f : FilD} (he : has S.dir f.f0 = none) : used (newAdd S f) = used S + (f.f1.length : Int) := by
  show usedOf (S.files ++ [(f.f1, (f.f1.length : Int))]) (ins f.f0 (S.files.length : Int) (without S.dir f.f0)) = _
  rw [usedOf_ins, usedOf_app _ (fun e hm => ⟨(h.inv.okD e (without_mem.1 hm).1).1, (h.inv.okD e (without_mem.1 hm).1).2.1⟩), usedOf_without _ _ _ h.inv.srtD.nodup, he]
  have e9 : flen (S.files ++ [(f.f1, (f.f1.length : Int))]) (S.files.length : Int) = (f.f1.length : Int) := by
    unfold flen
    rw [Int.toNat_natCast, getD_last]
  rw [e9]
  simp only
  unfold used
  omega
theorem Mid.usedB {room : Int} {S : DS} {i : Nat} (h : Mid room S i) : 0 ≤ used S ∧ used S ≤ 268435456 := h.inv.usedB
theorem Mid.fin {room : Int} {S : DS} {i : Nat} (h : Mid room S i) : Inv { S with safe := S.dir } := h.inv
/-- The disk while it is made. -/
structure NewM (w : World) (B d : Nat) (S : DS) (md : Nat) (vf : Value) (fm : List FM) : Prop where
  blk : w.heap[d]? = some (.cells #[.int .i64 S.room, .int .i64 (used S), vf, .map (some md), .map none, .slice none 0 0, .int .i64 0, .int .i64 0, .bool false] 87 (0, 0))
  own : Kd.R kP 95 w 0 (fun _ => True) vf (fm.map (·.1))
  len : fm.length = S.files.length
  at_ : ∀ i, i < S.files.length → FileAt w (fm.getD i fm0) (S.files.getD i ([], 0))
  sep : ∀ i j, i < fm.length → j < fm.length → i ≠ j → (fm.getD i fm0).1 ≠ (fm.getD j fm0).1 ∧ ∀ k, (fm.getD i fm0).2.ownBlock = some k → (fm.getD j fm0).2.ownBlock ≠ some k
  dir : OwnE w md S.dir
  foot : B ≤ d ∧ B ≤ md ∧ (∀ k, vf.ownBlock = some k → B ≤ k) ∧ ∀ a, a ∈ fm → B ≤ a.1 ∧ ∀ k, a.2.ownBlock = some k → B ≤ k
theorem NewM.lt {w : World} {B d : Nat} {S : DS} {md : Nat} {vf : Value} {fm : List FM} (h : NewM w B d S md vf fm) {i : Nat} (hi : i < fm.length) : (fm.getD i fm0).1 < w.heap.size ∧ ∀ k, (fm.getD i fm0).2.ownBlock = some k → k < w.heap.size := by
  have h1 := h.at_ i (by rw [← h.len]; exact hi)
  exact ⟨blk_lt h1.1, fun k hk => Kd.R_lt h1.2 _ hk⟩
/-- What none of its blocks was touched by. -/
theorem NewM.below {w w' : World} {B d : Nat} {S : DS} {md : Nat} {vf : Value} {fm : List FM} (h : NewM w B d S md vf fm) (hb : Below w.heap.size w w') : NewM w' B d S md vf fm where
  blk := blk_below h.blk hb
  own := Kd.R_below h.own hb
  len := h.len
  at_ := fun i hi => ⟨blk_below (h.at_ i hi).1 hb, Kd.R_below (h.at_ i hi).2 hb⟩
  sep := h.sep
  dir := h.dir.same (hb.block _ h.dir.lt)
  foot := h.foot
/-- A file more. -/
theorem NewM.step {w w' : World} {B d : Nat} {S S' : DS} {md : Nat} {vf vf' : Value} {fm : List FM} {b : Nat} {v : Value} {f : Fil} (h : NewM w B d S md vf fm)
    (hk : KeptL (fun k => k = d ∨ k = md ∨ vf.ownBlock = some k) w w')
    (hb : w'.heap[d]? = some (.cells #[.int .i64 S'.room, .int .i64 (used S'), vf', .map (some md), .map none, .slice none 0 0, .int .i64 0, .int .i64 0, .bool false] 87 (0, 0)))
    (hn : FileAt w' (b, v) f) (hbn : w.heap.size ≤ b) (hvn : ∀ k, v.ownBlock = some k → w.heap.size ≤ k)
    (hc : Kd.R kP 95 w' 0 (fun _ => True) vf' (fm.map (·.1) ++ [b])) (hv : vf'.ownBlock = vf.ownBlock ∨ ∃ b, vf'.ownBlock = some b ∧ w.heap.size ≤ b)
    (hd : OwnE w' md S'.dir) (hf : S'.files = S.files ++ [f]) : NewM w' B d S' md vf' (fm ++ [(b, v)]) := by
  have hlen := h.len
  obtain ⟨f1, f2, f3, f4⟩ := h.foot
  have hdw : d < w.heap.size := blk_lt h.blk
  have hbB : B ≤ b := by omega
  refine { blk := hb, own := by rw [List.map_append]; exact hc, len := by rw [hf, List.length_append, List.length_append, hlen]; rfl, at_ := fun i hi => ?_, sep := fun i j hi hj hij => ?_, dir := hd, foot := ⟨f1, f2, fun k hk2 => ?_, fun a ha => ?_⟩ }
  · rw [hf, List.length_append, List.length_singleton] at hi
    rcases Nat.lt_succ_iff_lt_or_eq.1 hi with hi | rfl
    · rw [hf, getD_app hi, getD_app (by rw [hlen]; exact hi)]
      have hA := h.at_ i hi
      have hl := h.lt (i := i) (by omega)
      refine hA.same (hk.block _ hl.1 (fun hh => ?_)) (fun k hv2 => hk.block _ (hl.2 k hv2) (fun hh => ?_))
      · rcases hh with hh | hh | hh
        · exact blk_ne hA.1 h.blk (by decide) hh
        · exact h.dir.ne hA.1 hh.symm
        · exact Kd.R_ne h.own hA.1 (by decide) hh.symm
      · rcases hh with hh | hh | hh
        · exact Kd.R_ne hA.2 h.blk (by decide) (by rw [hv2, hh])
        · exact h.dir.ne_own hA.2 (by rw [hv2, hh])
        · exact own_ne hA.2 h.own (by decide) hv2 hh
    · rw [hf, getD_last]
      have e : (fm ++ [(b, v)]).getD S.files.length fm0 = (b, v) := by rw [← hlen]; exact getD_last
      rw [e]
      exact hn
  · rw [List.length_append, List.length_singleton] at hi hj
    rcases Nat.lt_succ_iff_lt_or_eq.1 hi with hi | rfl <;> rcases Nat.lt_succ_iff_lt_or_eq.1 hj with hj | rfl
    · rw [getD_app hi, getD_app hj]
      exact h.sep i j hi hj hij
    · rw [getD_app hi, getD_last]
      have hl := h.lt hi
      exact ⟨by show (fm.getD i fm0).1 ≠ b; omega, fun k e1 e2 => by have h1 := hl.2 k e1; have h2 := hvn k e2; omega⟩
    · rw [getD_app hj, getD_last]
      have hl := h.lt hj
      exact ⟨by show b ≠ (fm.getD j fm0).1; omega, fun k e1 e2 => by have h1 := hl.2 k e2; have h2 := hvn k e1; omega⟩
    · exact absurd rfl hij
  · rcases hv with hv | ⟨b2, hv, hb2⟩
    · exact f3 k (by rw [← hv]; exact hk2)
    · rw [hv] at hk2
      injection hk2 with hk2
      omega
  · rcases List.mem_append.1 ha with ha | ha
    · exact f4 a ha
    · rw [List.mem_singleton] at ha
      subst ha
      exact ⟨hbB, fun k e => by have := hvn k e; omega⟩
/-- The disk is made. -/
theorem NewM.done {w w' : World} {B d : Nat} {S : DS} {md ms i : Nat} {room : Int} {vf : Value} {fm : List FM} (h : NewM w B d S md vf fm) (hM : Mid room S i) (hk : KeptL (fun k => k = d) w w')
    (hb : w'.heap[d]? = some (.cells #[.int .i64 S.room, .int .i64 (used S), vf, .map (some md), .map (some ms), .slice none 0 0, .int .i64 0, .int .i64 0, .bool false] 87 (0, 0)))
    (hs : OwnE w' ms S.dir) (hms : w.heap.size ≤ ms) : DskAt w' (fun k => B ≤ k ∧ k < w'.heap.size) d { S with safe := S.dir } := by
  obtain ⟨f1, f2, f3, f4⟩ := h.foot
  have hdw : d < w.heap.size := blk_lt h.blk
  have hmd := h.dir.lt
  have hlt : ∀ k, k < w.heap.size → k < w'.heap.size := fun k hk2 => Nat.lt_of_lt_of_le hk2 hk.size
  refine ⟨hM.inv, md, ms, vf, .slice none 0 0, fm, { blk := ?_, own := R_keepD rfl h.own (fun k hv => hk.block k (Kd.R_lt h.own _ hv) (fun e => Kd.R_ne h.own h.blk (by decide) (by rw [hv, e]))), len := h.len, at_ := fun i hi => ?_, sep := h.sep, dir := h.dir.same (hk.block md hmd (fun e => h.dir.ne h.blk e)), safe := hs, apart := by omega, chg := ?_, foot := ?_, lt := fun k hk2 => hk2.2 }⟩
  · rw [hb]
    show _ = some (Obj.cells #[.int .i64 S.room, .int .i64 (used S), vf, .map (some md), .map (some ms), .slice none 0 0, .int .i64 S.ops, .int .i64 S.armed, .bool S.dead] _ _)
    rw [hM.e3, hM.e4, hM.e5]
  · have hA := h.at_ i hi
    have hl := h.lt (i := i) (by rw [h.len]; exact hi)
    exact hA.same (hk.block _ hl.1 (fun e => blk_ne hA.1 h.blk (by decide) e)) (fun k hv2 => hk.block _ (hl.2 k hv2) (fun e => Kd.R_ne hA.2 h.blk (by decide) (by rw [hv2, e])))
  · show Kd.R kC _ _ _ _ _ S.chg
    rw [hM.e2]
    exact Kd.R_nil _ _ _ _ _
  · refine ⟨⟨f1, hlt _ hdw⟩, ⟨f2, hlt _ hmd⟩, ⟨by omega, hs.lt⟩, fun k hv => ⟨f3 k hv, hlt _ (Kd.R_lt h.own _ hv)⟩, fun k hv => by simp [Value.ownBlock] at hv, fun a ha => ?_⟩
    obtain ⟨i, hi, rfl⟩ := List.getElem_of_mem ha
    have hl := h.lt hi
    have e9 : fm.getD i fm0 = fm[i] := by rw [List.getD_eq_getElem?_getD, List.getElem?_eq_getElem hi]; rfl
    rw [e9] at hl
    exact ⟨⟨(f4 _ ha).1, hlt _ hl.1⟩, fun k hv => ⟨(f4 _ ha).2 k hv, hlt _ (hl.2 k hv)⟩⟩
end Go.Proofs.Ythmkdmdfahhpmaa.Hand
