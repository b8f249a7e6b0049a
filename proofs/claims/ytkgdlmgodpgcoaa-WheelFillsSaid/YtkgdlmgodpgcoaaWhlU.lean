/- Wheel: Next (the map gone over); what a walk over the map has told. -/
import Derived.Test.YtkgdlmgodpgcoaaWhlV
namespace Go.Proofs.Ytkgdlmgodpgcoaa.Hand
open Go.RowKit Go.Maps Go.Proofs.YtkgdlmgodpgcoaaW.PrintWords Go.Proofs.YtkgdlmgodpgcoaaW.PrintLast Go.Proofs.YtkgdlmgodpgcoaaW.PrintMore
set_option linter.unusedVariables false
set_option linter.unusedSimpArgs false

theorem filter_id {Ls : List TimT} (hN : (Ls.map (·.1)).Nodup) {t : TimT} (ht : t ∈ Ls) : (Ls.filter fun u => decide (u.1 = t.1)) = [t] := by
  induction Ls with
  | nil => cases ht
  | cons u l ih =>
    have hN' := hN
    rw [List.map_cons, List.nodup_cons] at hN
    by_cases e : u.1 = t.1
    · have e2 : u = t := nodup_eq hN' List.mem_cons_self ht e
      rw [List.filter_cons_of_pos (by simpa using e), List.filter_eq_nil_iff.2 (fun x hx => ?_), e2]
      intro h2
      have h3 : x.1 = t.1 := by simpa using h2
      exact hN.1 (List.mem_map.2 ⟨x, hx, h3.trans e.symm⟩)
    · rw [List.filter_cons_of_neg (by simpa using e)]
      rcases List.mem_cons.1 ht with rfl | ht
      · exact absurd rfl e
      · exact ih hN.2 ht
/-- The timers that have come, and those whose numbers are left. -/
def Came (Ls : List TimT) (left : Lit → Bool) (Xs : List TimT) : Prop := (Xs ++ Ls.filter fun t => left (.int .u64 t.1)).Perm Ls
theorem Came.start {D : DT} {Ls : List TimT} (h : MapIs D Ls) : Came Ls (Maps.has D) [] := by
  unfold Came
  rw [List.nil_append, List.filter_eq_self.2 (fun t ht => ?_)]
  rw [h.has_]
  unfold hasId
  rw [List.any_eq_true]
  exact ⟨t, ht, by simp⟩
theorem Came.entry {D : DT} {Ls : List TimT} {left : Lit → Bool} {Xs : List TimT} {x c : Int} (hM : MapIs D Ls) (hN : (Ls.map (·.1)).Nodup) (h : Came Ls left Xs) (hl : left (.int .u64 x) = true) (hat : ∀ zd, D.atKey (.int .u64 x) zd = .lit (.int .u64 c)) :
    Came Ls (fun z => left z && !z.sameKey (.int .u64 x)) (Xs ++ [(x, c)]) ∧ (x, c) ∈ Ls := by
  have hin : hasId Ls x = true := by
    cases hh : hasId Ls x with
    | true => rfl
    | false =>
      have h2 := hat (.lit (.bool true))
      rw [Maps.atKey_of_not_has ((hM.has_ x).trans hh)] at h2
      injection h2 with h2
      cases h2
  obtain ⟨t, ht, rfl⟩ := hasId_mem hin
  have h3 := hM.at_ hN ht (.lit (.bool true))
  rw [hat] at h3
  injection h3 with h3
  injection h3 with _ h3
  subst h3
  refine ⟨?_, ht⟩
  unfold Came at h ⊢
  refine List.Perm.trans ?_ h
  rw [List.append_assoc]
  refine List.Perm.append_left Xs ?_
  have e1 : (Ls.filter fun u => decide (u.1 = t.1)) = [t] := filter_id hN ht
  rw [show ([(t.1, t.2)] : List TimT) = [t] from rfl, ← e1]
  refine (filter_or _ _ Ls (fun u _ => ?_)).trans ?_
  · simp only [same_u64]
    simp
    intro h1 _
    exact h1
  · rw [List.filter_congr (fun u hu => ?_)]
    simp only [same_u64]
    rw [Bool.eq_iff_iff]
    simp
    constructor
    · rintro (h1 | ⟨h1, _⟩)
      · rw [nodup_eq hN hu ht h1]; exact hl
      · exact h1
    · intro h1
      by_cases e : u.1 = t.1
      · exact .inl e
      · exact .inr ⟨h1, e⟩
theorem Came.fin {Ls : List TimT} {left : Lit → Bool} {Xs : List TimT} (h : Came Ls left Xs) (hl : ∀ kl, left kl = false) : Xs.Perm Ls := by
  unfold Came at h
  rwa [List.filter_eq_nil_iff.2 (fun t _ => by rw [hl]; decide), List.append_nil] at h
def leastOf (Ls : List TimT) : Int := Ls.foldl (fun m t => min m t.2) 18446744073709551615
theorem leastOf_snoc (Xs : List TimT) (t : TimT) : leastOf (Xs ++ [t]) = min (leastOf Xs) t.2 := by
  unfold leastOf
  rw [List.foldl_append]
  rfl
theorem leastOf_perm {a b : List TimT} (h : a.Perm b) : leastOf a = leastOf b := by
  unfold leastOf
  exact h.foldl_eq' (fun x _ y _ z => by omega) _
theorem ranges_other {w w' : World} {b r n cnt : Nat} {D : DT} {left : Lit → Bool} (h : w.ranges Try.prog 22 (plainElem Try.prog 22) b r n D left cnt) (hb : Below w.heap.size w w') : w'.ranges Try.prog 22 (plainElem Try.prog 22) b r n D left cnt := by
  obtain ⟨es, clock, since, seen, c0, h1, h2, h3, h4, h5, h6⟩ := h
  exact ⟨es, clock, since, seen, c0, blk_below h1 hb, h2, h3, h4, blk_below h5 hb, h6⟩
set_option maxHeartbeats 2000000 in
set_option maxRecDepth 100000 in
theorem wheel_Next.all {w : World} {F : Nat → Prop} {g m : Nat} {now : Int} {Ls : List TimT} (h : Wst w F g m now Ls) :
    Calls Try.prog 36 #[.pointer (some ⟨g, 0, none⟩)] w fun e w' => e = .returned (.tuple #[.int .u64 (if Ls = [] then 0 else leastOf Ls), .bool (!decide (Ls = []))]) ∧ Below w.heap.size w w' := by
  obtain ⟨D, R, f, L, hS, hF⟩ := h.open_
  have cm := hS.whl.map_
  have hlen := hS.due.len Try.underlying75
  have HD := Aside0.mk hS.due
  have HF := Aside0.mk hF
  rw [hF.map.size] at hlen
  by_cases hz : Ls = []
  · have b1 : ((Ls.length : Int) == 0) = true := by rw [hz]; rfl
    rw [if_pos hz, decide_eq_true hz]
    clear hz
    go_enter Try.func36, Try.ntmps36
    go_wp2_with fail
    go_ret2
    exact ⟨rfl, Below.refl _ _⟩
  · have b1 : ((Ls.length : Int) == 0) = false := beq_eq_false_iff_ne.mpr (by cases Ls with | nil => exact absurd rfl hz | cons t l => simp; omega)
    rw [if_neg hz, decide_eq_false hz]
    have HC0 : Aside0 (Came Ls (Maps.has D) []) := ⟨Came.start hF.map⟩
    clear hz hS hF
    go_enter Try.func36, Try.ntmps36
    go_wp2_with (first
      | (at_range; refine wpList_range_own _ rfl _ 75 rfl 22 22 law22 Try.underlying75 (plainElem Try.prog 22) m (Maps.size D) D rfl HD.out ?_; intro w2 hrg0 hg0 hs0; have HR0 := Aside0.mk hrg0; have HK0 : Aside0 (Below w.heap.size w w2) := ⟨⟨hg0.os, hg0.tape, hg0.output, hg0.size, fun k hk => hg0.block k hk (by simp)⟩⟩; clear hrg0 hg0 hs0)
      | go_in)
    go_frame
    clear hlen cm b1
    obtain ⟨r, hr⟩ : ∃ r, r = w.heap.size := ⟨_, rfl⟩
    have HSR := Aside0.mk hr
    rw [← hr] at HR0 HK0 ⊢
    clear hr
    go_loopw [4] (fun v4 wr => ∃ (least : Int) (left : Lit → Bool) (cnt : Nat), v4 = .int .u64 least ∧ Aside0 (wr.ranges Try.prog 22 (plainElem Try.prog 22) m r (Maps.size D) D left cnt) ∧ Aside0 (∃ Xs, Came Ls left Xs ∧ least = leastOf Xs) ∧ Aside0 (Below r w wr)) (fun _ wr => wr.rangeLeft m r)
    case atStart => exact ⟨18446744073709551615, _, _, rfl, HR0, ⟨[], HC0.out, rfl⟩, HK0⟩
    case round =>
      clear HR0 HC0 HK0
      obtain ⟨least, left, cnt, rfl, HR, HX, HK⟩ := hrel
      rcases HR.out.next law22 0 with ⟨h0, hl0, hrun⟩ | ⟨key, v, kl, y, w3, cnt3, hkey, hlk, hv, hat, hrun, hrg1, hlt, hg1, hs1, hen⟩
      · have HE : Aside0 (least = leastOf Ls) := ⟨by obtain ⟨Xs, h1, h2⟩ := HX.out; rw [h2]; exact leastOf_perm (h1.fin hl0)⟩
        go_wp2_with fail
        go_ret2
        exact ⟨by rw [HE.out]; rfl, by rw [HSR.out] at HK; exact HK.out⟩
      · obtain ⟨x, rfl, rfl, hwx⟩ := Maps.keyOf_int_inv Try.underlying22 hkey
        obtain ⟨c, rfl, rfl, hwc⟩ := plainElem_int_inv Try.underlying22 hv
        have HR3 := Aside0.mk hrg1
        have HLT := Aside0.mk hlt
        have HX3 : Aside0 (∃ Xs, Came Ls (fun z => left z && !z.sameKey (.int .u64 x)) Xs ∧ min least c = leastOf Xs) := ⟨by
          obtain ⟨Xs, h1, h2⟩ := HX.out
          exact ⟨Xs ++ [(x, c)], (Came.entry HF.out.map HF.out.nodup h1 hlk hat).1, by rw [leastOf_snoc, h2]⟩⟩
        have HK3 : Aside0 (Below r w w3) := ⟨⟨hg1.os.trans HK.out.os, hg1.tape.trans HK.out.tape, hg1.output.trans HK.out.output, Nat.le_trans HK.out.size hg1.size, fun k hk => (hg1.block k (Nat.lt_of_lt_of_le (by rw [HSR.out] at hk; exact hk) HK.out.size) (fun e => by injection e with e; omega)).trans (HK.out.block k hk)⟩⟩
        clear hrg1 hlt hat hlk hkey hv hg1 hs1 HX HK
        go_wp2_with fail
        go_roundw
        case rel => exact ⟨_, _, cnt3, rfl, HR3, HX3, HK3⟩
        case measure => rw [HR3.out.left_eq, HR.out.left_eq]; exact HLT.out
end Go.Proofs.Ytkgdlmgodpgcoaa.Hand
