/- Wheel: what Advance gathers, in plain lists; movers of the wheel's state. -/
import Derived.Test.YtkgdlmgodpgcoaaWhlD
import Derived.Laws.BitsAllLaws
namespace Go.Proofs.Ytkgdlmgodpgcoaa.Hand
open Go.RowKit Go.Maps Go.Proofs.YtkgdlmgodpgcoaaW.PrintWords Go.Proofs.YtkgdlmgodpgcoaaW.PrintLast Go.Proofs.YtkgdlmgodpgcoaaW.PrintMore
set_option linter.unusedVariables false
set_option linter.unusedSimpArgs false

/-- What the first k slots have that is so. -/
def allT (p : TimT → Bool) (L : Nat → List TimT) : Nat → List TimT
  | 0 => []
  | k + 1 => allT p L k ++ (L k).filter p
theorem gath_all (p : TimT → Bool) (L : Nat → List TimT) (lv : Nat) : ∀ i, allT p L (lv * 64) ++ gath p L lv i = allT p L (lv * 64 + i)
  | 0 => by rw [gath, List.append_nil]; rfl
  | i + 1 => by rw [gath, ← List.append_assoc, gath_all p L lv i, ← Nat.add_assoc, allT]
/-- The first E slots are empty. -/
def gone (L : Nat → List TimT) (E : Nat) : Nat → List TimT := fun k => if k < E then [] else L k
theorem gone_zero (L : Nat → List TimT) (k : Nat) : gone L 0 k = L k := by unfold gone; rw [if_neg (by omega)]
theorem gath_gone (p : TimT → Bool) (L : Nat → List TimT) (lv : Nat) : ∀ i, gath p (gone L (lv * 64)) lv i = gath p L lv i
  | 0 => rfl
  | i + 1 => by
    rw [gath, gath, gath_gone p L lv i]
    congr 2
    unfold gone
    rw [if_neg (by omega)]
theorem cleared_gone (L : Nat → List TimT) (lv k : Nat) : gone L ((lv + 1) * 64) k = cleared (gone L (lv * 64)) lv 64 k := by
  unfold cleared gone
  by_cases h : lv * 64 ≤ k ∧ k < lv * 64 + 64
  · rw [if_pos (by omega), if_pos h]
  · rw [if_neg h]
    by_cases h2 : k < lv * 64
    · rw [if_pos (by omega), if_pos h2]
    · rw [if_neg (by omega), if_neg h2]
def tot (L : Nat → List TimT) : Nat → Nat
  | 0 => 0
  | k + 1 => tot L k + (L k).length
theorem tot_mono (L : Nat → List TimT) {a b : Nat} (h : a ≤ b) : tot L a ≤ tot L b := by
  induction h with
  | refl => exact Nat.le_refl _
  | step _ ih => rw [tot]; omega
theorem tot_one (L : Nat → List TimT) {k n : Nat} (h : k < n) : (L k).length ≤ tot L n := by
  have := tot_mono L (show k + 1 ≤ n from h)
  rw [tot] at this
  omega
theorem allT_le (p : TimT → Bool) (L : Nat → List TimT) : ∀ k, (allT p L k).length ≤ tot L k
  | 0 => Nat.le_refl _
  | k + 1 => by
    rw [allT, tot, List.length_append]
    have := allT_le p L k
    have := List.length_filter_le p (L k)
    omega
def xr (a b : Int) : Int := Go.bits .xor .u64 a b
theorem xr_nonneg {a b : Int} (h1 : 0 ≤ a) (h2 : a ≤ 18446744073709551615) (h3 : 0 ≤ b) (h4 : b ≤ 18446744073709551615) : 0 ≤ xr a b := by
  unfold xr
  rw [u64_xor a b h1 (by omega) h3 (by omega)]
  omega
def place (tz : Int) (L : Nat → List TimT) (t : TimT) : Nat → List TimT := fun i => if i = slotOf t.2 (xr t.2 tz) then L i ++ [t] else L i
def relo (tz : Int) (L : Nat → List TimT) (ts : List TimT) : Nat → List TimT := ts.foldl (place tz) L
theorem relo_snoc (tz : Int) (L : Nat → List TimT) (ts : List TimT) (t : TimT) : relo tz L (ts ++ [t]) = place tz (relo tz L ts) t := by
  unfold relo
  rw [List.foldl_append]
  rfl
theorem relo_len (tz : Int) (s : Nat) : ∀ (ts : List TimT) (L : Nat → List TimT), (relo tz L ts s).length ≤ (L s).length + ts.length
  | [], _ => Nat.le_refl _
  | t :: ts, L => by
    have h := relo_len tz s ts (place tz L t)
    have h2 : (place tz L t s).length ≤ (L s).length + 1 := by
      unfold place
      split
      · rw [List.length_append]; exact Nat.le_refl _
      · omega
    show (relo tz (place tz L t) ts s).length ≤ _
    rw [List.length_cons]
    omega
def dels (D : DT) (ts : List TimT) : DT := ts.foldl (fun D t => D.del (.int .u64 t.1)) D
theorem dels_snoc (D : DT) (ts : List TimT) (t : TimT) : dels D (ts ++ [t]) = (dels D ts).del (.int .u64 t.1) := by
  unfold dels
  rw [List.foldl_append]
  rfl

theorem KR.not_wheel {α : Type} {d : Kd α} {e base g m : Nat} {ok : Nat → Prop} {w : World} {v : Value} {l : List α} {now : Int} {R : Nat → Value} (h : d.R e w base ok v l) (hq : ∀ q, q ∈ e :: d.E → q ≠ 80) (hW : WhlAt w g m now R) : some g ≠ v.ownBlock := fun e2 => by
  obtain ⟨_, _, _, q, hq2, cells, hc⟩ := (Kd.R_bound h).1 g e2.symm
  obtain ⟨cs, h1, _⟩ := hW
  rw [h1] at hc
  injection hc with hc
  injection hc with _ ht _
  exact hq q hq2 ht.symm
theorem KR.not_map {α : Type} {d : Kd α} {e base m n : Nat} {ok : Nat → Prop} {w : World} {v : Value} {l : List α} {D : DT} (h : d.R e w base ok v l) (hD : Due w m n D) : some m ≠ v.ownBlock := fun e2 => by
  obtain ⟨_, _, _, q, hq, cells, hc⟩ := (Kd.R_bound h).1 m e2.symm
  obtain ⟨es, clock, h1, _⟩ := hD
  rw [h1] at hc
  cases hc
/-- The map has turned. -/
theorem KR.turned {α : Type} {d : Kd α} {e base m n : Nat} {ok : Nat → Prop} {w w' : World} {v : Value} {l : List α} {D : DT} (h : d.R e w base ok v l) (hD : Due w m n D) (ht : w.mapTurned w' m) : d.R e w' base ok v l := by
  obtain ⟨es, clock, h2, _⟩ := hD
  refine Kd.R_mono (Kd.R_grown (Kd.R_bound h) ht.grown (fun k hk e2 => ?_)) (fun k hk => hk.1)
  obtain ⟨_, _, _, q, hq, cells, hc⟩ := hk
  rw [Option.some.inj e2, h2] at hc
  cases hc
theorem WhlSt.turned {w0 w w' : World} {base : Nat} {P : Nat → Prop} {g m n n' : Nat} {now : Int} {D D' : DT} {R : Nat → Value} {f : Nat → Nat} {L : Nat → List TimT} (h : WhlSt w0 w base P g m n now D R f L) (hD : Due w' m n' D') (ht : w.mapTurned w' m) : WhlSt w0 w' base P g m n' now D' R f L :=
  ⟨h.whl.grown ht.grown (fun e => h.gm (Option.some.inj e)), hD, fun i hi => KR.turned (h.row i hi) h.due ht, h.bel.grown ht.grown h.size (fun k e => by cases e; exact h.hm), h.hg, h.hm, h.keepG ht.grown (fun k hk e => (h.prot k hk).2.2.2 (Option.some.inj e)), h.prot⟩
/-- Another row (of the call's own, of any kind) has grown. -/
theorem WhlSt.appendR {α : Type} {d : Kd α} {e : Nat} {w0 W w' : World} {base : Nat} {P : Nat → Prop} {g m n q : Nat} {now : Int} {D : DT} {R : Nat → Value} {f : Nat → Nat} {L : Nat → List TimT} {u : Value} {l : List α} (h : WhlSt w0 W base P g m n now D R f L) (hu : d.R e W base (fun k => f k = q) u l) (hne : ∀ q, q ∈ e :: d.E → q ≠ 80) (hq : 257 ≤ q ∧ q < 1000) (hg : W.grownBy w' u.ownBlock) (hb : Below base w0 w') :
    WhlSt w0 w' base P g m n now D R (fun k => if k < W.heap.size then f k else q) L :=
  ⟨h.whl.grown hg (KR.not_wheel hu hne h.whl), Due.same h.due (hg.block m (World.ownsMap.lt h.due) (KR.not_map hu h.due)), fun i hi => TR.other (h.row i hi) (by omega) hu.1 hg, hb, h.hg, h.hm, h.keepG hg (h.notRow hq.2 hu.1), h.protG q⟩
/-- A timer has been laid into a slot. -/
theorem WhlSt.placed {w0 w2 w3 : World} {base : Nat} {P : Nat → Prop} {g m n j : Nat} {now : Int} {D : DT} {R : Nat → Value} {f : Nat → Nat} {L : Nat → List TimT} {v : Value} {t : TimT} (h : WhlSt w0 w2 base P g m n now D R f L) (hj : j < 257) (ho : TR w3 base (fun k => if k < w2.heap.size then f k else j) j v (L j ++ [t])) (hb : Below base w0 w3) (hg : w2.grownBy w3 (R j).ownBlock) :
    WhlSt w0 (w3.setCell ⟨g, 1 + j, none⟩ v) base P g m n now D (upd R j v) (fun k => if k < w2.heap.size then f k else j) (fun i => if i = j then L i ++ [t] else L i) := by
  have hW3 := h.whl.grown hg (TR.not_wheel (h.row j hj) h.whl)
  refine ⟨hW3.put j hj _, ?_, fun i hi => ?_, hb.setCell (p := ⟨g, 1 + j, none⟩) h.hg _, h.hg, h.hm, fun k hk => (Below.heap_setCell w3 ⟨g, 1 + j, none⟩ _ k (h.prot k hk).2.2.1).trans (h.keepG hg (h.notRow (by omega) (h.row j hj).1) k hk), h.protG j⟩
  · refine Due.same h.due ((Below.heap_setCell w3 ⟨g, 1 + j, none⟩ _ m (fun e => h.gm e.symm)).trans (hg.block m (World.ownsMap.lt h.due) (TR.not_map (h.row j hj) h.due)))
  · show TR _ base (fun k => if k < w2.heap.size then f k else j) i (upd R j _ i) (if i = j then L i ++ [t] else L i)
    unfold upd
    by_cases e : i = j
    · subst e
      rw [if_pos rfl, if_pos rfl]
      exact TR.store ho hW3 _ _
    · rw [if_neg e, if_neg e]
      exact TR.store (TR.other (h.row i hi) e (h.row j hj).1 hg) hW3 _ _
/-- .. and what it is to another row. -/
theorem TR.placed {w0 w2 w3 : World} {base : Nat} {P : Nat → Prop} {g m n j q : Nat} {now : Int} {D : DT} {R : Nat → Value} {f : Nat → Nat} {L : Nat → List TimT} {v u : Value} {l : List TimT} (h : WhlSt w0 w2 base P g m n now D R f L) (hj : j < 257) (hq : 257 ≤ q) (hu : TR w2 base f q u l) (hg : w2.grownBy w3 (R j).ownBlock) :
    TR (w3.setCell ⟨g, 1 + j, none⟩ v) base (fun k => if k < w2.heap.size then f k else j) q u l :=
  TR.store (TR.other hu (by omega) (h.row j hj).1 hg) (h.whl.grown hg (TR.not_wheel (h.row j hj) h.whl)) _ _
theorem WhlSt.time {w0 w : World} {base : Nat} {P : Nat → Prop} {g m n : Nat} {now : Int} {D : DT} {R : Nat → Value} {f : Nat → Nat} {L : Nat → List TimT} (h : WhlSt w0 w base P g m n now D R f L) (t : Int) : WhlSt w0 (w.setCell ⟨g, 0, none⟩ (.int .u64 t)) base P g m n t D R f L :=
  ⟨h.whl.time t, Due.same h.due (Below.heap_setCell w ⟨g, 0, none⟩ _ m (fun e => h.gm e.symm)), fun i hi => TR.store (h.row i hi) h.whl _ _, h.bel.setCell (p := ⟨g, 0, none⟩) h.hg _, h.hg, h.hm, h.keepS _ _, h.prot⟩
/-- A slot's row has been written over, in its place. -/
theorem WhlSt.shrunk {w0 w2 w3 : World} {base : Nat} {P : Nat → Prop} {g m n j : Nat} {now : Int} {D : DT} {R : Nat → Value} {f : Nat → Nat} {L : Nat → List TimT} {v : Value} {l : List TimT} (h : WhlSt w0 w2 base P g m n now D R f L) (hj : j < 257) (ho : TR w3 base f j v l) (hg : w2.grownBy w3 (R j).ownBlock) :
    WhlSt w0 (w3.setCell ⟨g, 1 + j, none⟩ v) base P g m n now D (upd R j v) f (fun i => if i = j then l else L i) := by
  have hW3 := h.whl.grown hg (TR.not_wheel (h.row j hj) h.whl)
  refine ⟨hW3.put j hj _, ?_, fun i hi => ?_, (h.bel.grown hg h.size (fun k e => ((Kd.R_bound (h.row j hj)).1 k e).2.1)).setCell (p := ⟨g, 1 + j, none⟩) h.hg _, h.hg, h.hm, fun k hk => (Below.heap_setCell w3 ⟨g, 1 + j, none⟩ _ k (h.prot k hk).2.2.1).trans (h.keepG hg (h.notRow (by omega) (h.row j hj).1) k hk), h.prot⟩
  · refine Due.same h.due ((Below.heap_setCell w3 ⟨g, 1 + j, none⟩ _ m (fun e => h.gm e.symm)).trans (hg.block m (World.ownsMap.lt h.due) (TR.not_map (h.row j hj) h.due)))
  · show TR _ base f i (upd R j _ i) (if i = j then l else L i)
    unfold upd
    by_cases e : i = j
    · subst e
      rw [if_pos rfl, if_pos rfl]
      exact TR.store ho hW3 _ _
    · rw [if_neg e, if_neg e]
      refine TR.store (Kd.R_grown (h.row i hi) hg (fun k hk e2 => e ?_)) hW3 _ _
      exact hk.symm.trans ((h.row j hj).1 k e2.symm)
/-- A row of the call's own has been written over, in its place. -/
theorem WhlSt.rewrote {w0 W w' : World} {base : Nat} {P : Nat → Prop} {g m n q : Nat} {now : Int} {D : DT} {R : Nat → Value} {f : Nat → Nat} {L : Nat → List TimT} {u : Value} {l : List TimT} (h : WhlSt w0 W base P g m n now D R f L) (hu : TR W base f q u l) (hq : 257 ≤ q ∧ q < 1000) (hg : W.grownBy w' u.ownBlock) : WhlSt w0 w' base P g m n now D R f L :=
  ⟨h.whl.grown hg (TR.not_wheel hu h.whl), Due.same h.due (hg.block m (World.ownsMap.lt h.due) (TR.not_map hu h.due)), fun i hi => Kd.R_grown (h.row i hi) hg (fun k hk e => by have := hu.1 k e.symm; omega), h.bel.grown hg h.size (fun k e => ((Kd.R_bound hu).1 k e).2.1), h.hg, h.hm, h.keepG hg (h.notRow hq.2 hu.1), h.prot⟩
end Go.Proofs.Ytkgdlmgodpgcoaa.Hand
