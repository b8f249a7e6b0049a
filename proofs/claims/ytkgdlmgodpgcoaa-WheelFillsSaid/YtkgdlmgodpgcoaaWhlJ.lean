/- Wheel: its state, told by the list of its timers; what a call keeps. -/
import Derived.Test.YtkgdlmgodpgcoaaWhlI
namespace Go.Proofs.Ytkgdlmgodpgcoaa.Hand
open Go.RowKit Go.Maps Go.Proofs.YtkgdlmgodpgcoaaW.PrintWords Go.Proofs.YtkgdlmgodpgcoaaW.PrintLast Go.Proofs.YtkgdlmgodpgcoaaW.PrintMore
set_option linter.unusedVariables false
set_option linter.unusedSimpArgs false

def ent (t : TimT) : Lit × DT := (.int .u64 t.1, .lit (.int .u64 t.2))
theorem same_u64 (a b : Int) : (Lit.int .u64 a).sameKey (.int .u64 b) = decide (a = b) := by
  rw [Bool.eq_iff_iff]
  simp [Lit.sameKey]
/-- The map holds the timers. -/
def MapIs (D : DT) (Ls : List TimT) : Prop := ∃ es, D = .map es ∧ es.Perm (Ls.map ent)
theorem MapIs.empty : MapIs (.map []) [] := ⟨[], rfl, List.Perm.refl _⟩
theorem MapIs.size {D : DT} {Ls : List TimT} (h : MapIs D Ls) : Maps.size D = Ls.length := by
  obtain ⟨es, rfl, hp⟩ := h
  rw [Maps.size_eq, hp.length_eq, List.length_map]
theorem any_perm {α : Type} (f : α → Bool) {a b : List α} (h : a.Perm b) : a.any f = b.any f := by
  rw [Bool.eq_iff_iff, List.any_eq_true, List.any_eq_true]
  exact ⟨fun ⟨x, h1, h2⟩ => ⟨x, h.mem_iff.1 h1, h2⟩, fun ⟨x, h1, h2⟩ => ⟨x, h.mem_iff.2 h1, h2⟩⟩
def hasId (Ls : List TimT) (id : Int) : Bool := Ls.any fun t => decide (t.1 = id)
theorem MapIs.has_ {D : DT} {Ls : List TimT} (h : MapIs D Ls) (id : Int) : Maps.has D (.int .u64 id) = hasId Ls id := by
  obtain ⟨es, rfl, hp⟩ := h
  rw [Maps.has_eq, any_perm _ hp, List.any_map]
  unfold hasId
  congr 1
  funext t
  exact same_u64 _ _
theorem hasId_false {Ls : List TimT} {id : Int} : hasId Ls id = false ↔ ∀ t ∈ Ls, t.1 ≠ id := by
  unfold hasId
  rw [List.any_eq_false]
  simp
theorem hasId_mem {Ls : List TimT} {id : Int} (h : hasId Ls id = true) : ∃ t, t ∈ Ls ∧ t.1 = id := by
  unfold hasId at h
  rw [List.any_eq_true] at h
  obtain ⟨t, h1, h2⟩ := h
  exact ⟨t, h1, by simpa using h2⟩
theorem nodup_eq {Ls : List TimT} (hN : (Ls.map (·.1)).Nodup) {a b : TimT} (ha : a ∈ Ls) (hb : b ∈ Ls) (e : a.1 = b.1) : a = b := by
  induction Ls with
  | nil => cases ha
  | cons t l ih =>
    rw [List.map_cons, List.nodup_cons] at hN
    rcases List.mem_cons.1 ha with rfl | ha' <;> rcases List.mem_cons.1 hb with rfl | hb'
    · rfl
    · exact absurd (List.mem_map.2 ⟨b, hb', e.symm⟩) hN.1
    · exact absurd (List.mem_map.2 ⟨a, ha', e⟩) hN.1
    · exact ih hN.2 ha' hb'
theorem MapIs.at_ {D : DT} {Ls : List TimT} (h : MapIs D Ls) (hN : (Ls.map (·.1)).Nodup) {t : TimT} (ht : t ∈ Ls) (z : DT) : D.atKey (.int .u64 t.1) z = .lit (.int .u64 t.2) := by
  obtain ⟨es, rfl, hp⟩ := h
  have hm : ent t ∈ es := hp.mem_iff.2 (List.mem_map.2 ⟨t, ht, rfl⟩)
  have key : es.find? (fun p => p.1.sameKey (.int .u64 t.1)) = some (ent t) := by
    cases hf : es.find? (fun p => p.1.sameKey (.int .u64 t.1)) with
    | none =>
      have := List.find?_eq_none.1 hf (ent t) hm
      simp [ent, same_u64] at this
    | some p =>
      have h1 := List.mem_of_find?_eq_some hf
      have h2 := List.find?_some hf
      obtain ⟨u, hu, rfl⟩ := List.mem_map.1 (hp.mem_iff.1 h1)
      have h3 : u.1 = t.1 := by simpa [ent, same_u64] using h2
      rw [nodup_eq hN hu ht h3]
  unfold DataW.atKey
  simp only [key]
  rfl
theorem MapIs.put {D : DT} {Ls : List TimT} (h : MapIs D Ls) {t : TimT} (hn : hasId Ls t.1 = false) : MapIs (D.put (.int .u64 t.1) (.lit (.int .u64 t.2))) (Ls ++ [t]) := by
  obtain ⟨es, rfl, hp⟩ := h
  refine ⟨_, rfl, (Go.WideShapes.insert_perm _ _).trans ?_⟩
  rw [List.filter_eq_self.2 (fun p hp2 => ?_)]
  · refine (List.Perm.cons _ hp).trans ?_
    rw [List.map_append]
    exact (List.perm_append_comm (l₁ := Ls.map ent) (l₂ := [t].map ent)).symm
  · obtain ⟨u, hu, rfl⟩ := List.mem_map.1 (hp.mem_iff.1 hp2)
    have := hasId_false.1 hn u hu
    simp [ent, same_u64, this]
def without (Ls : List TimT) (id : Int) : List TimT := Ls.filter fun t => !decide (t.1 = id)
theorem MapIs.del {D : DT} {Ls : List TimT} (h : MapIs D Ls) (id : Int) : MapIs (D.del (.int .u64 id)) (without Ls id) := by
  obtain ⟨es, rfl, hp⟩ := h
  refine ⟨_, rfl, (hp.filter _).trans ?_⟩
  rw [List.filter_map]
  unfold without
  rw [List.filter_congr (fun t _ => ?_)]
  simp [ent, same_u64]
theorem MapIs.perm {D : DT} {Ls Ls' : List TimT} (h : MapIs D Ls) (hp : Ls.Perm Ls') : MapIs D Ls' := by
  obtain ⟨es, e, h2⟩ := h
  exact ⟨es, e, h2.trans (hp.map _)⟩
theorem MapIs.dels {D : DT} : ∀ {ts Ls : List TimT}, MapIs D Ls → MapIs (dels D ts) (Ls.filter fun t => !hasId ts t.1) := by
  intro ts
  induction ts generalizing D with
  | nil =>
    intro Ls h
    have e : (Ls.filter fun t => !hasId [] t.1) = Ls := List.filter_eq_self.2 (fun _ _ => rfl)
    rw [e]
    exact h
  | cons t ts ih =>
    intro Ls h
    have h2 := ih (h.del t.1)
    unfold without at h2
    rw [List.filter_filter, List.filter_congr (q := fun u => !hasId (t :: ts) u.1) (fun u _ => ?_)] at h2
    · exact h2
    · unfold hasId
      rw [List.any_cons, Bool.not_or]
      rw [Bool.eq_iff_iff]
      simp
      constructor
      · rintro ⟨a, b⟩; exact ⟨fun e => b e.symm, a⟩
      · rintro ⟨a, b⟩; exact ⟨b, fun e => a e.symm⟩
structure Facts (D : DT) (L : Nat → List TimT) (now : Int) (Ls : List TimT) : Prop where
  map : MapIs D Ls
  slots : Slots L Ls now
  ok : ∀ t, t ∈ Ls → TimOk t ∧ now < t.2
  nodup : (Ls.map (·.1)).Nodup
  len : Ls.length ≤ 8192
  now_ : U now
  beyond : ∀ s, 257 ≤ s → L s = []
theorem count_slots (now : Int) (Ls : List TimT) : ∀ k, ((Ls.filter fun t => decide (slotD t.2 now < k)).length) + (Ls.filter fun t => decide (slotD t.2 now = k)).length = (Ls.filter fun t => decide (slotD t.2 now < k + 1)).length := fun k => by
  rw [← List.length_append]
  refine ((filter_or _ _ Ls (fun t _ => ?_)).trans ?_).length_eq
  · simp; omega
  · rw [List.filter_congr (fun t _ => ?_)]
    rw [Bool.eq_iff_iff]
    simp
    omega
theorem tot_slots {L : Nat → List TimT} {Ls : List TimT} {now : Int} (h : Slots L Ls now) : ∀ k, k ≤ 257 → tot L k = (Ls.filter fun t => decide (slotD t.2 now < k)).length
  | 0, _ => by rw [List.filter_eq_nil_iff.2 (fun t _ => by simp)]; rfl
  | k + 1, hk => by rw [tot, tot_slots h k (by omega), (h k (by omega)).length_eq, count_slots]
theorem Facts.tot_le {D : DT} {L : Nat → List TimT} {now : Int} {Ls : List TimT} (h : Facts D L now Ls) : tot L 257 ≤ 8192 := by
  rw [tot_slots h.slots 257 (Nat.le_refl _)]
  exact Nat.le_trans (List.length_filter_le _ _) h.len
theorem Facts.each_le {D : DT} {L : Nat → List TimT} {now : Int} {Ls : List TimT} (h : Facts D L now Ls) (s : Nat) : (L s).length ≤ 8192 := by
  by_cases hs : s < 257
  · exact Nat.le_trans (tot_one L hs) h.tot_le
  · rw [h.beyond s (by omega)]; exact Nat.zero_le _
theorem Facts.mem {D : DT} {L : Nat → List TimT} {now : Int} {Ls : List TimT} (h : Facts D L now Ls) {k : Nat} (hk : k < 257) {t : TimT} (ht : t ∈ L k) : t ∈ Ls := (List.mem_filter.1 ((h.slots k hk).mem_iff.1 ht)).1
/-- The wheel's own blocks are among F; its timers are Ls. -/
structure Wst (w : World) (F : Nat → Prop) (g m : Nat) (now : Int) (Ls : List TimT) : Prop where
  out : ∃ D R L, WhlAt w g m now R ∧ Due w m (Maps.size D) D ∧ (∀ i, i < 257 → Kd.R kT 84 w 0 F (R i) (L i)) ∧ (∀ i j, i < 257 → j < 257 → ∀ k, (R i).ownBlock = some k → (R j).ownBlock = some k → i = j) ∧ Facts D L now Ls
  hg : F g
  hm : F m
  lt : ∀ k, F k → k < w.heap.size
structure KeptW (F : Nat → Prop) (w w' : World) : Prop where
  bel : Below 0 w w'
  same : ∀ k, k < w.heap.size → ¬ F k → w'.heap[k]? = w.heap[k]?
theorem KeptW.refl (F : Nat → Prop) (w : World) : KeptW F w w := ⟨Below.refl _ _, fun _ _ _ => rfl⟩
theorem KeptW.of_below {F : Nat → Prop} {w w' : World} (h : Below w.heap.size w w') : KeptW F w w' := ⟨h.mono (Nat.zero_le _), fun k hk _ => h.block k hk⟩
theorem KeptW.trans {F F' : Nat → Prop} {a b c : World} (h : KeptW F a b) (h2 : KeptW F' b c) (hF : ∀ k, F' k → F k ∨ a.heap.size ≤ k) : KeptW F a c :=
  ⟨h.bel.trans h2.bel, fun k hk hn => (h2.same k (Nat.lt_of_lt_of_le hk h.bel.size) (fun h3 => by rcases hF k h3 with h4 | h4; exact hn h4; omega)).trans (h.same k hk hn)⟩
theorem KeptW.mono {F F' : Nat → Prop} {a b : World} (h : KeptW F a b) (hF : ∀ k, F k → F' k) : KeptW F' a b := ⟨h.bel, fun k hk hn => h.same k hk (fun h2 => hn (hF k h2))⟩
theorem KeptW.below {F : Nat → Prop} {B : Nat} {w0 w w' : World} (hb : Below B w0 w) (hB : B ≤ w.heap.size) (h : KeptW F w w') (hF : ∀ k, F k → B ≤ k) : Below B w0 w' :=
  ⟨h.bel.os.trans hb.os, h.bel.tape.trans hb.tape, h.bel.output.trans hb.output, Nat.le_trans hb.size h.bel.size, fun k hk => (h.same k (by omega) (fun h2 => by have := hF k h2; omega)).trans (hb.block k hk)⟩
theorem Due.resize {w : World} {m n : Nat} {D : DT} (h : Due w m n D) : Due w m (Maps.size D) D := by
  obtain ⟨es, clock, h1, h2, h3, rfl⟩ := h
  refine ⟨es, clock, h1, h2, ?_, rfl⟩
  simp [Maps.size, length_sorted]
theorem Wst.open_ {w : World} {F : Nat → Prop} {g m : Nat} {now : Int} {Ls : List TimT} (h : Wst w F g m now Ls) : ∃ D R f L, WhlSt w w 0 (fun k => k < w.heap.size ∧ ¬ F k) g m (Maps.size D) now D R f L ∧ Facts D L now Ls := by
  obtain ⟨⟨D, R, L, hW, hD, hR, hdis, hF⟩, hg, hm, hlt⟩ := h
  classical
  refine ⟨D, R, fun k => if hx : ∃ i, i < 257 ∧ (R i).ownBlock = some k then Classical.choose hx else 1000, L, ⟨hW, hD, fun i hi => ?_, Below.refl _ _, Nat.zero_le _, Nat.zero_le _, fun _ _ => rfl, fun k hk => ⟨hk.1, ?_, fun e => hk.2 (by rw [e]; exact hg), fun e => hk.2 (by rw [e]; exact hm)⟩⟩, hF⟩
  · refine Kd.R_mono (Kd.R_tight (by rfl) (hR i hi)) (fun k hk => ?_)
    have hx : ∃ i, i < 257 ∧ (R i).ownBlock = some k := ⟨i, hi, hk.symm⟩
    show (if hx : ∃ i, i < 257 ∧ (R i).ownBlock = some k then Classical.choose hx else 1000) = i
    rw [dif_pos hx]
    have hc := Classical.choose_spec hx
    exact hdis _ _ hc.1 hi k hc.2 hk.symm
  · show (if hx : ∃ i, i < 257 ∧ (R i).ownBlock = some k then Classical.choose hx else 1000) = 1000
    rw [dif_neg]
    rintro ⟨i, hi, e⟩
    exact hk.2 ((hR i hi).1 k e)
theorem Wst.close {w w' : World} {F : Nat → Prop} {g m n : Nat} {now : Int} {Ls : List TimT} {D : DT} {R : Nat → Value} {f : Nat → Nat} {L : Nat → List TimT} (h : WhlSt w w' 0 (fun k => k < w.heap.size ∧ ¬ F k) g m n now D R f L) (hF : Facts D L now Ls) :
    ∃ F', Wst w' F' g m now Ls ∧ (∀ k, F' k → F k ∨ w.heap.size ≤ k) ∧ KeptW F w w' := by
  refine ⟨fun k => k = g ∨ k = m ∨ ∃ i, i < 257 ∧ (R i).ownBlock = some k, ⟨⟨D, R, L, h.whl, h.due.resize, fun i hi => ?_, ?_, hF⟩, .inl rfl, .inr (.inl rfl), ?_⟩, ?_, ⟨h.bel, fun k hk hn => h.keep k ⟨hk, hn⟩⟩⟩
  · exact Kd.R_mono (Kd.R_tight (by rfl) (h.row i hi)) (fun k hk => .inr (.inr ⟨i, hi, hk.symm⟩))
  · intro i j hi hj k e1 e2
    exact ((h.row i hi).1 k e1).symm.trans ((h.row j hj).1 k e2)
  · rintro k (rfl | rfl | ⟨i, hi, e⟩)
    · exact h.whl.lt
    · exact World.ownsMap.lt h.due
    · exact ((Kd.R_bound (h.row i hi)).1 k e).2.2.1
  · intro k hk
    by_cases h1 : F k
    · exact .inl h1
    · rcases Nat.lt_or_ge k w.heap.size with h2 | h2
      · obtain ⟨_, h3, h4, h5⟩ := h.prot k ⟨h2, h1⟩
        rcases hk with rfl | rfl | ⟨i, hi, e⟩
        · exact absurd rfl h4
        · exact absurd rfl h5
        · have h6 : f k = i := (h.row i hi).1 k e
          omega
      · exact .inr h2
/-- What another has done. -/
theorem Wst.kept {w w' : World} {F G : Nat → Prop} {g m : Nat} {now : Int} {Ls : List TimT} (h : Wst w F g m now Ls) (hk : KeptW G w w') (hd : ∀ k, F k → ¬ G k) : Wst w' F g m now Ls := by
  obtain ⟨⟨D, R, L, hW, hD, hR, hdis, hF⟩, hg, hm, hlt⟩ := h
  exact ⟨⟨D, R, L, hW.same (hk.same g (hlt g hg) (hd g hg)), Due.same hD (hk.same m (hlt m hm) (hd m hm)), fun i hi => Kd.R_step (hR i hi) (fun k ho hl => hk.same k hl (hd k ho)), hdis, hF⟩, hg, hm, fun k h => Nat.lt_of_lt_of_le (hlt k h) hk.bel.size⟩
theorem Wst.perm {w : World} {F : Nat → Prop} {g m : Nat} {now : Int} {Ls Ls' : List TimT} (h : Wst w F g m now Ls) (hp : Ls.Perm Ls') : Wst w F g m now Ls' := by
  obtain ⟨⟨D, R, L, hW, hD, hR, hdis, hF⟩, hg, hm, hlt⟩ := h
  exact ⟨⟨D, R, L, hW, hD, hR, hdis, ⟨hF.map.perm hp, fun k hk => (hF.slots k hk).trans (hp.filter _), fun t ht => hF.ok t (hp.mem_iff.2 ht), ((hp.map _).nodup_iff).1 hF.nodup, hp.length_eq ▸ hF.len, hF.now_, hF.beyond⟩⟩, hg, hm, hlt⟩
theorem wheel_New.wst (now : Int) (hn : U now) (w : World) : Calls Try.prog 16 #[.int .u64 now] w fun e w' => ∃ g m F, e = .returned (.pointer (some ⟨g, 0, none⟩)) ∧ Wst w' F g m now [] ∧ (∀ k, F k → w.heap.size ≤ k) ∧ Below w.heap.size w w' := by
  refine (wheel_New.calls now w).mono ?_
  rintro e w' ⟨g, m, rfl, hW, hD, hb, hg, hm⟩
  refine ⟨g, m, fun k => k = g ∨ k = m, rfl, ⟨⟨.map [], fun _ => .slice none 0 0, fun _ => [], hW, hD, fun i hi => Kd.R_nil _ _ _ _ _, ?_, ⟨MapIs.empty, fun k hk => List.Perm.refl _, ?_, List.nodup_nil, Nat.zero_le _, hn, fun _ _ => rfl⟩⟩, .inl rfl, .inr rfl, ?_⟩, ?_, hb⟩
  · intro i j _ _ k e1
    simp [Value.ownBlock] at e1
  · intro t ht
    cases ht
  · rintro k (rfl | rfl)
    · exact hW.lt
    · exact World.ownsMap.lt hD
  · rintro k (rfl | rfl)
    · exact hg
    · exact hm
end Go.Proofs.Ytkgdlmgodpgcoaa.Hand
