/- spoil: the walk. -/
import Derived.Test.YtdekcjopgnfmdaaDskBI
import Derived.Test.YtdekcjopgnfmdaaDskBD
namespace Go.Proofs.Ytdekcjopgnfmdaa.Hand
open Go.RowKit Go.Maps Go.Proofs.YtdekcjopgnfmdaaW.PrintWords Go.Proofs.YtdekcjopgnfmdaaW.PrintLast Go.Proofs.YtdekcjopgnfmdaaW.PrintMore Go.Proofs.Ytdekcjopgnfmdaa.Q
set_option linter.unusedVariables false
set_option linter.unusedSimpArgs false
/-- Y has turned, then what is either Y or new. -/
theorem KeptL.comp {Y : Nat → Prop} {w wr w' : World} (h : KeptL Y w wr) (k : KeptL (fun k => Y k ∨ w.heap.size ≤ k) wr w') : KeptL Y w w' :=
  ⟨k.os.trans h.os, k.tape.trans h.tape, k.output.trans h.output, Nat.le_trans h.size k.size, fun b hb hn => (k.block b (Nat.lt_of_lt_of_le hb h.size) (fun hf => hf.elim hn (fun h2 => by omega))).trans (h.block b hb hn)⟩
/-- Files of the call's own, whatever they are; Y: what of w's blocks they may be. -/
def SpI (Y : Nat → Prop) (w wr : World) (m N : Nat) (v : Value) : Prop := KeptL Y w wr ∧ ∃ xs : List FilD, xs.length = N ∧ (∀ f, f ∈ xs → f.f1.length ≤ m) ∧ Kd.R kF 65 wr 0 (fun k => Y k ∨ w.heap.size ≤ k) v xs
theorem SpI.turn {Y : Nat → Prop} {w wr w' : World} {m N : Nat} {v : Value} (h : SpI Y w wr m N v) (t : BT wr w') (hb : KeptL (fun k => Y k ∨ w.heap.size ≤ k) wr w') : SpI Y w w' m N v := by
  obtain ⟨h1, xs, h2, h3, h4⟩ := h; obtain ⟨ys, k1, k2, k3⟩ := file_turn h4 t m h3; exact ⟨h1.comp hb, ys, k1.trans h2, k2, k3⟩
theorem SpI.more {Y : Nat → Prop} {w wr : World} {m m' N : Nat} {v : Value} (h : SpI Y w wr m N v) (hm : m ≤ m') : SpI Y w wr m' N v := by
  obtain ⟨h1, xs, h2, h3, h4⟩ := h; exact ⟨h1, xs, h2, fun f hf => Nat.le_trans (h3 f hf) hm, h4⟩
theorem SpI.set {Y : Nat → Prop} {w wr w9 : World} {m N i : Nat} {v : Value} {xs : List FilD} {s : ByteArray} {bs : List Int} (h1 : KeptL Y w wr) (hl : xs.length = N) (hm : ∀ f, f ∈ xs → f.f1.length ≤ m) (hb : bs.length ≤ m + 16) (h2 : KeptL (fun k => Y k ∨ w.heap.size ≤ k) wr w9) (h4 : Kd.R kF 65 w9 0 (fun k => Y k ∨ w.heap.size ≤ k) v (xs.set i ⟨s, bs⟩)) : SpI Y w w9 (m + 16) N v :=
  ⟨h1.comp h2, _, by rw [List.length_set]; exact hl, fun f hf => by
    rcases List.mem_or_eq_of_mem_set hf with hf | hf
    · have := hm f hf; omega
    · rw [hf]; exact hb, h4⟩
theorem SpI.elem {Y : Nat → Prop} {w wr : World} {m N c : Nat} {A : Option Addr} (h : SpI Y w wr m N (.slice A N c)) {i : Nat} (hi : i < N) :
    ∃ af A1 n1 c1, A = some af ∧ af = ⟨af.block, 0, none⟩ ∧ wr.cell? ⟨(af.add (i * 2)).block, (af.add (i * 2)).off + 1, none⟩ = some (.slice A1 n1 c1) ∧ n1 ≤ m ∧ (∃ cells, wr.heap[af.block]? = some (.cells cells 65 (0, 0))) ∧ ∃ bs, bs.length = n1 ∧ Kd.R kB 5 wr 0 (fun k => Y k ∨ w.heap.size ≤ k) (.slice A1 n1 c1) bs := by
  obtain ⟨h1, xs, h2, h3, h4⟩ := h; obtain ⟨af, _, hA, _⟩ := Kd.C_get (Kd.R_reads' h4).2.2 ⟨.empty, []⟩ (i : Int) (by omega) (by omega); subst hA; have hp := R_plain h4; obtain ⟨g, o, q⟩ := af; simp only at hp; injection hp with _ ho hq; subst ho hq; obtain ⟨inner, hown2⟩ := Kd.R_own h4; obtain ⟨cells, hcells⟩ := own_typed hown2 g (by simp [Value.ownBlock]); obtain ⟨cs, hcl, hM, hcc, hfz⟩ := Kd.R_elem h4 ⟨.empty, []⟩ (i : Int) (by omega) (by omega); rw [Int.toNat_natCast] at hM hcc hfz; obtain ⟨_, _, rfl, e1, v1, rfl, hr1⟩ := hM
  cases e1
  obtain ⟨A1, c1, hv1⟩ := Kd.R_slice hr1; subst hv1; refine ⟨⟨g, 0, none⟩, A1, _, c1, rfl, rfl, ?_, ?_, ⟨cells, hcells⟩, _, rfl, Kd.R_mono hr1 (fun _ h => h.1)⟩
  · rw [add_two]; exact hcc 1 _ rfl
  · rw [List.getD_eq_getElem?_getD, List.getElem?_eq_getElem (by omega)]; exact h3 _ (List.getElem_mem _)
theorem byte_own {w : World} {n1 c1 : Nat} {ok : Nat → Prop} {A1 : Option Addr} {bs : List Int} (h : Kd.R kB 5 w 0 ok (.slice A1 n1 c1) bs) {k : Nat} (hk : k < n1) :
    ∃ ag x, A1 = some ag ∧ ag = ⟨ag.block, 0, none⟩ ∧ w.cell? (ag.add k) = some (.int .u8 x) ∧ w.frozen? (ag.add k) = false ∧ ok ag.block ∧ ∃ cells, w.heap[ag.block]? = some (.cells cells 5 (0, 0)) := by
  have hl := (Kd.R_reads' h).1; obtain ⟨ag, _, hA, _⟩ := Kd.C_get (Kd.R_reads' h).2.2 0 (k : Int) (by omega) (by omega); subst hA; have hp := R_plain h; obtain ⟨g, o, q⟩ := ag; simp only at hp; injection hp with _ ho hq; subst ho hq; obtain ⟨k1, k2⟩ := Kd.R_celln (0 : Int) h (k : Int) (by omega) (by omega); rw [Int.toNat_natCast] at k1 k2; obtain ⟨inner, hown2⟩ := Kd.R_own h; obtain ⟨cells, hcells⟩ := own_typed hown2 g (by simp [Value.ownBlock]); exact ⟨⟨g, 0, none⟩, _, rfl, rfl, by rw [add_at, Nat.zero_add]; exact k1, by rw [add_at, Nat.zero_add]; exact k2, h.1 g (by simp [Value.ownBlock]), cells, hcells⟩
theorem cell_turn {w w' : World} {af : Addr} {q : Nat} {u : Value} (t : BT w w') (hp : af = ⟨af.block, 0, none⟩) (hb : ∃ cells, w.heap[af.block]? = some (.cells cells 65 (0, 0))) (hc : w.cell? ⟨(af.add q).block, (af.add q).off + 1, none⟩ = some u) : w'.cell? ⟨(af.add q).block, (af.add q).off + 1, none⟩ = some u := by
  obtain ⟨g, o, r⟩ := af; simp only at hp; injection hp with _ ho hq; subst ho hq; obtain ⟨cells, hb⟩ := hb; have hb' := t.other g _ hb (fun c e => by injection e with _ e _; exact absurd e (by decide)); rw [add_at, Nat.zero_add] at hc ⊢; rw [cell_of_row _ g _ cells _ (0, 0) hb] at hc; rw [cell_of_row _ g _ cells _ (0, 0) hb']; exact hc
theorem put_byte {w : World} {ag : Addr} {k : Nat} {ok : Nat → Prop} (hp : ag = ⟨ag.block, 0, none⟩) (hb : ∃ cells, w.heap[ag.block]? = some (.cells cells 5 (0, 0))) (hg : ok ag.block) (y : Int) : BT w (w.setCell (ag.add k) (.int .u8 y)) ∧ KeptL ok w (w.setCell (ag.add k) (.int .u8 y)) := by
  obtain ⟨g, o, r⟩ := ag; simp only at hp; injection hp with _ ho hq; subst ho hq; obtain ⟨cells, hb⟩ := hb; rw [add_at, Nat.zero_add]; exact ⟨BT.put hb k y, (KeptL.refl ok w).setCell ⟨g, k, none⟩ (.int .u8 y) (.inl hg)⟩
theorem byte_ownB {w : World} {base n1 c1 : Nat} {ok : Nat → Prop} {A1 : Option Addr} {bs : List Int} (h : Kd.R kB 5 w base ok (.slice A1 n1 c1) bs) {k : Nat} (hk : k < n1) :
    ∃ ag x, A1 = some ag ∧ ag = ⟨ag.block, 0, none⟩ ∧ w.cell? (ag.add k) = some (.int .u8 x) ∧ w.frozen? (ag.add k) = false ∧ base ≤ ag.block ∧ ∃ cells, w.heap[ag.block]? = some (.cells cells 5 (0, 0)) :=
  byte_own (ok := fun k => base ≤ k) (Kd.R_mono (Kd.R_lower (Kd.R_bound h) (Nat.zero_le _)) (fun _ hk => hk.2.1)) hk
theorem put_byteB {w : World} {ag : Addr} {k base : Nat} (hp : ag = ⟨ag.block, 0, none⟩) (hb : ∃ cells, w.heap[ag.block]? = some (.cells cells 5 (0, 0))) (hg : base ≤ ag.block) (y : Int) : BT w (w.setCell (ag.add k) (.int .u8 y)) ∧ Below base w (w.setCell (ag.add k) (.int .u8 y)) ∧ w.heap.size ≤ (w.setCell (ag.add k) (.int .u8 y)).heap.size := by
  obtain ⟨t1, t2⟩ := put_byte (k := k) (ok := fun k => base ≤ k) hp hb hg y; obtain ⟨cells, hb⟩ := hb; exact ⟨t1, t2.below (Nat.le_of_lt (Nat.lt_of_le_of_lt hg (blk_lt hb))) (fun b e => e), t2.size⟩
theorem store_file {ops : Array Oper} {rest : List Oper} {o : Oper} {a : Act} {Q : Exit → Act → World → Prop} {W : World} (ok : Nat → Prop) (hN : o.dst = none) (hgd : o.guard = none) (p x : Operand) (ho : o.op = .store 65 p x) {af : Addr} {N c i : Nat} {xs : List FilD} {bs : List Int} {s : ByteArray} {v' : Value}
    (haddr : a.eval p = .pointer (some (af.add (i * 2)))) (hx : a.eval x = .agg #[.string s, v']) (hpl : af = ⟨af.block, 0, none⟩) (hi : i < N)
    (HO : Kd.R kF 65 W 0 ok (.slice (some af) N c) xs) (hv : Kd.R kB 5 W 0 ok v' bs)
    (h : ∀ w1, Kd.R kF 65 w1 0 ok (.slice (some af) N c) (xs.set i ⟨s, bs⟩) → KeptL ok W w1 → wpList Try.prog ops Q rest a w1) : wpList Try.prog ops Q (o :: rest) a W := by
  obtain ⟨g, o', r⟩ := af; simp only at hpl; injection hpl with _ hq1 hq2; subst hq1 hq2; rw [add_two] at haddr; obtain ⟨inner, hown2⟩ := Kd.R_own HO; obtain ⟨cells, hcells⟩ := own_typed hown2 g (by simp [Value.ownBlock]); obtain ⟨cs, hcl, hM, hcc, hfz⟩ := Kd.R_elem HO ⟨.empty, []⟩ (i : Int) (by omega) (by omega); obtain ⟨A2, c2, hv2⟩ := Kd.R_slice hv; obtain ⟨n2, hn2⟩ : ∃ n2, n2 = bs.length := ⟨_, rfl⟩; rw [← hn2] at hv2; subst hv2; have hcl2 : cs.length = 2 := hcl; have hokg : ok g := HO.1 g (by simp [Value.ownBlock]); refine Kd.R_store kF (w0 := W) 0 hN hgd 65 p x ho 65 (i : Int) 0 xs ⟨s, bs⟩ _ [.string s, .slice A2 n2 c2] cs ok (fun k => ok k ∧ k ≠ g) haddr (by show i * 2 = (i : Int).toNat * 2 + 0; omega) hx rfl (by kernel_rfl) (by simp [Value.oneCell']) HO (by omega) (by omega) hcl hcc (by show 0 + 2 ≤ 2; omega) ?_ (fun _ hk => hk) (Below.refl _ _) (fun w1 h1 h2 h3 => h w1 (by rw [Int.toNat_natCast] at h1; exact h1) ((KeptL.refl ok W).grown h3 (fun k e => by injection e with e; subst e; exact .inl hokg))); rw [List.take_zero, List.nil_append, List.drop_eq_nil_of_le (by show cs.length ≤ 0 + 2; omega), List.append_nil]; exact ⟨[.string s], _, rfl, rfl, _, rfl, Kd.R_types hv hcells (by decide)⟩
set_option maxHeartbeats 1000000 in
set_option maxRecDepth 100000 in
theorem law_spoil.callsY {w : World} {m : Nat} {Y : Nat → Prop} {v : Value} {l : List FilD} (h : Kd.R kF 65 w 0 (fun k => Y k ∨ w.heap.size ≤ k) v l) (hm : ∀ f, f ∈ l → f.f1.length ≤ m) (hm2 : m ≤ 1073741824) (hl2 : l.length ≤ 1073741824) :
    Calls Try.prog 43 #[v] w fun e w' => (∃ r, e = .returned r) ∧ KeptL Y w w' := by
  obtain ⟨A, c, hv⟩ := Kd.R_slice h; obtain ⟨N, hN⟩ : ∃ N, N = l.length := ⟨_, rfl⟩; rw [← hN] at hv; subst hv; have HS : Aside0 (SpI Y w w m N (.slice A N c)) := ⟨KeptL.refl _ _, l, hN.symm, hm, h⟩; have hNb : (N : Int) ≤ 9223372036854775807 := by have := (Kd.R_reads' h).2.2.2.1; omega
  have HM2 : Aside0 (m ≤ 1073741824 ∧ N ≤ 1073741824) := ⟨hm2, by rw [hN]; exact hl2⟩; clear h hm hN hm2 hl2; go_enter Try.func43, Try.ntmps43
  go_upto_region 1 with (fail)
  go_loopw [2] (fun v2 wr => ∃ i : Nat, i ≤ N ∧ v2 = .int .i64 i ∧ Aside0 (SpI Y w wr m N (.slice A N c))) (fun v2 _ => N - (intOf v2).toNat)
  case atStart => exact ⟨0, Nat.zero_le _, rfl, HS⟩
  case round =>
    clear HS; obtain ⟨i, hi, rfl, HR⟩ := hrel; by_cases hlt : i < N
    · obtain ⟨af, A1, n1, c1, hA, hpl, k1, hn1, hblk, hby⟩ := HR.out.elem hlt; subst hA; have HPL := Aside0.mk hpl; have hn1b : (n1 : Int) ≤ 9223372036854775807 := by have := HM2.out.1; omega
      have HK1 : Aside0 (wr.cell? ⟨(af.add (i * 2)).block, (af.add (i * 2)).off + 1, none⟩ = some (.slice A1 n1 c1)) := ⟨k1⟩; clear hpl hn1 hblk hby k1; go_upto_region 4 with (fail)
      go_loopw [3] (fun v3 wq => ∃ k : Nat, k ≤ n1 ∧ v3 = .int .i64 k ∧ Aside0 (SpI Y w wq m N (.slice (some af) N c) ∧ wq.cell? ⟨(af.add (i * 2)).block, (af.add (i * 2)).off + 1, none⟩ = some (.slice A1 n1 c1))) (fun v3 _ => n1 - (intOf v3).toNat)
      case atStart => exact ⟨0, Nat.zero_le _, rfl, HR.out, HK1.out⟩
      case round =>
        clear HR HK1; obtain ⟨k, hk, rfl, HQ⟩ := hrel; have k1 := HQ.out.2; by_cases hlk : k < n1
        · obtain ⟨af', A1', n1', c1', hA, hpl, k1', hn1, hblk, bs, hbs, hby⟩ := HQ.out.1.elem hlt; injection hA with hA; subst hA; rw [k1] at k1'; injection k1' with k1'; injection k1' with e1 e2 e3; subst e1 e2 e3; obtain ⟨ag, x, hA1, hpg, y1, y2, hbg, hbk⟩ := byte_own hby hlk; subst hA1; have HP := Aside0.mk (And.intro hpg (And.intro hbg hbk)); have HF := Aside0.mk hblk; clear hpl hn1 hblk hbs hby hpg hbg hbk; go_wp2_with fail
          obtain ⟨t1, t2⟩ := put_byte (k := k) (ok := fun k => Y k ∨ w.heap.size ≤ k) HP.out.1 HP.out.2.2 HP.out.2.1 204; have HN2 := Aside0.mk (And.intro (HQ.out.1.turn t1 t2) (cell_turn t1 HPL.out HF.out HQ.out.2)); clear t1 t2 k1 y1 y2; go_roundw
          case rel => exact ⟨k + 1, by omega, by go_num, HN2⟩
          case measure => simp [intOf]; omega
        · have HN2 := Aside0.mk HQ.out.1; go_wp2_with fail
          clear k1; go_roundw
          case rel => exact ⟨i + 1, by omega, by go_num, HN2⟩
          case measure => simp [intOf]; omega
    · go_upto_region 8 with (fail)
      go_loopw [4] (fun v4 wr => ∃ i : Nat, i ≤ N ∧ v4 = .int .i64 i ∧ Aside0 (SpI Y w wr (m + 16 * i) N (.slice A N c))) (fun v4 _ => N - (intOf v4).toNat)
      case atStart => exact ⟨0, Nat.zero_le _, rfl, ⟨HR.out.more (Nat.le_add_right _ _)⟩⟩
      case round =>
        clear HR; obtain ⟨i2, hi2, rfl, HR⟩ := hrel; by_cases hlt2 : i2 < N
        · obtain ⟨af, A1, n1, c1, hA, hpl, k1, hn1, hblk, bs, hbs, hby⟩ := HR.out.elem hlt2; subst hA; have HPL := Aside0.mk hpl; have HBY : Aside0 (∃ bs : List Int, bs.length ≤ m + 16 * i2 + 0 ∧ Kd.R kB 5 wr 0 (fun k => Y k ∨ w.heap.size ≤ k) (.slice A1 n1 c1) bs) := ⟨bs, by omega, hby⟩; clear hpl hn1 hblk hby hbs; go_upto_region 12 with (fail)
          go_loopw [5, 6] (fun v5 v6 wq => ∃ k : Nat, k ≤ 16 ∧ v6 = .int .i64 k ∧ Aside0 (SpI Y w wq (m + 16 * i2) N (.slice (some af) N c) ∧ ∃ bs : List Int, bs.length ≤ m + 16 * i2 + k ∧ Kd.R kB 5 wq 0 (fun k => Y k ∨ w.heap.size ≤ k) v5 bs)) (fun _ v6 _ => 16 - (intOf v6).toNat)
          case atStart => exact ⟨0, Nat.zero_le _, rfl, HR.out, HBY.out⟩
          case round =>
            clear HR HBY k1; obtain ⟨k, hk, rfl, HQ⟩ := hrel; by_cases hlk : k < 16
            · have b1 : decide ((k : Int) < 16) = true := decide_eq_true (by omega); obtain ⟨bs, hbl, hby⟩ := HQ.out.2; have HBL : Aside0 (bs.length ≤ m + 16 * i2 + k) := ⟨hbl⟩; have HBY := Aside0.mk hby; have HBB : Aside0 (w.heap.size ≤ wr.heap.size) := ⟨HQ.out.1.1.size⟩; clear hbl hby; go_wp2_with (first | ((with_reducible refine gate_builtin (b := .append) (xs := #[.tmp 45, .tmp 46]) rfl ?_); at_builtin; refine append_byte (fun k => Y k ∨ w.heap.size ≤ k) rfl (.tmp 45) (.tmp 46) 53 rfl Try.underlying53 _ (by rfl) rfl rfl rfl u5 bs 187 rfl rfl HBY.out (fun k hk => .inr (Nat.le_trans HBB.out hk)) (by have := HBL.out; have := HM2.out; omega) ?_; intro v7 w7 ho7 hb7 ht7; have HO7 := Aside0.mk ho7; have HS7 := Aside0.mk (HQ.out.1.turn ht7 hb7); clear ho7 hb7 ht7))
              go_roundw
              case rel => exact ⟨k + 1, by omega, by go_num, HS7.out, _, by rw [List.length_append]; have := HBL.out; simp; omega, HO7.out⟩
              case measure => simp [intOf]; omega
            · have b1 : decide ((k : Int) < 16) = false := decide_eq_false (by omega); obtain ⟨bs, hbl, hby⟩ := HQ.out.2; obtain ⟨ab, nb, cb, hvb⟩ : ∃ ab nb cb, u5 = .slice ab nb cb := by obtain ⟨ab, cb, e⟩ := Kd.R_slice hby; exact ⟨_, _, _, e⟩
              subst hvb; have HBL : Aside0 (bs.length ≤ m + 16 * i2 + k) := ⟨hbl⟩; have HBY := Aside0.mk hby; have HKK : Aside0 (k = 16) := ⟨by omega⟩; clear hbl hby; obtain ⟨h1x, xs, hxl, hxm, hxr⟩ := HQ.out.1; have HX := Aside0.mk (And.intro hxl (And.intro hxm hxr)); clear hxl hxm hxr h1x; go_wp2_with (first | ((with_reducible refine gate_store (t := 65) (p := 52) rfl ?_); refine store_file (fun k => Y k ∨ w.heap.size ≤ k) rfl rfl (.tmp 52) (.tmp 51) rfl (af := af) (i := i2) rfl rfl HPL.out hlt2 HX.out.2.2 HBY.out ?_; intro w9 ho9 hb9; have HN9 := Aside0.mk (SpI.set HQ.out.1.1 HX.out.1 HX.out.2.1 (by have := HBL.out; have := HKK.out; omega) hb9 ho9); clear ho9 hb9))
              go_roundw
              case rel => exact ⟨i2 + 1, by omega, by go_num, ⟨HN9.out.more (by omega)⟩⟩
              case measure => simp [intOf]; omega
        · go_wp2_with fail
          go_end0; exact ⟨⟨_, rfl⟩, HR.out.1⟩
theorem law_spoil.calls {w : World} {base m : Nat} {v : Value} {l : List FilD} (h : Kd.R kF 65 w base (fun _ => True) v l) (hm : ∀ f, f ∈ l → f.f1.length ≤ m) (hm2 : m ≤ 1073741824) (hl2 : l.length ≤ 1073741824) (hbs : base ≤ w.heap.size) :
    Calls Try.prog 43 #[v] w fun e w' => (∃ r, e = .returned r) ∧ Below base w w' :=
  (law_spoil.callsY (Y := fun k => base ≤ k) (Kd.R_mono (Kd.R_lower (Kd.R_bound h) (Nat.zero_le _)) (fun _ hk => .inl hk.2.1)) hm hm2 hl2).mono fun _ _ hh => ⟨hh.1, hh.2.below hbs (fun _ hb => hb)⟩
end Go.Proofs.Ytdekcjopgnfmdaa.Hand
