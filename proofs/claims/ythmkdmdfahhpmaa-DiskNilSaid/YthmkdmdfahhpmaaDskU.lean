/- Disk: the law's live. -/
import Derived.Test.YthmkdmdfahhpmaaDskT
import Derived.Lib.SlBytesConst
namespace Go.Proofs.Ythmkdmdfahhpmaa.Hand
open Go.RowKit Go.Maps Go.Proofs.YthmkdmdfahhpmaaW.PrintWords Go.Proofs.YthmkdmdfahhpmaaW.PrintLast Go.Proofs.YthmkdmdfahhpmaaW.PrintMore Go.Proofs.Ythmkdmdfahhpmaa.Q
set_option linter.unusedVariables false
set_option linter.unusedSimpArgs false
def nA : ByteArray := ⟨#[97]⟩
def lv0 : DS := (newOf 100 []).1
def lv1 : DS := (opCreate lv0 nA).1
def lv2 : DS := (opAppend lv1 nA [120, 121]).1
def lv3 : DS := (opSync lv2 nA).1
def lv4 : DS := (opSyncDir lv3).1
def lv5 : DS := (opAppend lv4 nA [122]).1
theorem lv_0 : (newOf 100 []).2 = 0 := by decide +kernel
theorem lv_1 : (opCreate lv0 nA).2 = 0 := by decide +kernel
theorem lv_2 : (opAppend lv1 nA [120, 121]).2 = 0 := by decide +kernel
theorem lv_3 : (opSync lv2 nA).2 = 0 := by decide +kernel
theorem lv_4 : (opSyncDir lv3).2 = 0 := by decide +kernel
theorem lv_5 : (opAppend lv4 nA [122]).2 = 0 := by decide +kernel
theorem lv_6 : leftOf lv5 0 [] = [(nA, [120, 121])] := by decide +kernel
theorem lv_7 : leftOf lv5 0 [1] = [(nA, [120, 121, 122])] := by decide +kernel
theorem lv_8 : lv5.ops = 5 := by decide +kernel
theorem C_lit (w : World) (bs : List Int) (z : Nat × Nat) (h : bs.length ≤ 1073741824) : Kd.C kB (w.alloc (.cells (bs.map (Value.int .u8)).toArray 5 z)) (some ⟨w.heap.size, 0, none⟩) bs.length bs :=
  Kd.C_of_reads (enc := Value.int .u8) (h1 := fun _ => rfl) (d := 0) ⟨rfl, by omega, fun _ => ⟨_, rfl, fun j hj => by
    rw [add_plain]
    have h1 := cell_of_row (w.alloc (.cells (bs.map (Value.int .u8)).toArray 5 z)) w.heap.size j _ _ z (blk_new w (.cells (bs.map (Value.int .u8)).toArray 5 z))
    rw [h1]
    simp only [List.getElem?_toArray, List.getElem?_map]
    rw [List.getElem?_eq_getElem hj, List.getD_eq_getElem?_getD, List.getElem?_eq_getElem hj]
    rfl⟩⟩
theorem C_litI (w : World) (bs : List Int) (h : bs.length ≤ 1073741824) : Kd.C (Kd.int .i64) (w.alloc (.cells (bs.map (Value.int .i64)).toArray 3)) (some ⟨w.heap.size, 0, none⟩) bs.length bs :=
  Kd.C_of_reads (enc := Value.int .i64) (h1 := fun _ => rfl) (d := 0) ⟨rfl, by omega, fun _ => ⟨_, rfl, fun j hj => by
    rw [add_plain]
    have h1 := blk_cell (blk_new w (.cells (bs.map (Value.int .i64)).toArray 3)) j
    rw [h1]
    simp only [List.getElem?_toArray, List.getElem?_map]
    rw [List.getElem?_eq_getElem hj, List.getD_eq_getElem?_getD, List.getElem?_eq_getElem hj]
    rfl⟩⟩
set_option maxHeartbeats 4000000 in
set_option maxRecDepth 100000 in
theorem law_live.calls (w : World) : Calls Try.prog 12 #[] w fun e w' => e = .returned (.bool true) ∧ Below w.heap.size w w' := by
  have kc := fun (w : World) (C : Array Value) (n c : Nat) => Lib.run_convert_bytes_const (P := Try.prog) w 53 5 C n c Try.underlying53 Try.underlying5
  go_enter Try.func12, Try.ntmps12
  go_wp2_with fail
  refine (disk_New.own 100 (by omega) none 0 [] w ⟨rfl, by show (0 : Nat) ≤ _; omega, fun h => absurd h (Nat.lt_irrefl _)⟩ (Nat.le_refl _) (fun f hf => by cases hf)).mono ?_
  rintro e w1 ⟨hb1, ⟨_, d, rfl, h1⟩ | ⟨h0, rfl⟩⟩
  · have H1 : Aside0 (OwnD w w1 d lv0) := ⟨h1⟩
    clear h1 hb1
    go_wp2_with fail
    refine (wicketlaw05_num.calls 0 0 _ rfl).mono ?_
    rintro x w2 ⟨rfl, hd⟩
    replace H1 := Aside0.mk (H1.out.tell hd.below)
    clear hd
    go_wp2_with fail
    refine (disk_Create.own H1.out nA (by decide)).mono ?_
    rintro x w3 ⟨rfl, hh⟩
    rw [lv_1]
    have H2 : Aside0 (OwnD w w3 d lv1) := ⟨hh⟩
    clear hh
    go_wp2_with fail
    refine (wicketlaw05_num.calls 0 0 _ rfl).mono ?_
    rintro x w4 ⟨rfl, hd⟩
    replace H2 := Aside0.mk (H2.out.tell hd.below)
    clear hd
    go_wp2_with fail
    refine (disk_Append.own H2.out (below_alloc (Below.refl _ _) (.cells #[.int .u8 120, .int .u8 121] 5 (2, 3))) nA (by decide) (some ⟨w4.heap.size, 0, none⟩) 2 [120, 121] (C_lit w4 [120, 121] (2, 3) (by decide)) (by decide) (by decide) (fun ad e _ => by cases e; exact .inr (Nat.le_refl _))).mono ?_
    rintro x w5 ⟨rfl, hh⟩
    rw [lv_2]
    have H3 : Aside0 (OwnD w w5 d lv2) := ⟨hh⟩
    clear hh
    go_wp2_with fail
    refine (wicketlaw05_num.calls 0 0 _ rfl).mono ?_
    rintro x w6 ⟨rfl, hd⟩
    replace H3 := Aside0.mk (H3.out.tell hd.below)
    clear hd
    go_wp2_with fail
    refine (disk_Sync.own H3.out nA (by decide)).mono ?_
    rintro x w7 ⟨rfl, hh⟩
    rw [lv_3]
    have H4 : Aside0 (OwnD w w7 d lv3) := ⟨hh⟩
    clear hh
    go_wp2_with fail
    refine (wicketlaw05_num.calls 0 0 _ rfl).mono ?_
    rintro x w8 ⟨rfl, hd⟩
    replace H4 := Aside0.mk (H4.out.tell hd.below)
    clear hd
    go_wp2_with fail
    refine (disk_SyncDir.own H4.out).mono ?_
    rintro x w9 ⟨rfl, hh⟩
    rw [lv_4]
    have H5 : Aside0 (OwnD w w9 d lv4) := ⟨hh⟩
    clear hh
    go_wp2_with fail
    refine (wicketlaw05_num.calls 0 0 _ rfl).mono ?_
    rintro x w10 ⟨rfl, hd⟩
    replace H5 := Aside0.mk (H5.out.tell hd.below)
    clear hd
    go_wp2_with fail
    refine (disk_Append.own H5.out (below_alloc (Below.refl _ _) (.cells #[.int .u8 122] 5 (1, 2))) nA (by decide) (some ⟨w10.heap.size, 0, none⟩) 1 [122] (C_lit w10 [122] (1, 2) (by decide)) (by decide) (by decide) (fun ad e _ => by cases e; exact .inr (Nat.le_refl _))).mono ?_
    rintro x w11 ⟨rfl, hh⟩
    rw [lv_5]
    have H6 : Aside0 (OwnD w w11 d lv5) := ⟨hh⟩
    clear hh
    go_wp2_with fail
    refine (wicketlaw05_num.calls 0 0 _ rfl).mono ?_
    rintro x w12 ⟨rfl, hd⟩
    replace H6 := Aside0.mk (H6.out.tell hd.below)
    clear hd
    go_wp2_with fail
    refine (disk_Durable.own H6.out).mono ?_
    rintro x w13 ⟨v13, rfl, hr13, hb13, h13⟩
    rw [lv_6] at hr13
    obtain ⟨A13, c13, hv13⟩ := Kd.R_slice hr13
    change v13 = .slice A13 1 c13 at hv13
    subst hv13
    have H7 : Aside0 (OwnD w w13 d lv5) := ⟨h13⟩
    have HR13 := Aside0.mk hr13
    clear hr13 hb13 h13
    go_wp2_with fail
    refine (disk_Left.own (H7.out.tell (below_alloc (Below.refl _ _) (.cells #[.int .i64 1] 3))) 0 (by omega) (some ⟨w13.heap.size, 0, none⟩) 1 [1] (C_litI w13 [1] (by decide)) (Nat.le_refl _) (fun x hx => by rw [List.mem_singleton] at hx; omega)).mono ?_
    rintro x w14 ⟨v14, rfl, hr14, hb14, h14⟩
    rw [lv_7] at hr14
    obtain ⟨A14, c14, hv14⟩ := Kd.R_slice hr14
    change v14 = .slice A14 1 c14 at hv14
    subst hv14
    have HB := Aside0.mk h14.below
    have H8 : Aside0 (OwnD w w14 d lv5) := ⟨h14⟩
    obtain ⟨a1, B1, e1, rfl, _, o1, _, g1⟩ := at_T65 (Kd.C_below (Kd.R_reads' HR13.out).2.2 (below_step (below_alloc (Below.refl _ _) (.cells #[.int .i64 1] 3)) hb14)) 0 (by omega) (by decide)
    obtain ⟨a2, B2, e2, rfl, _, o2, _, g2⟩ := at_T65 (Kd.R_reads' hr14).2.2 0 (by omega) (by decide)
    change w14.cell? ⟨(a1.add 0).block, (a1.add 0).off + 1, none⟩ = some (.slice B1 2 e1) at o1
    change w14.cell? ⟨(a2.add 0).block, (a2.add 0).off + 1, none⟩ = some (.slice B2 3 e2) at o2
    rw [show a1.add 0 = a1 from by unfold Addr.add; rfl] at o1
    rw [show a2.add 0 = a2 from by unfold Addr.add; rfl] at o2
    have k1 := Kd.C_string (P := Try.prog) (c := e1) Try.underlying53 Try.underlying5 Try.underlying9 g1
    have k2 := Kd.C_string (P := Try.prog) (c := e2) Try.underlying53 Try.underlying5 Try.underlying9 g2
    change (convert 53 9 (.slice B1 2 e1)).run Try.prog w14 = .ok (.string ⟨#[120, 121]⟩) w14 at k1
    change (convert 53 9 (.slice B2 3 e2)).run Try.prog w14 = .ok (.string ⟨#[120, 121, 122]⟩) w14 at k2
    clear g1 g2 hr14 hb14 h14
    go_wp2_with fail
    refine (disk_Count.own H8.out).mono ?_
    rintro x w15 ⟨rfl, rfl⟩
    rw [lv_8]
    go_wp2_with fail
    go_ret
    exact ⟨rfl, HB.out⟩
  · exact absurd lv_0 h0
end Go.Proofs.Ythmkdmdfahhpmaa.Hand
