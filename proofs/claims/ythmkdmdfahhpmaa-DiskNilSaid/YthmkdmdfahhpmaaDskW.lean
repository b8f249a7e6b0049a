/- Disk: the law's arguments taken apart; a nil disk. -/
import Derived.Test.YthmkdmdfahhpmaaDskU
import Derived.Test.YthmkdmdfahhpmaaHOpenZ
namespace Go.Proofs.Ythmkdmdfahhpmaa.Hand
open Go.RowKit Go.Maps Go.Proofs.YthmkdmdfahhpmaaW.PrintWords Go.Proofs.YthmkdmdfahhpmaaW.PrintLast Go.Proofs.YthmkdmdfahhpmaaW.PrintMore Go.Proofs.Ythmkdmdfahhpmaa.Q
set_option linter.unusedVariables false
set_option linter.unusedSimpArgs false
/-- What a failure leaves. -/
abbrev CrD := Int × List Int
abbrev kCr : Kd CrD := Kd.iso (Kd.pair (Kd.int .i64) (Kd.slice 3 (Kd.int .i64))) (fun x => x)
structure ActD where
  kind : Int
  name : ByteArray
  dest : ByteArray
  p : List Int
  n : Int
  c : CrD
abbrev kAct : Kd ActD := Kd.iso (Kd.pair (Kd.int .i64) (Kd.pair Kd.string (Kd.pair Kd.string (Kd.pair (Kd.slice 5 (Kd.int .u8)) (Kd.pair (Kd.int .i64) kCr))))) (fun x : ActD => (x.kind, x.name, x.dest, x.p, x.n, x.c))
abbrev i64ok (n : Int) : Prop := (Lit.int .i64 n).wf = true
abbrev CrOk (x : CrD) : Prop := i64ok x.1 ∧ ((∀ t ∈ x.2, i64ok t) ∧ x.2.length * 8 ≤ 140737488351232)
set_option maxRecDepth 100000 in
theorem cr_opensZ : OpensZ Try.prog 35 kCr CrOk :=
  OpensZ.struct (total := 2) (fun x => x) (fun x => x) (fun _ => rfl) Try.underlying35 (by kernel_rfl) (OpensZs.cons rfl (by kernel_rfl) (.of (Opens.int .i64 Try.underlying3)) (OpensZs.last rfl (by kernel_rfl) (by kernel_rfl) (OpensZ.slice Try.underlying33 (by kernel_rfl) (.of (Opens.int .i64 Try.underlying3)))))
abbrev ActOk (x : ActD) : Prop := i64ok x.kind ∧ x.name.size ≤ 9223372036854775807 ∧ x.dest.size ≤ 9223372036854775807 ∧ ((∀ t ∈ x.p, (Lit.int .u8 t).wf = true) ∧ x.p.length * 1 ≤ 140737488351232) ∧ i64ok x.n ∧ CrOk x.c
set_option maxRecDepth 100000 in
theorem act_opensZ : OpensZ Try.prog 55 kAct ActOk :=
  OpensZ.struct (total := 7) (fun x : ActD => (x.kind, x.name, x.dest, x.p, x.n, x.c)) (fun x => ⟨x.1, x.2.1, x.2.2.1, x.2.2.2.1, x.2.2.2.2.1, x.2.2.2.2.2⟩) (fun _ => rfl) Try.underlying55 (by kernel_rfl)
    (OpensZs.cons rfl (by kernel_rfl) (.of (Opens.int .i64 Try.underlying3)) (OpensZs.cons rfl (by kernel_rfl) (.of (Opens.str Try.underlying9)) (OpensZs.cons rfl (by kernel_rfl) (.of (Opens.str Try.underlying9))
    (OpensZs.cons rfl (by kernel_rfl) (OpensZ.slice Try.underlying53 (by kernel_rfl) (.of (Opens.int .u8 Try.underlying5))) (OpensZs.cons rfl (by kernel_rfl) (.of (Opens.int .i64 Try.underlying3)) (OpensZs.last rfl (by kernel_rfl) (by kernel_rfl) cr_opensZ))))))
theorem crash_f {d : Int} {l : List Int} (h : l.length * 8 ≤ 140737488351232) : wicketlaw05_crash.f d l = some (d, l) := by
  unfold wicketlaw05_crash.f
  rw [Option.bind_some, if_pos (by rw [List.length_nil]; omega)]
  rfl
theorem num_f (n : Int) : wicketlaw05_num.f n = some n := rfl
theorem kCr_open {w : World} {x : CrD} {cs : List Value} (h : kCr.K w x cs) : ∃ A c, cs = [.int .i64 x.1, .slice A x.2.length c] ∧ x.2.length ≤ c ∧ Kd.C (Kd.int .i64) w A x.2.length x.2 := by
  obtain ⟨p1, p2, e1, h1, A, c, h2, h3, h4⟩ := h
  exact ⟨A, c, by rw [e1, h1, h2]; rfl, h3, h4⟩
theorem kAct_open {w : World} {x : ActD} {cs : List Value} (h : kAct.K w x cs) : ∃ A c A2 c2, cs = [.int .i64 x.kind, .string x.name, .string x.dest, .slice A x.p.length c, .int .i64 x.n, .int .i64 x.c.1, .slice A2 x.c.2.length c2] ∧ x.p.length ≤ c ∧ Kd.C kB w A x.p.length x.p ∧ x.c.2.length ≤ c2 ∧ Kd.C (Kd.int .i64) w A2 x.c.2.length x.c.2 := by
  obtain ⟨p1, q1, e1, h1, p2, q2, e2, h2, p3, q3, e3, h3, p4, q4, e4, ⟨A, c, h4, h5, h6⟩, p5, q5, e5, h7, h8⟩ := h
  obtain ⟨A2, c2, h9, h10, h11⟩ := kCr_open h8
  exact ⟨A, c, A2, c2, by rw [e1, h1, e2, h2, e3, h3, e4, h4, e5, h7, h9]; rfl, h5, h6, h10, h11⟩
set_option maxHeartbeats 4000000 in
set_option maxRecDepth 100000 in
theorem diskNil_machine (w : World) (cs : Array Value) (x : ActD) (hk : kAct.K w x cs.toList) (hw : ActOk x) : Calls Try.prog 10 #[.agg cs] w fun e w' => e = .returned (.bool true) ∧ Below w.heap.size w w' := by
  obtain ⟨A, c, A2, c2, hcs, hc, hC, hc2, hC2⟩ := kAct_open hk
  obtain rfl : cs = #[.int .i64 x.kind, .string x.name, .string x.dest, .slice A x.p.length c, .int .i64 x.n, .int .i64 x.c.1, .slice A2 x.c.2.length c2] := Array.ext' hcs
  have HC := Aside0.mk hC2
  have HL := Aside0.mk hc2
  have HW := Aside0.mk hw
  clear hk hcs hC hC2 hc hc2 hw
  go_enter Try.func10, Try.ntmps10
  have BK := Aside0.mk (blk_new w (.cells #[.int .i64 x.kind, .string x.name, .string x.dest, .slice A x.p.length c, .int .i64 x.n, .int .i64 x.c.1, .slice A2 x.c.2.length c2] 55))
  have HB := Aside0.mk (below_alloc (Below.refl w.heap.size w) (.cells #[.int .i64 x.kind, .string x.name, .string x.dest, .slice A x.p.length c, .int .i64 x.n, .int .i64 x.c.1, .slice A2 x.c.2.length c2] 55))
  go_wp2_with fail
  refine (disk_Arm.nil _ _).mono ?_
  rintro e w1 ⟨⟨v, rfl⟩, rfl⟩
  go_wp2_with fail
  refine (disk_Read.nil _ _).mono ?_
  rintro e w1 ⟨rfl, rfl⟩
  go_wp2_with fail
  refine (wicketlaw05_num.calls 0 0 _ rfl).mono ?_
  rintro e w1 ⟨rfl, hd⟩
  replace BK := Aside0.mk (blk_below BK.out hd.below)
  replace HB := Aside0.mk (below_step HB.out hd.below)
  clear hd
  go_wp2_with fail
  refine (disk_List.nil _).mono ?_
  rintro e w1 ⟨rfl, rfl⟩
  have hz5 := blk_cell BK.out 5
  have hz6 := blk_cell BK.out 6
  change _ = some (Value.int .i64 x.c.1) at hz5
  change _ = some (Value.slice A2 x.c.2.length c2) at hz6
  go_wp2_with fail
  refine (wicketlaw05_crash.calls x.c.1 A2 c2 x.c.2 x.c.1 x.c.2 _ (Kd.C_below HC.out HB.out) HL.out (crash_f HW.out.2.2.2.2.2.2.2)).mono ?_
  rintro e w2 ⟨u1, rfl, -, hb⟩
  replace BK := Aside0.mk (blk_below BK.out hb)
  replace HB := Aside0.mk (below_step HB.out hb)
  clear hz5 hz6 hb HC HL HW
  go_wp2_with fail
  refine (disk_Left.nil _ _ _).mono ?_
  rintro e w3 ⟨rfl, hb⟩
  replace BK := Aside0.mk (blk_below BK.out hb)
  replace HB := Aside0.mk (below_step HB.out hb)
  clear hb
  go_wp2_with fail
  refine (disk_Durable.nil _).mono ?_
  rintro e w4 ⟨rfl, hb⟩
  replace BK := Aside0.mk (blk_below BK.out hb)
  replace HB := Aside0.mk (below_step HB.out hb)
  clear hb
  go_wp2_with fail
  refine (disk_Free.nil _).mono ?_
  rintro e w5 ⟨rfl, rfl⟩
  go_wp2_with fail
  refine (disk_Count.nil _).mono ?_
  rintro e w5 ⟨rfl, rfl⟩
  go_wp2_with fail
  refine (disk_Dead.nil _).mono ?_
  rintro e w5 ⟨rfl, rfl⟩
  have hz1 := blk_cell BK.out 1
  change _ = some (Value.string x.name) at hz1
  have hz2 := blk_cell BK.out 2
  change _ = some (Value.string x.dest) at hz2
  have hz3 := blk_cell BK.out 3
  change _ = some (Value.slice A x.p.length c) at hz3
  go_wp2_with fail
  refine (disk_Create.nil _ _).mono ?_
  rintro e w5 ⟨rfl, rfl⟩
  clear hz1 hz2 hz3
  go_wp2_with fail
  refine (wicketlaw05_num.calls 0 0 _ rfl).mono ?_
  rintro e w5 ⟨rfl, hd⟩
  replace BK := Aside0.mk (blk_below BK.out hd.below)
  replace HB := Aside0.mk (below_step HB.out hd.below)
  clear hd
  have hz1 := blk_cell BK.out 1
  change _ = some (Value.string x.name) at hz1
  have hz2 := blk_cell BK.out 2
  change _ = some (Value.string x.dest) at hz2
  have hz3 := blk_cell BK.out 3
  change _ = some (Value.slice A x.p.length c) at hz3
  go_wp2_with fail
  refine (disk_Append.nil _ _ _).mono ?_
  rintro e w5 ⟨rfl, rfl⟩
  clear hz1 hz2 hz3
  go_wp2_with fail
  refine (wicketlaw05_num.calls 0 0 _ rfl).mono ?_
  rintro e w5 ⟨rfl, hd⟩
  replace BK := Aside0.mk (blk_below BK.out hd.below)
  replace HB := Aside0.mk (below_step HB.out hd.below)
  clear hd
  have hz1 := blk_cell BK.out 1
  change _ = some (Value.string x.name) at hz1
  have hz2 := blk_cell BK.out 2
  change _ = some (Value.string x.dest) at hz2
  have hz3 := blk_cell BK.out 3
  change _ = some (Value.slice A x.p.length c) at hz3
  go_wp2_with fail
  refine (disk_Sync.nil _ _).mono ?_
  rintro e w5 ⟨rfl, rfl⟩
  clear hz1 hz2 hz3
  go_wp2_with fail
  refine (wicketlaw05_num.calls 0 0 _ rfl).mono ?_
  rintro e w5 ⟨rfl, hd⟩
  replace BK := Aside0.mk (blk_below BK.out hd.below)
  replace HB := Aside0.mk (below_step HB.out hd.below)
  clear hd
  have hz1 := blk_cell BK.out 1
  change _ = some (Value.string x.name) at hz1
  have hz2 := blk_cell BK.out 2
  change _ = some (Value.string x.dest) at hz2
  have hz3 := blk_cell BK.out 3
  change _ = some (Value.slice A x.p.length c) at hz3
  go_wp2_with fail
  refine (disk_Rename.nil _ _ _).mono ?_
  rintro e w5 ⟨rfl, rfl⟩
  clear hz1 hz2 hz3
  go_wp2_with fail
  refine (wicketlaw05_num.calls 0 0 _ rfl).mono ?_
  rintro e w5 ⟨rfl, hd⟩
  replace BK := Aside0.mk (blk_below BK.out hd.below)
  replace HB := Aside0.mk (below_step HB.out hd.below)
  clear hd
  have hz1 := blk_cell BK.out 1
  change _ = some (Value.string x.name) at hz1
  have hz2 := blk_cell BK.out 2
  change _ = some (Value.string x.dest) at hz2
  have hz3 := blk_cell BK.out 3
  change _ = some (Value.slice A x.p.length c) at hz3
  go_wp2_with fail
  refine (disk_Remove.nil _ _).mono ?_
  rintro e w5 ⟨rfl, rfl⟩
  clear hz1 hz2 hz3
  go_wp2_with fail
  refine (wicketlaw05_num.calls 0 0 _ rfl).mono ?_
  rintro e w5 ⟨rfl, hd⟩
  replace BK := Aside0.mk (blk_below BK.out hd.below)
  replace HB := Aside0.mk (below_step HB.out hd.below)
  clear hd
  have hz1 := blk_cell BK.out 1
  change _ = some (Value.string x.name) at hz1
  have hz2 := blk_cell BK.out 2
  change _ = some (Value.string x.dest) at hz2
  have hz3 := blk_cell BK.out 3
  change _ = some (Value.slice A x.p.length c) at hz3
  go_wp2_with fail
  refine (disk_SyncDir.nil _).mono ?_
  rintro e w5 ⟨rfl, rfl⟩
  clear hz1 hz2 hz3
  go_wp2_with fail
  refine (wicketlaw05_num.calls 0 0 _ rfl).mono ?_
  rintro e w5 ⟨rfl, hd⟩
  replace BK := Aside0.mk (blk_below BK.out hd.below)
  replace HB := Aside0.mk (below_step HB.out hd.below)
  clear hd
  go_wp2_with fail
  refine (law_live.calls _).mono ?_
  rintro e w6 ⟨rfl, hb⟩
  replace HB := Aside0.mk (below_step HB.out hb)
  clear hb BK
  go_wp2_with fail
  go_ret
  exact ⟨rfl, HB.out⟩
end Go.Proofs.Ythmkdmdfahhpmaa.Hand
