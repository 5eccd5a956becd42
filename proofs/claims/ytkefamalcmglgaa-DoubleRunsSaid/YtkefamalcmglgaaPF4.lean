/- Printed out of the translation: what functions compute, and the proofs that the code computes just this. -/
import Derived.Test.YtkefamalcmglgaaP0
import Derived.Test.YtkefamalcmglgaaPE26
import Derived.Test.YtkefamalcmglgaaPF15
import Derived.Test.YtkefamalcmglgaaPF16
import Derived.Test.YtkefamalcmglgaaDstep
import Derived.Test.YtkefamalcmglgaaDnew
namespace Go.Proofs.Ytkefamalcmglgaa.P
open Go.RowKit Go.Proofs.YtkefamalcmglgaaW.PrintWords Go.Proofs.YtkefamalcmglgaaW.PrintLast Go.Proofs.YtkefamalcmglgaaW.PrintMore
attribute [local go_sem] max2_int min2_int max_two min_two max_three min_three max_four min_four   -- for this text's walks alone
set_option linter.unusedVariables false
set_option linter.unusedSimpArgs false

attribute [local go_sem high] eqA26
/-! ### weighbridgelaw27_DoubleRuns: function 4 -/
mutual
def weighbridgelaw27_DoubleRuns.j0 : Nat → List (S28) → Bool → Int → Bool → Int → Int → Int → Int → Int → Int → Int → Bool → Option (Bool)
  | 0, _, _, _, _, _, _, _, _, _, _, _, _ => none
  | k + 1, x1, x22, x102000, x102001, x102002, x102003, x102004, x102005, x108000, x108001, x108002, x108003 => if x22 = true then ((weighbridgelaw27_live.f).bind fun t108 => (some t108)) else (weighbridgelaw27_DoubleRuns.l0 k x1 0 x102000 x102001 x102002 x102003 x102004 x102005 x108000 x108001 x108002 x108003 x108000 x108001 x108002 x108003)
def weighbridgelaw27_DoubleRuns.l0 : Nat → List (S28) → Int → Int → Bool → Int → Int → Int → Int → Int → Int → Int → Bool → Int → Int → Int → Bool → Option (Bool)
  | 0, _, _, _, _, _, _, _, _, _, _, _, _, _, _, _, _ => none
  | k + 1, x1, x8, x102000, x102001, x102002, x102003, x102004, x102005, x108000, x108001, x108002, x108003, x110000, x110001, x110002, x110003 => if x8 < (x1.length : Int) then (if 0 ≤ x8 then ((double_Stepd.f x102000 x102001 x102002 x102003 x102004 x102005 x108000 x108001 x108002 x108003 ((rd_T28 x1 x8).f0) ((rd_T28 x1 x8).f1) ((rd_T28 x1 x8).f2)).bind fun bt114 => ((weighbridgeref27_Step.f k x102000 x102001 x102002 x102003 x102004 x102005 x110000 x110001 x110002 x110003 ((rd_T28 x1 x8).f0) ((rd_T28 x1 x8).f1) ((rd_T28 x1 x8).f2)).bind fun bt122 => (if (!(bt114.1 == bt122.1) || (!(bt114.2.1 == bt122.2.1) || (!(bt114.2.2.1 == bt122.2.2.1) || (!(bt114.2.2.2.1 == bt122.2.2.2.1))))) = true then (none) else (if bt114.2.2.2.2 = bt122.2.2.2.2 then (weighbridgelaw27_DoubleRuns.l0 k x1 (wrap64 (x8 + 1)) x102000 x102001 x102002 x102003 x102004 x102005 bt114.1 bt114.2.1 bt114.2.2.1 bt114.2.2.2.1 bt122.1 bt122.2.1 bt122.2.2.1 bt122.2.2.2.1) else (none))))) else (none)) else ((weighbridgelaw27_live.f).bind fun t110 => (some t110))
end
def weighbridgelaw27_DoubleRuns.f (k : Nat) (a0_0 : Int) (a0_1 : Bool) (a0_2 : Int) (a0_3 : Int) (a0_4 : Int) (a0_5 : Int) (l1 : List (S28)) : Option (Bool) := (double_Newd.f a0_0 a0_1 a0_2 a0_3 a0_4 a0_5).bind fun bt102 => (if bt102.2.2.2.2 = 0 then (weighbridgelaw27_DoubleRuns.j0 k l1 (decide ((l1.length : Int) > 200)) a0_0 a0_1 a0_2 a0_3 a0_4 a0_5 bt102.1 bt102.2.1 bt102.2.2.1 bt102.2.2.2.1) else (weighbridgelaw27_DoubleRuns.j0 k l1 true a0_0 a0_1 a0_2 a0_3 a0_4 a0_5 bt102.1 bt102.2.1 bt102.2.2.1 bt102.2.2.2.1))
def weighbridgelaw27_DoubleRuns.T9 : Bool × List (List Nat × List Nat) := (true, [([], []), ([], []), ([], []), ([], []), ([2, 3], [2, 3]), ([4], [4]), ([5], [5]), ([], []), ([], []), ([7, 8], [7, 8]), ([9], [9]), ([10], [10]), ([], []), ([], []), ([12, 13], [12, 13]), ([14], [14]), ([15], [15]), ([0, 1, 6, 11, 16], [0, 1, 6, 11, 16]), ([17], [17]), ([18], [18]), ([18], [18]), ([19, 17, 0, 1, 2, 3, 4, 5, 6, 7, 8, 9, 10, 11, 12, 13, 14, 15, 16, 17, 18, 19], [19]), ([20, 21, 0, 1, 2, 3, 4, 5, 6, 7, 8, 9, 10, 11, 12, 13, 14, 15, 16, 17, 18, 19, 20, 21], [20])])
def weighbridgelaw27_DoubleRuns.B9 : List Nat := [0, 0, 0, 0, 12, 28, 60, 0, 0, 384, 896, 1920, 0, 0, 12288, 28672, 61440, 131071, 262143, 524287, 524287, 1048575, 4194303]
theorem weighbridgelaw27_DoubleRuns.tab9 : rtab .any (opsOf Try.f4 9) = weighbridgelaw27_DoubleRuns.T9 := by kernel_rfl
theorem weighbridgelaw27_DoubleRuns.bits9 : waitsOk weighbridgelaw27_DoubleRuns.T9.2 weighbridgelaw27_DoubleRuns.B9 = true := by kernel_rfl
def weighbridgelaw27_DoubleRuns.T10 : Bool × List (List Nat × List Nat) := (true, [([], []), ([], []), ([], []), ([], []), ([2, 3], [2, 3]), ([4], [4]), ([5], [5]), ([], []), ([], []), ([7, 8], [7, 8]), ([9], [9]), ([10], [10]), ([], []), ([], []), ([12, 13], [12, 13]), ([14], [14]), ([15], [15]), ([0, 1, 6, 11, 16], [0, 1, 6, 11, 16]), ([17], [17]), ([18], [18]), ([18], [18]), ([19, 17, 0, 1, 2, 3, 4, 5, 6, 7, 8, 9, 10, 11, 12, 13, 14, 15, 16, 17, 18, 19], [19]), ([20, 21, 0, 1, 2, 3, 4, 5, 6, 7, 8, 9, 10, 11, 12, 13, 14, 15, 16, 17, 18, 19, 20, 21], [20])])
def weighbridgelaw27_DoubleRuns.B10 : List Nat := [0, 0, 0, 0, 12, 28, 60, 0, 0, 384, 896, 1920, 0, 0, 12288, 28672, 61440, 131071, 262143, 524287, 524287, 1048575, 4194303]
theorem weighbridgelaw27_DoubleRuns.tab10 : rtab .any (opsOf Try.f4 10) = weighbridgelaw27_DoubleRuns.T10 := by kernel_rfl
theorem weighbridgelaw27_DoubleRuns.bits10 : waitsOk weighbridgelaw27_DoubleRuns.T10.2 weighbridgelaw27_DoubleRuns.B10 = true := by kernel_rfl
set_option maxHeartbeats 8000000 in
set_option maxRecDepth 100000 in
theorem weighbridgelaw27_DoubleRuns.calls (k : Nat) (a0_0 : Int) (a0_1 : Bool) (a0_2 : Int) (a0_3 : Int) (a0_4 : Int) (a0_5 : Int) (A1 : Option Addr) (c1 : Nat) (l1 : List (S28)) (r : Bool) (w : World) (hr1 : Kd.C k28 w A1 l1.length l1) (hc1 : l1.length ≤ c1) (h : weighbridgelaw27_DoubleRuns.f k a0_0 a0_1 a0_2 a0_3 a0_4 a0_5 l1 = some r) :
    Calls Try.prog 4 #[.agg #[.int .i64 a0_0, .bool a0_1, .int .u64 a0_2, .int .u64 a0_3, .int .u64 a0_4, .int .u64 a0_5], .slice A1 l1.length c1] w fun e w' => e = .returned (.bool r) ∧ Below w.heap.size w w' := by
  have hu24 := Try.underlying24
  have hu26 := Try.underlying26
  have HR1 := zq3 hr1
  have HC1 := zq3 hc1
  clear hr1 hc1
  have HB := zq3 (Below.refl w.heap.size w)
  have H : ((double_Newd.f a0_0 a0_1 a0_2 a0_3 a0_4 a0_5).bind fun bt102 => (if bt102.2.2.2.2 = 0 then (weighbridgelaw27_DoubleRuns.j0 k l1 (decide ((l1.length : Int) > 200)) a0_0 a0_1 a0_2 a0_3 a0_4 a0_5 bt102.1 bt102.2.1 bt102.2.2.1 bt102.2.2.2.1) else (weighbridgelaw27_DoubleRuns.j0 k l1 true a0_0 a0_1 a0_2 a0_3 a0_4 a0_5 bt102.1 bt102.2.1 bt102.2.2.1 bt102.2.2.2.1))) = some r := h
  clear h
  replace H := Option.bind_eq_some_iff.mp H
  obtain ⟨⟨t102, t103, t104, t105, t106⟩, A30, H⟩ := H
  replace H : (if t106 = 0 then (weighbridgelaw27_DoubleRuns.j0 k l1 (decide ((l1.length : Int) > 200)) a0_0 a0_1 a0_2 a0_3 a0_4 a0_5 t102 t103 t104 t105) else (weighbridgelaw27_DoubleRuns.j0 k l1 true a0_0 a0_1 a0_2 a0_3 a0_4 a0_5 t102 t103 t104 t105)) = some r := H
  have A3 := zq3 A30
  clear A30
  have HC4 := zq3 H
  clear H
  go_enter Try.func4, Try.ntmps4
  go_upto_region 2 with (first | ((with_reducible refine gate_dst (N := 2) rfl ?_); (try (refine gate_guard (by rfl) ?_; dsimp only)); refine box_event ?hg (N := 2) ?hd (cs := #[.int .i64 a0_0, .bool a0_1, .int .u64 a0_2, .int .u64 a0_3, .int .u64 a0_4, .int .u64 a0_5]) (t := 24) ?hr ?_; (case hd => rfl); (case hg => rfl); (case hr => first | (go_simp; done) | (go_simp; rfl)); intro gb101 hg w5 hbox hb; have n0_ := zq3 (below_step (by repeat (first | (with_reducible first | exact HB.out | apply zq9 | apply zq7 | apply zq8) | exact HB.out)) hb); have n1_ := zq3 (hbox); have n2_ := zq3 ((by rw [hg]; exact (below_size (by repeat (first | (with_reducible first | exact HB.out | apply zq9 | apply zq7 | apply zq8) | exact HB.out))) : w.heap.size ≤ gb101)); have n3_ := zq3 ((by rw [hg]; exact (below_size (by repeat (first | (with_reducible first | exact HB.out | apply zq9 | apply zq7 | apply zq8) | exact HB.out))) : w.heap.size ≤ gb101)); clear HB; have HB := n0_; have BK101 := n1_; have GW101 := n2_; have GE101 := n3_; clear n0_ n1_ n2_ n3_; clear hb hbox hg; have hcz6_0 : w5.cell? ⟨gb101, 0, none⟩ = some (.int .i64 a0_0) := (zq5 BK101.out 0).trans rfl; have hcz6_1 : w5.cell? ⟨gb101, 1, none⟩ = some (.bool a0_1) := (zq5 BK101.out 1).trans rfl; have hcz6_2 : w5.cell? ⟨gb101, 2, none⟩ = some (.int .u64 a0_2) := (zq5 BK101.out 2).trans rfl; have hcz6_3 : w5.cell? ⟨gb101, 3, none⟩ = some (.int .u64 a0_3) := (zq5 BK101.out 3).trans rfl; have hcz6_4 : w5.cell? ⟨gb101, 4, none⟩ = some (.int .u64 a0_4) := (zq5 BK101.out 4).trans rfl; have hcz6_5 : w5.cell? ⟨gb101, 5, none⟩ = some (.int .u64 a0_5) := (zq5 BK101.out 5).trans rfl; have hfz6_0 := zq4 BK101.out 0; have hfz6_1 := zq4 BK101.out 1; have hfz6_2 := zq4 BK101.out 2; have hfz6_3 := zq4 BK101.out 3; have hfz6_4 := zq4 BK101.out 4; have hfz6_5 := zq4 BK101.out 5) | ((with_reducible refine gate_callee (f := 12) rfl ?_); refine goesL_ (some 13) rfl rfl Try.func12 (by kernel_rfl) rfl #[.agg #[.int .i64 a0_0, .bool a0_1, .int .u64 a0_2, .int .u64 a0_3, .int .u64 a0_4, .int .u64 a0_5]] rfl (by (try simp only [List.map_toArray, List.map_cons, List.map_nil]); first | done | rfl | (simp only [List.length_drop, List.length_take]; rfl)) ?_; (with_reducible refine (double_Newd.calls a0_0 a0_1 a0_2 a0_3 a0_4 a0_5 t102 t103 t104 t105 t106 _ A3.out).mono ?_); rintro e w7 ⟨rfl, hb⟩; refine ⟨_, rfl, ?_⟩; have n0_ := zq3 (zq10 (g := gb101) (o := .cells #[.int .i64 a0_0, .bool a0_1, .int .u64 a0_2, .int .u64 a0_3, .int .u64 a0_4, .int .u64 a0_5] 24 (0, 0)) (by (with_reducible repeat (first | refine zq0 ?_ _ | refine zq2 ?_ | refine zq1 ?_ _)); exact BK101.out) hb); have n1_ := zq3 (below_step (by repeat (first | (with_reducible first | exact HB.out | apply zq9 | apply zq7 | apply zq8 | refine zq6 ?_ GE101.out) | exact HB.out)) hb); clear BK101; clear HB; have BK101 := n0_; have HB := n1_; clear n0_ n1_; (try clear hb); (try clear hb2); (try clear hk); (try clear hi)) | ((with_reducible refine gate_dst (N := 5) rfl ?_); (try (refine gate_guard (by rfl) ?_; dsimp only)); refine box_event ?hg (N := 5) ?hd (cs := #[.int .u64 0, .int .u64 0, .int .u64 0, .bool false]) (t := 26) ?hr ?_; (case hd => rfl); (case hg => rfl); (case hr => first | (go_simp; done) | (go_simp; rfl)); intro gb107 hg w8 hbox hb; have n0_ := zq3 (zq10 (g := gb101) (o := .cells #[.int .i64 a0_0, .bool a0_1, .int .u64 a0_2, .int .u64 a0_3, .int .u64 a0_4, .int .u64 a0_5] 24 (0, 0)) (by (with_reducible repeat (first | refine zq0 ?_ _ | refine zq2 ?_ | refine zq1 ?_ _)); exact BK101.out) hb); have n1_ := zq3 (below_step (by repeat (first | (with_reducible first | exact HB.out | apply zq9 | apply zq7 | apply zq8 | refine zq6 ?_ GE101.out) | exact HB.out)) hb); have n2_ := zq3 (hbox); have n3_ := zq3 ((by rw [hg]; exact (below_size (by repeat (first | (with_reducible first | exact HB.out | apply zq9 | apply zq7 | apply zq8 | refine zq6 ?_ GE101.out) | exact HB.out))) : w.heap.size ≤ gb107)); have n4_ := zq3 ((by rw [hg]; exact (below_size (by repeat (first | (with_reducible first | exact HB.out | apply zq9 | apply zq7 | apply zq8 | refine zq6 ?_ GE101.out) | exact HB.out))) : w.heap.size ≤ gb107)); have n5_ := zq3 ((by rw [hg]; exact Nat.ne_of_lt (blk_lt (g := gb101) (o := .cells #[.int .i64 a0_0, .bool a0_1, .int .u64 a0_2, .int .u64 a0_3, .int .u64 a0_4, .int .u64 a0_5] 24 (0, 0)) (by (with_reducible repeat (first | refine zq0 ?_ _ | refine zq2 ?_ | refine zq1 ?_ _)); exact BK101.out)) : gb101 ≠ gb107)); have n6_ := zq3 ((by rw [hg]; exact Nat.ne_of_gt (blk_lt (g := gb101) (o := .cells #[.int .i64 a0_0, .bool a0_1, .int .u64 a0_2, .int .u64 a0_3, .int .u64 a0_4, .int .u64 a0_5] 24 (0, 0)) (by (with_reducible repeat (first | refine zq0 ?_ _ | refine zq2 ?_ | refine zq1 ?_ _)); exact BK101.out)) : gb107 ≠ gb101)); clear BK101; clear HB; have BK101 := n0_; have HB := n1_; have BK107 := n2_; have GW107 := n3_; have GE107 := n4_; have NB101_107 := n5_; have NB107_101 := n6_; clear n0_ n1_ n2_ n3_ n4_ n5_ n6_; clear hb hbox hg; have hnb9 := NB107_101.out; have hnc9 := NB101_107.out; have hcz10_0 : w8.cell? ⟨gb107, 0, none⟩ = some (.int .u64 0) := (zq5 BK107.out 0).trans rfl; have hcz10_1 : w8.cell? ⟨gb107, 1, none⟩ = some (.int .u64 0) := (zq5 BK107.out 1).trans rfl; have hcz10_2 : w8.cell? ⟨gb107, 2, none⟩ = some (.int .u64 0) := (zq5 BK107.out 2).trans rfl; have hcz10_3 : w8.cell? ⟨gb107, 3, none⟩ = some (.bool false) := (zq5 BK107.out 3).trans rfl; have hfz10_0 := zq4 BK107.out 0; have hfz10_1 := zq4 BK107.out 1; have hfz10_2 := zq4 BK107.out 2; have hfz10_3 := zq4 BK107.out 3))
  (try simp only [Act.put, List.setIfInBounds_toArray, List.set_cons_zero, List.set_cons_succ])
  go_cut [22] (fun v22 wc => ∃ (kq : Nat) (x22_3 : Bool), v22 = .bool x22_3 ∧ Aside0 (weighbridgelaw27_DoubleRuns.j0 kq l1 x22_3 a0_0 a0_1 a0_2 a0_3 a0_4 a0_5 t102 t103 t104 t105 = some r) ∧ Aside0 (kq ≤ k) ∧ Aside0 (wc.heap[gb101]? = some (.cells #[.int .i64 a0_0, .bool a0_1, .int .u64 a0_2, .int .u64 a0_3, .int .u64 a0_4, .int .u64 a0_5] 24 (0, 0))) ∧ Aside0 (wc.heap[gb107]? = some (.cells #[.int .u64 t102, .int .u64 t103, .int .u64 t104, .bool t105] 26 (0, 0))) ∧ Aside0 (Below w.heap.size w wc))
  case first =>
    have H := HC4.out
    clear HC4
    by_cases c11 : t106 = 0
    · rw [if_pos c11] at H
      have c11b0 : (t106 == 0) = true := beq_iff_eq.mpr c11
      have c11b1 : (t106 != 0) = false := bne_eq_false_iff_eq.mpr c11
      clear c11
      (first | rw [c11b0] | (simp only [i64_w, i32_w]; rw [c11b0]) | skip)
      have H' := zq3 H
      clear H
      go_wp2
      go_meet
      case rel => exact ⟨_, (decide ((l1.length : Int) > 200)), (by first | rfl | (simp; done) | (simp [*]; done)), H', ⟨by first | omega | exact Nat.le_refl _⟩, ⟨by (with_reducible repeat (first | refine zq0 ?_ _ | refine zq2 ?_ | refine zq1 ?_ _)); refine zq11 ?_ NB101_107.out _; (with_reducible repeat (first | refine zq0 ?_ _ | refine zq2 ?_ | refine zq1 ?_ _)); refine zq11 ?_ NB101_107.out _; (with_reducible repeat (first | refine zq0 ?_ _ | refine zq2 ?_ | refine zq1 ?_ _)); refine zq11 ?_ NB101_107.out _; (with_reducible repeat (first | refine zq0 ?_ _ | refine zq2 ?_ | refine zq1 ?_ _)); refine zq11 ?_ NB101_107.out _; (with_reducible repeat (first | refine zq0 ?_ _ | refine zq2 ?_ | refine zq1 ?_ _)); exact BK101.out⟩, ⟨by (with_reducible repeat (first | refine zq0 ?_ _ | refine zq2 ?_ | refine zq1 ?_ _)); refine blk_put (cs := #[.int .u64 t102, .int .u64 t103, .int .u64 t104, .bool false]) ?_ 3 _ rfl; (with_reducible repeat (first | refine zq0 ?_ _ | refine zq2 ?_ | refine zq1 ?_ _)); refine blk_put (cs := #[.int .u64 t102, .int .u64 t103, .int .u64 0, .bool false]) ?_ 2 _ rfl; (with_reducible repeat (first | refine zq0 ?_ _ | refine zq2 ?_ | refine zq1 ?_ _)); refine blk_put (cs := #[.int .u64 t102, .int .u64 0, .int .u64 0, .bool false]) ?_ 1 _ rfl; (with_reducible repeat (first | refine zq0 ?_ _ | refine zq2 ?_ | refine zq1 ?_ _)); refine blk_put (cs := #[.int .u64 0, .int .u64 0, .int .u64 0, .bool false]) ?_ 0 _ rfl; (with_reducible repeat (first | refine zq0 ?_ _ | refine zq2 ?_ | refine zq1 ?_ _)); exact BK107.out⟩, ⟨by repeat (first | (with_reducible first | exact HB.out | apply zq9 | apply zq7 | apply zq8 | refine zq6 ?_ GE101.out | refine zq6 ?_ GE107.out) | exact HB.out)⟩⟩
    · rw [if_neg c11] at H
      have c11b0 : (t106 == 0) = false := beq_eq_false_iff_ne.mpr c11
      have c11b1 : (t106 != 0) = true := bne_iff_ne.mpr c11
      (first | rw [c11b0] | (simp only [i64_w, i32_w]; rw [c11b0]) | skip)
      have H' := zq3 H
      clear H
      go_wp2
      go_meet
      case rel => exact ⟨_, (true), (by first | rfl | (simp; done) | (simp [*]; done)), H', ⟨by first | omega | exact Nat.le_refl _⟩, ⟨by (with_reducible repeat (first | refine zq0 ?_ _ | refine zq2 ?_ | refine zq1 ?_ _)); refine zq11 ?_ NB101_107.out _; (with_reducible repeat (first | refine zq0 ?_ _ | refine zq2 ?_ | refine zq1 ?_ _)); refine zq11 ?_ NB101_107.out _; (with_reducible repeat (first | refine zq0 ?_ _ | refine zq2 ?_ | refine zq1 ?_ _)); refine zq11 ?_ NB101_107.out _; (with_reducible repeat (first | refine zq0 ?_ _ | refine zq2 ?_ | refine zq1 ?_ _)); refine zq11 ?_ NB101_107.out _; (with_reducible repeat (first | refine zq0 ?_ _ | refine zq2 ?_ | refine zq1 ?_ _)); exact BK101.out⟩, ⟨by (with_reducible repeat (first | refine zq0 ?_ _ | refine zq2 ?_ | refine zq1 ?_ _)); refine blk_put (cs := #[.int .u64 t102, .int .u64 t103, .int .u64 t104, .bool false]) ?_ 3 _ rfl; (with_reducible repeat (first | refine zq0 ?_ _ | refine zq2 ?_ | refine zq1 ?_ _)); refine blk_put (cs := #[.int .u64 t102, .int .u64 t103, .int .u64 0, .bool false]) ?_ 2 _ rfl; (with_reducible repeat (first | refine zq0 ?_ _ | refine zq2 ?_ | refine zq1 ?_ _)); refine blk_put (cs := #[.int .u64 t102, .int .u64 0, .int .u64 0, .bool false]) ?_ 1 _ rfl; (with_reducible repeat (first | refine zq0 ?_ _ | refine zq2 ?_ | refine zq1 ?_ _)); refine blk_put (cs := #[.int .u64 0, .int .u64 0, .int .u64 0, .bool false]) ?_ 0 _ rfl; (with_reducible repeat (first | refine zq0 ?_ _ | refine zq2 ?_ | refine zq1 ?_ _)); exact BK107.out⟩, ⟨by repeat (first | (with_reducible first | exact HB.out | apply zq9 | apply zq7 | apply zq8 | refine zq6 ?_ GE101.out | refine zq6 ?_ GE107.out) | exact HB.out)⟩⟩
  case rest =>
    clear HC4
    try clear c1
    try clear p2
    try clear c4
    try clear c9
    try clear c11
    try clear c11b0
    try clear c11b1
    try clear hcz10_0
    try clear hcz10_1
    try clear hcz10_2
    try clear hcz10_3
    try clear hcz6_0
    try clear hcz6_1
    try clear hcz6_2
    try clear hcz6_3
    try clear hcz6_4
    try clear hcz6_5
    try clear hfz10_0
    try clear hfz10_1
    try clear hfz10_2
    try clear hfz10_3
    try clear hfz6_0
    try clear hfz6_1
    try clear hfz6_2
    try clear hfz6_3
    try clear hfz6_4
    try clear hfz6_5
    obtain ⟨kq, x22_3, rfl, HA, HJ3, BK101, BK107, HB⟩ := hcut
    cases kq with
    | zero => exact absurd HA.out (by simp [weighbridgelaw27_DoubleRuns.j0])
    | succ kj3 =>
      have H := HA.out
      clear HA
      simp only [weighbridgelaw27_DoubleRuns.j0] at H
      by_cases c12 : x22_3 = true
      · subst c12
        have H1 : ((weighbridgelaw27_live.f).bind fun t108 => (some t108)) = some r := by rw [if_pos rfl] at H; exact H
        clear H
        have H := H1
        clear H1
        replace H := Option.bind_eq_some_iff.mp H
        obtain ⟨t108, A130, H⟩ := H
        replace H : (some t108) = some r := H
        have A13 := zq3 A130
        clear A130
        obtain rfl := Option.some.inj H
        go_wp2_with (first | ((with_reducible refine gate_callee (f := 16) rfl ?_); refine goesL_ (some 23) rfl rfl Try.func16 (by kernel_rfl) rfl #[] rfl (by (try simp only [List.map_toArray, List.map_cons, List.map_nil]); first | done | rfl | (simp only [List.length_drop, List.length_take]; rfl)) ?_; (with_reducible refine (weighbridgelaw27_live.calls  t108 _ A13.out).mono ?_); rintro e w14 ⟨rfl, hb⟩; refine ⟨_, rfl, ?_⟩; have n0_ := zq3 (zq10 (g := gb101) (o := .cells #[.int .i64 a0_0, .bool a0_1, .int .u64 a0_2, .int .u64 a0_3, .int .u64 a0_4, .int .u64 a0_5] 24 (0, 0)) (by (with_reducible repeat (first | refine zq0 ?_ _ | refine zq2 ?_ | refine zq1 ?_ _)); exact BK101.out) hb); have n1_ := zq3 (zq10 (g := gb107) (o := .cells #[.int .u64 t102, .int .u64 t103, .int .u64 t104, .bool t105] 26 (0, 0)) (by (with_reducible repeat (first | refine zq0 ?_ _ | refine zq2 ?_ | refine zq1 ?_ _)); exact BK107.out) hb); have n2_ := zq3 (below_step (by repeat (first | (with_reducible first | exact HB.out | apply zq9 | apply zq7 | apply zq8 | refine zq6 ?_ GE101.out | refine zq6 ?_ GE107.out) | exact HB.out)) hb); clear BK101; clear BK107; clear HB; have BK101 := n0_; have BK107 := n1_; have HB := n2_; clear n0_ n1_ n2_; (try clear hb); (try clear hb2); (try clear hk); (try clear hi)))
        go_ret
        exact ⟨by first | rfl | (simp [errW_none, errW_some] <;> rfl) | (simp [*, errW_none, errW_some] <;> rfl), by repeat (first | (with_reducible first | exact HB.out | apply zq9 | apply zq7 | apply zq8 | refine zq6 ?_ GE101.out | refine zq6 ?_ GE107.out) | exact HB.out)⟩
      · replace c12 := Bool.eq_false_iff.mpr c12
        subst c12
        have H1 : (weighbridgelaw27_DoubleRuns.l0 kj3 l1 0 a0_0 a0_1 a0_2 a0_3 a0_4 a0_5 t102 t103 t104 t105 t102 t103 t104 t105) = some r := by rw [if_neg (show ¬ (false = true) by decide)] at H; exact H
        clear H
        have H := H1
        clear H1
        have H' := zq3 H
        clear H
        have hnb15 := NB107_101.out
        have hnc15 := NB101_107.out
        have hcz16_0 : wc.cell? ⟨gb107, 0, none⟩ = some (.int .u64 t102) := (zq5 BK107.out 0).trans rfl
        have hcz16_1 : wc.cell? ⟨gb107, 1, none⟩ = some (.int .u64 t103) := (zq5 BK107.out 1).trans rfl
        have hcz16_2 : wc.cell? ⟨gb107, 2, none⟩ = some (.int .u64 t104) := (zq5 BK107.out 2).trans rfl
        have hcz16_3 : wc.cell? ⟨gb107, 3, none⟩ = some (.bool t105) := (zq5 BK107.out 3).trans rfl
        have hfz16_0 := zq4 BK107.out 0
        have hfz16_1 := zq4 BK107.out 1
        have hfz16_2 := zq4 BK107.out 2
        have hfz16_3 := zq4 BK107.out 3
        go_wp2_with (first | ((with_reducible refine gate_dst (N := 7) rfl ?_); (try (refine gate_guard (by rfl) ?_; dsimp only)); refine box_event ?hg (N := 7) ?hd (cs := #[.int .u64 0, .int .u64 0, .int .u64 0, .bool false]) (t := 26) ?hr ?_; (case hd => rfl); (case hg => rfl); (case hr => first | (go_simp; done) | (go_simp; rfl)); intro gb109 hg w17 hbox hb; have n0_ := zq3 (zq10 (g := gb101) (o := .cells #[.int .i64 a0_0, .bool a0_1, .int .u64 a0_2, .int .u64 a0_3, .int .u64 a0_4, .int .u64 a0_5] 24 (0, 0)) (by (with_reducible repeat (first | refine zq0 ?_ _ | refine zq2 ?_ | refine zq1 ?_ _)); exact BK101.out) hb); have n1_ := zq3 (zq10 (g := gb107) (o := .cells #[.int .u64 t102, .int .u64 t103, .int .u64 t104, .bool t105] 26 (0, 0)) (by (with_reducible repeat (first | refine zq0 ?_ _ | refine zq2 ?_ | refine zq1 ?_ _)); exact BK107.out) hb); have n2_ := zq3 (below_step (by repeat (first | (with_reducible first | exact HB.out | apply zq9 | apply zq7 | apply zq8 | refine zq6 ?_ GE101.out | refine zq6 ?_ GE107.out) | exact HB.out)) hb); have n3_ := zq3 (hbox); have n4_ := zq3 ((by rw [hg]; exact (below_size (by repeat (first | (with_reducible first | exact HB.out | apply zq9 | apply zq7 | apply zq8 | refine zq6 ?_ GE101.out | refine zq6 ?_ GE107.out) | exact HB.out))) : w.heap.size ≤ gb109)); have n5_ := zq3 ((by rw [hg]; exact (below_size (by repeat (first | (with_reducible first | exact HB.out | apply zq9 | apply zq7 | apply zq8 | refine zq6 ?_ GE101.out | refine zq6 ?_ GE107.out) | exact HB.out))) : w.heap.size ≤ gb109)); have n6_ := zq3 ((by rw [hg]; exact Nat.ne_of_lt (blk_lt (g := gb101) (o := .cells #[.int .i64 a0_0, .bool a0_1, .int .u64 a0_2, .int .u64 a0_3, .int .u64 a0_4, .int .u64 a0_5] 24 (0, 0)) (by (with_reducible repeat (first | refine zq0 ?_ _ | refine zq2 ?_ | refine zq1 ?_ _)); exact BK101.out)) : gb101 ≠ gb109)); have n7_ := zq3 ((by rw [hg]; exact Nat.ne_of_gt (blk_lt (g := gb101) (o := .cells #[.int .i64 a0_0, .bool a0_1, .int .u64 a0_2, .int .u64 a0_3, .int .u64 a0_4, .int .u64 a0_5] 24 (0, 0)) (by (with_reducible repeat (first | refine zq0 ?_ _ | refine zq2 ?_ | refine zq1 ?_ _)); exact BK101.out)) : gb109 ≠ gb101)); have n8_ := zq3 ((by rw [hg]; exact Nat.ne_of_lt (blk_lt (g := gb107) (o := .cells #[.int .u64 t102, .int .u64 t103, .int .u64 t104, .bool t105] 26 (0, 0)) (by (with_reducible repeat (first | refine zq0 ?_ _ | refine zq2 ?_ | refine zq1 ?_ _)); exact BK107.out)) : gb107 ≠ gb109)); have n9_ := zq3 ((by rw [hg]; exact Nat.ne_of_gt (blk_lt (g := gb107) (o := .cells #[.int .u64 t102, .int .u64 t103, .int .u64 t104, .bool t105] 26 (0, 0)) (by (with_reducible repeat (first | refine zq0 ?_ _ | refine zq2 ?_ | refine zq1 ?_ _)); exact BK107.out)) : gb109 ≠ gb107)); clear BK101; clear BK107; clear HB; have BK101 := n0_; have BK107 := n1_; have HB := n2_; have BK109 := n3_; have GW109 := n4_; have GE109 := n5_; have NB101_109 := n6_; have NB109_101 := n7_; have NB107_109 := n8_; have NB109_107 := n9_; clear n0_ n1_ n2_ n3_ n4_ n5_ n6_ n7_ n8_ n9_; clear hb hbox hg; have hnb18 := NB109_101.out; have hnc18 := NB101_109.out; have hnb19 := NB109_107.out; have hnc19 := NB107_109.out; have hcz20_0 : w17.cell? ⟨gb109, 0, none⟩ = some (.int .u64 0) := (zq5 BK109.out 0).trans rfl; have hcz20_1 : w17.cell? ⟨gb109, 1, none⟩ = some (.int .u64 0) := (zq5 BK109.out 1).trans rfl; have hcz20_2 : w17.cell? ⟨gb109, 2, none⟩ = some (.int .u64 0) := (zq5 BK109.out 2).trans rfl; have hcz20_3 : w17.cell? ⟨gb109, 3, none⟩ = some (.bool false) := (zq5 BK109.out 3).trans rfl; have hfz20_0 := zq4 BK109.out 0; have hfz20_1 := zq4 BK109.out 1; have hfz20_2 := zq4 BK109.out 2; have hfz20_3 := zq4 BK109.out 3))
        go_loopg [8] kj3 (fun kq v8 w' => ∃ (x8_2 : Int) (x108000_2 : Int) (x108001_2 : Int) (x108002_2 : Int) (x108003_2 : Bool) (x110000_2 : Int) (x110001_2 : Int) (x110002_2 : Int) (x110003_2 : Bool), v8 = .int .i64 x8_2 ∧ Aside0 (weighbridgelaw27_DoubleRuns.l0 kq l1 x8_2 a0_0 a0_1 a0_2 a0_3 a0_4 a0_5 x108000_2 x108001_2 x108002_2 x108003_2 x110000_2 x110001_2 x110002_2 x110003_2 = some r) ∧ Aside0 (kq ≤ kj3) ∧ Aside0 (w'.heap[gb101]? = some (.cells #[.int .i64 a0_0, .bool a0_1, .int .u64 a0_2, .int .u64 a0_3, .int .u64 a0_4, .int .u64 a0_5] 24 (0, 0))) ∧ Aside0 (w'.heap[gb107]? = some (.cells #[.int .u64 x108000_2, .int .u64 x108001_2, .int .u64 x108002_2, .bool x108003_2] 26 (0, 0))) ∧ Aside0 (w'.heap[gb109]? = some (.cells #[.int .u64 x110000_2, .int .u64 x110001_2, .int .u64 x110002_2, .bool x110003_2] 26 (0, 0))) ∧ Aside0 (Below w.heap.size w w'))
        case atStart => exact ⟨(0), (t102), (t103), (t104), (t105), (t102), (t103), (t104), (t105), (by first | rfl | (simp; done) | (simp [*]; done)), H', ⟨Nat.le_refl _⟩, ⟨by (with_reducible repeat (first | refine zq0 ?_ _ | refine zq2 ?_ | refine zq1 ?_ _)); refine zq11 ?_ NB101_109.out _; (with_reducible repeat (first | refine zq0 ?_ _ | refine zq2 ?_ | refine zq1 ?_ _)); refine zq11 ?_ NB101_109.out _; (with_reducible repeat (first | refine zq0 ?_ _ | refine zq2 ?_ | refine zq1 ?_ _)); refine zq11 ?_ NB101_109.out _; (with_reducible repeat (first | refine zq0 ?_ _ | refine zq2 ?_ | refine zq1 ?_ _)); refine zq11 ?_ NB101_109.out _; (with_reducible repeat (first | refine zq0 ?_ _ | refine zq2 ?_ | refine zq1 ?_ _)); exact BK101.out⟩, ⟨by (with_reducible repeat (first | refine zq0 ?_ _ | refine zq2 ?_ | refine zq1 ?_ _)); refine zq11 ?_ NB107_109.out _; (with_reducible repeat (first | refine zq0 ?_ _ | refine zq2 ?_ | refine zq1 ?_ _)); refine zq11 ?_ NB107_109.out _; (with_reducible repeat (first | refine zq0 ?_ _ | refine zq2 ?_ | refine zq1 ?_ _)); refine zq11 ?_ NB107_109.out _; (with_reducible repeat (first | refine zq0 ?_ _ | refine zq2 ?_ | refine zq1 ?_ _)); refine zq11 ?_ NB107_109.out _; (with_reducible repeat (first | refine zq0 ?_ _ | refine zq2 ?_ | refine zq1 ?_ _)); exact BK107.out⟩, ⟨by (with_reducible repeat (first | refine zq0 ?_ _ | refine zq2 ?_ | refine zq1 ?_ _)); refine blk_put (cs := #[.int .u64 t102, .int .u64 t103, .int .u64 t104, .bool false]) ?_ 3 _ rfl; (with_reducible repeat (first | refine zq0 ?_ _ | refine zq2 ?_ | refine zq1 ?_ _)); refine blk_put (cs := #[.int .u64 t102, .int .u64 t103, .int .u64 0, .bool false]) ?_ 2 _ rfl; (with_reducible repeat (first | refine zq0 ?_ _ | refine zq2 ?_ | refine zq1 ?_ _)); refine blk_put (cs := #[.int .u64 t102, .int .u64 0, .int .u64 0, .bool false]) ?_ 1 _ rfl; (with_reducible repeat (first | refine zq0 ?_ _ | refine zq2 ?_ | refine zq1 ?_ _)); refine blk_put (cs := #[.int .u64 0, .int .u64 0, .int .u64 0, .bool false]) ?_ 0 _ rfl; (with_reducible repeat (first | refine zq0 ?_ _ | refine zq2 ?_ | refine zq1 ?_ _)); exact BK109.out⟩, ⟨by repeat (first | (with_reducible first | exact HB.out | apply zq9 | apply zq7 | apply zq8 | refine zq6 ?_ GE101.out | refine zq6 ?_ GE107.out | refine zq6 ?_ GE109.out) | exact HB.out)⟩⟩
        case round =>
          clear H'
          try clear c1
          try clear p2
          try clear c4
          try clear c9
          try clear c11
          try clear c11b0
          try clear c11b1
          try clear c12
          try clear c15
          try clear c16
          try clear c18
          try clear c19
          try clear hcz10_0
          try clear hcz10_1
          try clear hcz10_2
          try clear hcz10_3
          try clear hcz16_0
          try clear hcz16_1
          try clear hcz16_2
          try clear hcz16_3
          try clear hcz20_0
          try clear hcz20_1
          try clear hcz20_2
          try clear hcz20_3
          try clear hcz6_0
          try clear hcz6_1
          try clear hcz6_2
          try clear hcz6_3
          try clear hcz6_4
          try clear hcz6_5
          try clear hfz10_0
          try clear hfz10_1
          try clear hfz10_2
          try clear hfz10_3
          try clear hfz16_0
          try clear hfz16_1
          try clear hfz16_2
          try clear hfz16_3
          try clear hfz20_0
          try clear hfz20_1
          try clear hfz20_2
          try clear hfz20_3
          try clear hfz6_0
          try clear hfz6_1
          try clear hfz6_2
          try clear hfz6_3
          try clear hfz6_4
          try clear hfz6_5
          try clear p2
          obtain ⟨x8_2, x108000_2, x108001_2, x108002_2, x108003_2, x110000_2, x110001_2, x110002_2, x110003_2, rfl, HA, HK2, BK101, BK107, BK109, HB⟩ := hrel
          cases gk with
          | zero => exact absurd HA.out (by simp [weighbridgelaw27_DoubleRuns.l0])
          | succ k2 =>
            have H := HA.out
            clear HA
            simp only [weighbridgelaw27_DoubleRuns.l0] at H
            by_cases c21 : x8_2 < (l1.length : Int)
            · rw [if_pos c21] at H
              have c21b0 : decide (x8_2 < (l1.length : Int)) = true := decide_eq_true c21
              clear c21
              by_cases c22 : 0 ≤ x8_2
              · rw [if_pos c22] at H
                have c22b0 : decide (0 ≤ x8_2) = true := decide_eq_true c22
                clear c22
                replace H := Option.bind_eq_some_iff.mp H
                obtain ⟨⟨t114, t115, t116, t117, t118⟩, A230, H⟩ := H
                replace H : ((weighbridgeref27_Step.f k2 a0_0 a0_1 a0_2 a0_3 a0_4 a0_5 x110000_2 x110001_2 x110002_2 x110003_2 ((rd_T28 l1 x8_2).f0) ((rd_T28 l1 x8_2).f1) ((rd_T28 l1 x8_2).f2)).bind fun bt122 => (if (!(t114 == bt122.1) || (!(t115 == bt122.2.1) || (!(t116 == bt122.2.2.1) || (!(t117 == bt122.2.2.2.1))))) = true then (none) else (if t118 = bt122.2.2.2.2 then (weighbridgelaw27_DoubleRuns.l0 k2 l1 (wrap64 (x8_2 + 1)) a0_0 a0_1 a0_2 a0_3 a0_4 a0_5 t114 t115 t116 t117 bt122.1 bt122.2.1 bt122.2.2.1 bt122.2.2.2.1) else (none)))) = some r := H
                have A23 := zq3 A230
                clear A230
                replace H := Option.bind_eq_some_iff.mp H
                obtain ⟨⟨t122, t123, t124, t125, t126⟩, A240, H⟩ := H
                replace H : (if (!(t114 == t122) || (!(t115 == t123) || (!(t116 == t124) || (!(t117 == t125))))) = true then (none) else (if t118 = t126 then (weighbridgelaw27_DoubleRuns.l0 k2 l1 (wrap64 (x8_2 + 1)) a0_0 a0_1 a0_2 a0_3 a0_4 a0_5 t114 t115 t116 t117 t122 t123 t124 t125) else (none))) = some r := H
                have A24 := zq3 A240
                clear A240
                by_cases c25 : (!(t114 == t122) || (!(t115 == t123) || (!(t116 == t124) || (!(t117 == t125))))) = true
                · rw [if_pos c25] at H
                  exact absurd H (by simp)
                · rw [if_neg c25] at H
                  have c25b0 : (!(t114 == t122) || (!(t115 == t123) || (!(t116 == t124) || (!(t117 == t125))))) = false := by simpa using c25
                  clear c25
                  by_cases c26 : t118 = t126
                  · rw [if_pos c26] at H
                    have c26b0 : (t118 == t126) = true := beq_iff_eq.mpr c26
                    have c26b1 : (t118 != t126) = false := bne_eq_false_iff_eq.mpr c26
                    clear c26
                    have H' := zq3 H
                    clear H
                    try go_wp2
                    have n0_ := zq3 (zq2 BK101.out)
                    have n1_ := zq3 (zq2 BK107.out)
                    have n2_ := zq3 (zq2 BK109.out)
                    have n3_ := zq3 (zq8 HB.out)
                    clear BK101
                    clear BK107
                    clear BK109
                    clear HB
                    have BK101 := n0_
                    have BK107 := n1_
                    have BK109 := n2_
                    have HB := n3_
                    clear n0_ n1_ n2_ n3_
                    have p111 : 0 ≤ (x8_2 : Int) := of_decide_eq_true (by first | (with_reducible assumption) | assumption)
                    have q111 : x8_2 < (l1.length : Int) := of_decide_eq_true (by first | (with_reducible assumption) | assumption)
                    obtain ⟨ad111, e111, hx111_0, hx111_1, hx111_2⟩ := at_T28 HR1.out x8_2 p111 q111
                    have hw111_2 := hx111_2
                    have hw111_1 := hx111_1
                    have hw111_0 := hx111_0
                    cases e111
                    replace hx111_0 := (HB.out.cell (World.block_lt_of_cell? w _ hx111_0)).trans hx111_0
                    replace hx111_1 := (HB.out.cell (World.block_lt_of_cell? w _ hx111_1)).trans hx111_1
                    replace hx111_2 := (HB.out.cell (World.block_lt_of_cell? w _ hx111_2)).trans hx111_2
                    replace p111 := eq_true p111
                    replace q111 := eq_true q111
                    have p112 : 0 ≤ (x8_2 : Int) := of_decide_eq_true (by first | (with_reducible assumption) | assumption)
                    have q112 : x8_2 < (l1.length : Int) := of_decide_eq_true (by first | (with_reducible assumption) | assumption)
                    obtain ⟨ad112, e112, hx112_0, hx112_1, hx112_2⟩ := at_T28 HR1.out x8_2 p112 q112
                    have hw112_2 := hx112_2
                    have hw112_1 := hx112_1
                    have hw112_0 := hx112_0
                    obtain rfl : ad111 = ad112 := (by injection e112)
                    replace hx112_0 := (HB.out.cell (World.block_lt_of_cell? w _ hx112_0)).trans hx112_0
                    replace hx112_1 := (HB.out.cell (World.block_lt_of_cell? w _ hx112_1)).trans hx112_1
                    replace hx112_2 := (HB.out.cell (World.block_lt_of_cell? w _ hx112_2)).trans hx112_2
                    replace p112 := eq_true p112
                    replace q112 := eq_true q112
                    have p113 : 0 ≤ (x8_2 : Int) := of_decide_eq_true (by first | (with_reducible assumption) | assumption)
                    have q113 : x8_2 < (l1.length : Int) := of_decide_eq_true (by first | (with_reducible assumption) | assumption)
                    obtain ⟨ad113, e113, hx113_0, hx113_1, hx113_2⟩ := at_T28 HR1.out x8_2 p113 q113
                    have hw113_2 := hx113_2
                    have hw113_1 := hx113_1
                    have hw113_0 := hx113_0
                    obtain rfl : ad111 = ad113 := (by injection e113)
                    replace hx113_0 := (HB.out.cell (World.block_lt_of_cell? w _ hx113_0)).trans hx113_0
                    replace hx113_1 := (HB.out.cell (World.block_lt_of_cell? w _ hx113_1)).trans hx113_1
                    replace hx113_2 := (HB.out.cell (World.block_lt_of_cell? w _ hx113_2)).trans hx113_2
                    replace p113 := eq_true p113
                    replace q113 := eq_true q113
                    refine start_ (n := 23) (S := fun w' => w'.cell? ⟨gb101, 0, none⟩ = some (.int .i64 a0_0) ∧ w'.cell? ⟨gb101, 1, none⟩ = some (.bool a0_1) ∧ w'.cell? ⟨gb101, 2, none⟩ = some (.int .u64 a0_2) ∧ w'.cell? ⟨gb101, 3, none⟩ = some (.int .u64 a0_3) ∧ w'.cell? ⟨gb101, 4, none⟩ = some (.int .u64 a0_4) ∧ w'.cell? ⟨gb101, 5, none⟩ = some (.int .u64 a0_5) ∧ w'.cell? ⟨gb107, 0, none⟩ = some (.int .u64 x108000_2) ∧ w'.cell? ⟨gb107, 1, none⟩ = some (.int .u64 x108001_2) ∧ w'.cell? ⟨gb107, 2, none⟩ = some (.int .u64 x108002_2) ∧ w'.cell? ⟨gb107, 3, none⟩ = some (.bool x108003_2) ∧ w'.cell? (ad111.add ((x8_2).toNat * 3)) = some (.int .u64 ((rd_T28 l1 x8_2).f0)) ∧ w'.cell? ⟨(ad111.add ((x8_2).toNat * 3)).block, (ad111.add ((x8_2).toNat * 3)).off + 1, none⟩ = some (.int .i64 ((rd_T28 l1 x8_2).f1)) ∧ w'.cell? ⟨(ad111.add ((x8_2).toNat * 3)).block, (ad111.add ((x8_2).toNat * 3)).off + 2, none⟩ = some (.int .i64 ((rd_T28 l1 x8_2).f2)) ∧ w'.cell? (ad111.add ((x8_2).toNat * 3)) = some (.int .u64 ((rd_T28 l1 x8_2).f0)) ∧ w'.cell? ⟨(ad111.add ((x8_2).toNat * 3)).block, (ad111.add ((x8_2).toNat * 3)).off + 1, none⟩ = some (.int .i64 ((rd_T28 l1 x8_2).f1)) ∧ w'.cell? ⟨(ad111.add ((x8_2).toNat * 3)).block, (ad111.add ((x8_2).toNat * 3)).off + 2, none⟩ = some (.int .i64 ((rd_T28 l1 x8_2).f2)) ∧ w'.cell? (ad111.add ((x8_2).toNat * 3)) = some (.int .u64 ((rd_T28 l1 x8_2).f0)) ∧ w'.cell? ⟨(ad111.add ((x8_2).toNat * 3)).block, (ad111.add ((x8_2).toNat * 3)).off + 1, none⟩ = some (.int .i64 ((rd_T28 l1 x8_2).f1)) ∧ w'.cell? ⟨(ad111.add ((x8_2).toNat * 3)).block, (ad111.add ((x8_2).toNat * 3)).off + 2, none⟩ = some (.int .i64 ((rd_T28 l1 x8_2).f2))) (ds := [21]) #[false, false, false, false, false, false, false, false, false, false, false, false, false, false, false, false, false, false, false, false, false, false, false] (by kernel_rfl) rfl rfl ⟨(zq5 BK101.out 0).trans rfl, (zq5 BK101.out 1).trans rfl, (zq5 BK101.out 2).trans rfl, (zq5 BK101.out 3).trans rfl, (zq5 BK101.out 4).trans rfl, (zq5 BK101.out 5).trans rfl, (zq5 BK107.out 0).trans rfl, (zq5 BK107.out 1).trans rfl, (zq5 BK107.out 2).trans rfl, (zq5 BK107.out 3).trans rfl, ((HB.out.cell (World.block_lt_of_cell? w _ hw111_0)).trans hw111_0), ((HB.out.cell (World.block_lt_of_cell? w _ hw111_1)).trans hw111_1), ((HB.out.cell (World.block_lt_of_cell? w _ hw111_2)).trans hw111_2), ((HB.out.cell (World.block_lt_of_cell? w _ hw112_0)).trans hw112_0), ((HB.out.cell (World.block_lt_of_cell? w _ hw112_1)).trans hw112_1), ((HB.out.cell (World.block_lt_of_cell? w _ hw112_2)).trans hw112_2), ((HB.out.cell (World.block_lt_of_cell? w _ hw113_0)).trans hw113_0), ((HB.out.cell (World.block_lt_of_cell? w _ hw113_1)).trans hw113_1), ((HB.out.cell (World.block_lt_of_cell? w _ hw113_2)).trans hw113_2)⟩ (fun hHeld => ?_); refine with_tabW weighbridgelaw27_DoubleRuns.tab9 weighbridgelaw27_DoubleRuns.bits9 (fun HT_ HW_ => ?_)
                    generalize wr.drew = w27 at BK101 BK107 BK109 HB hx111_0 hx111_1 hx111_2 hx112_0 hx112_1 hx112_2 hx113_0 hx113_1 hx113_2 hHeld ⊢
                    refine pure_ (i := 2) (N := some 34) (v := ?_) (a' := ?_) #[false, false, true, false, false, false, false, false, false, false, false, false, false, false, false, false, false, false, false, false, false, false, false] rfl rfl (any_of HT_.out (by kernel_rfl)) (fun _ _ _ h => h) (Or.inl ⟨by rfl, ?_⟩) ?_ ?_
                    rotate_left
                    · intro w'
                      go_simp
                      with_reducible rfl
                    rotate_left
                    · simp only [Act.put, List.setIfInBounds_toArray, List.set_cons_zero, List.set_cons_succ, i64_w, i32_w]
                      rfl
                    refine pure_ (i := 3) (N := some 35) (v := ?_) (a' := ?_) #[false, false, true, true, false, false, false, false, false, false, false, false, false, false, false, false, false, false, false, false, false, false, false] rfl rfl (any_of HT_.out (by kernel_rfl)) (fun _ _ _ h => h) (Or.inl ⟨by rfl, ?_⟩) ?_ ?_
                    rotate_left
                    · intro w'
                      go_simp
                      with_reducible rfl
                    rotate_left
                    · simp only [Act.put, List.setIfInBounds_toArray, List.set_cons_zero, List.set_cons_succ, i64_w, i32_w]
                      rfl
                    refine pure_ (i := 4) (N := some 36) (v := ?_) (a' := ?_) #[false, false, true, true, true, false, false, false, false, false, false, false, false, false, false, false, false, false, false, false, false, false, false] rfl rfl (any_of HT_.out (by kernel_rfl)) (fun _ _ _ h => h) (Or.inl ⟨by rfl, ?_⟩) ?_ ?_
                    rotate_left
                    · intro w'
                      go_simp
                      with_reducible rfl
                    rotate_left
                    · simp only [Act.put, List.setIfInBounds_toArray, List.set_cons_zero, List.set_cons_succ, i64_w, i32_w]
                      rfl
                    refine pure_ (i := 5) (N := some 37) (v := ?_) (a' := ?_) #[false, false, true, true, true, true, false, false, false, false, false, false, false, false, false, false, false, false, false, false, false, false, false] rfl rfl (any_of HT_.out (by kernel_rfl)) (fun _ _ _ h => h) (Or.inl ⟨by rfl, ?_⟩) ?_ ?_
                    rotate_left
                    · intro w'
                      go_simp
                      with_reducible rfl
                    rotate_left
                    · simp only [Act.put, List.setIfInBounds_toArray, List.set_cons_zero, List.set_cons_succ, i64_w, i32_w]
                      rfl
                    refine pure_ (i := 7) (N := some 39) (v := ?_) (a' := ?_) #[false, false, true, true, true, true, false, true, false, false, false, false, false, false, false, false, false, false, false, false, false, false, false] rfl rfl (any_of HT_.out (by kernel_rfl)) (fun _ _ _ h => h) (Or.inl ⟨by rfl, ?_⟩) ?_ ?_
                    rotate_left
                    · intro w'
                      go_simp
                      with_reducible rfl
                    rotate_left
                    · simp only [Act.put, List.setIfInBounds_toArray, List.set_cons_zero, List.set_cons_succ, i64_w, i32_w]
                      rfl
                    refine pure_ (i := 8) (N := some 40) (v := ?_) (a' := ?_) #[false, false, true, true, true, true, false, true, true, false, false, false, false, false, false, false, false, false, false, false, false, false, false] rfl rfl (any_of HT_.out (by kernel_rfl)) (fun _ _ _ h => h) (Or.inl ⟨by rfl, ?_⟩) ?_ ?_
                    rotate_left
                    · intro w'
                      go_simp
                      with_reducible rfl
                    rotate_left
                    · simp only [Act.put, List.setIfInBounds_toArray, List.set_cons_zero, List.set_cons_succ, i64_w, i32_w]
                      rfl
                    refine pure_ (i := 9) (N := some 41) (v := ?_) (a' := ?_) #[false, false, true, true, true, true, false, true, true, true, false, false, false, false, false, false, false, false, false, false, false, false, false] rfl rfl (any_of HT_.out (by kernel_rfl)) (fun _ _ _ h => h) (Or.inl ⟨by rfl, ?_⟩) ?_ ?_
                    rotate_left
                    · intro w'
                      go_simp
                      with_reducible rfl
                    rotate_left
                    · simp only [Act.put, List.setIfInBounds_toArray, List.set_cons_zero, List.set_cons_succ, i64_w, i32_w]
                      rfl
                    refine pure_ (i := 10) (N := some 42) (v := ?_) (a' := ?_) #[false, false, true, true, true, true, false, true, true, true, true, false, false, false, false, false, false, false, false, false, false, false, false] rfl rfl (any_of HT_.out (by kernel_rfl)) (fun _ _ _ h => h) (Or.inl ⟨by rfl, ?_⟩) ?_ ?_
                    rotate_left
                    · intro w'
                      go_simp
                      with_reducible rfl
                    rotate_left
                    · simp only [Act.put, List.setIfInBounds_toArray, List.set_cons_zero, List.set_cons_succ, i64_w, i32_w]
                      rfl
                    refine pure_ (i := 12) (N := some 44) (v := ?_) (a' := ?_) #[false, false, true, true, true, true, false, true, true, true, true, false, true, false, false, false, false, false, false, false, false, false, false] rfl rfl (any_of HT_.out (by kernel_rfl)) (fun _ _ _ h => h) (Or.inl ⟨by rfl, ?_⟩) ?_ ?_
                    rotate_left
                    · intro w'
                      go_simp
                      with_reducible rfl
                    rotate_left
                    · simp only [Act.put, List.setIfInBounds_toArray, List.set_cons_zero, List.set_cons_succ, i64_w, i32_w]
                      rfl
                    refine pure_ (i := 13) (N := some 45) (v := ?_) (a' := ?_) #[false, false, true, true, true, true, false, true, true, true, true, false, true, true, false, false, false, false, false, false, false, false, false] rfl rfl (any_of HT_.out (by kernel_rfl)) (fun _ _ _ h => h) (Or.inl ⟨by rfl, ?_⟩) ?_ ?_
                    rotate_left
                    · intro w'
                      go_simp
                      with_reducible rfl
                    rotate_left
                    · simp only [Act.put, List.setIfInBounds_toArray, List.set_cons_zero, List.set_cons_succ, i64_w, i32_w]
                      rfl
                    refine pure_ (i := 14) (N := some 46) (v := ?_) (a' := ?_) #[false, false, true, true, true, true, false, true, true, true, true, false, true, true, true, false, false, false, false, false, false, false, false] rfl rfl (any_of HT_.out (by kernel_rfl)) (fun _ _ _ h => h) (Or.inl ⟨by rfl, ?_⟩) ?_ ?_
                    rotate_left
                    · intro w'
                      go_simp
                      with_reducible rfl
                    rotate_left
                    · simp only [Act.put, List.setIfInBounds_toArray, List.set_cons_zero, List.set_cons_succ, i64_w, i32_w]
                      rfl
                    refine pure_ (i := 15) (N := some 47) (v := ?_) (a' := ?_) #[false, false, true, true, true, true, false, true, true, true, true, false, true, true, true, true, false, false, false, false, false, false, false] rfl rfl (any_of HT_.out (by kernel_rfl)) (fun _ _ _ h => h) (Or.inl ⟨by rfl, ?_⟩) ?_ ?_
                    rotate_left
                    · intro w'
                      go_simp
                      with_reducible rfl
                    rotate_left
                    · simp only [Act.put, List.setIfInBounds_toArray, List.set_cons_zero, List.set_cons_succ, i64_w, i32_w]
                      rfl
                    refine take_ (i := 0) (N := some 32) (v := ?_) (a' := ?_) #[true, false, true, true, true, true, false, true, true, true, true, false, true, true, true, true, false, false, false, false, false, false, false] rfl rfl (take_ofW HT_.out HW_.out (by kernel_rfl)) (fun _ _ _ h => h) (Or.inl ⟨by rfl, ?_⟩) hHeld ?_ ?_
                    rotate_left
                    · rintro w' ⟨s0, s1, s2, s3, s4, s5, s6, s7, s8, s9, s10, s11, s12, s13, s14, s15, s16, s17, s18⟩
                      go_simp
                      with_reducible rfl
                    rotate_left
                    · simp only [Act.put, List.setIfInBounds_toArray, List.set_cons_zero, List.set_cons_succ, i64_w, i32_w]
                      rfl
                    refine take_ (i := 1) (N := some 33) (v := ?_) (a' := ?_) #[true, true, true, true, true, true, false, true, true, true, true, false, true, true, true, true, false, false, false, false, false, false, false] rfl rfl (take_ofW HT_.out HW_.out (by kernel_rfl)) (fun _ _ _ h => h) (Or.inl ⟨by rfl, ?_⟩) hHeld ?_ ?_
                    rotate_left
                    · rintro w' ⟨s0, s1, s2, s3, s4, s5, s6, s7, s8, s9, s10, s11, s12, s13, s14, s15, s16, s17, s18⟩
                      go_simp
                      with_reducible rfl
                    rotate_left
                    · simp only [Act.put, List.setIfInBounds_toArray, List.set_cons_zero, List.set_cons_succ, i64_w, i32_w]
                      rfl
                    refine take_ (i := 6) (N := some 38) (v := ?_) (a' := ?_) #[true, true, true, true, true, true, true, true, true, true, true, false, true, true, true, true, false, false, false, false, false, false, false] rfl rfl (take_ofW HT_.out HW_.out (by kernel_rfl)) (fun _ _ _ h => h) (Or.inl ⟨by rfl, ?_⟩) hHeld ?_ ?_
                    rotate_left
                    · rintro w' ⟨s0, s1, s2, s3, s4, s5, s6, s7, s8, s9, s10, s11, s12, s13, s14, s15, s16, s17, s18⟩
                      go_simp
                      with_reducible rfl
                    rotate_left
                    · simp only [Act.put, List.setIfInBounds_toArray, List.set_cons_zero, List.set_cons_succ, i64_w, i32_w]
                      rfl
                    refine take_ (i := 11) (N := some 43) (v := ?_) (a' := ?_) #[true, true, true, true, true, true, true, true, true, true, true, true, true, true, true, true, false, false, false, false, false, false, false] rfl rfl (take_ofW HT_.out HW_.out (by kernel_rfl)) (fun _ _ _ h => h) (Or.inl ⟨by rfl, ?_⟩) hHeld ?_ ?_
                    rotate_left
                    · rintro w' ⟨s0, s1, s2, s3, s4, s5, s6, s7, s8, s9, s10, s11, s12, s13, s14, s15, s16, s17, s18⟩
                      go_simp
                      with_reducible rfl
                    rotate_left
                    · simp only [Act.put, List.setIfInBounds_toArray, List.set_cons_zero, List.set_cons_succ, i64_w, i32_w]
                      rfl
                    refine take_ (i := 16) (N := some 48) (v := ?_) (a' := ?_) #[true, true, true, true, true, true, true, true, true, true, true, true, true, true, true, true, true, false, false, false, false, false, false] rfl rfl (take_ofW HT_.out HW_.out (by kernel_rfl)) (fun _ _ _ h => h) (Or.inl ⟨by rfl, ?_⟩) hHeld ?_ ?_
                    rotate_left
                    · rintro w' ⟨s0, s1, s2, s3, s4, s5, s6, s7, s8, s9, s10, s11, s12, s13, s14, s15, s16, s17, s18⟩
                      go_simp
                      with_reducible rfl
                    rotate_left
                    · simp only [Act.put, List.setIfInBounds_toArray, List.set_cons_zero, List.set_cons_succ, i64_w, i32_w]
                      rfl
                    refine one_ (i := 17) (N := some 49) #[true, true, true, true, true, true, true, true, true, true, true, true, true, true, true, true, true, true, false, false, false, false, false] rfl rfl (one_of HT_.out (by kernel_rfl)) (by decide) (fun K hK => ?_)
                    refine goes_ Try.func14 (by kernel_rfl) rfl #[.agg #[.int .i64 a0_0, .bool a0_1, .int .u64 a0_2, .int .u64 a0_3, .int .u64 a0_4, .int .u64 a0_5], .agg #[.int .u64 x108000_2, .int .u64 x108001_2, .int .u64 x108002_2, .bool x108003_2], .int .u64 ((rd_T28 l1 x8_2).f0), .int .i64 ((rd_T28 l1 x8_2).f1), .int .i64 ((rd_T28 l1 x8_2).f2)] (by rfl) rfl rfl (by (try simp only [List.map_toArray, List.map_cons, List.map_nil]); first | done | rfl | (simp only [List.length_drop, List.length_take]; rfl)) ?_
                    with_reducible refine (double_Stepd.calls a0_0 a0_1 a0_2 a0_3 a0_4 a0_5 x108000_2 x108001_2 x108002_2 x108003_2 ((rd_T28 l1 x8_2).f0) ((rd_T28 l1 x8_2).f1) ((rd_T28 l1 x8_2).f2) t114 t115 t116 t117 t118 _ A23.out).mono ?_
                    rintro e w28 ⟨rfl, hb⟩
                    refine ⟨_, rfl, ?_⟩
                    have n0_ := zq3 (zq10 (g := gb101) (o := .cells #[.int .i64 a0_0, .bool a0_1, .int .u64 a0_2, .int .u64 a0_3, .int .u64 a0_4, .int .u64 a0_5] 24 (0, 0)) (by (with_reducible repeat (first | refine zq0 ?_ _ | refine zq2 ?_ | refine zq1 ?_ _)); exact BK101.out) hb)
                    have n1_ := zq3 (zq10 (g := gb107) (o := .cells #[.int .u64 x108000_2, .int .u64 x108001_2, .int .u64 x108002_2, .bool x108003_2] 26 (0, 0)) (by (with_reducible repeat (first | refine zq0 ?_ _ | refine zq2 ?_ | refine zq1 ?_ _)); exact BK107.out) hb)
                    have n2_ := zq3 (zq10 (g := gb109) (o := .cells #[.int .u64 x110000_2, .int .u64 x110001_2, .int .u64 x110002_2, .bool x110003_2] 26 (0, 0)) (by (with_reducible repeat (first | refine zq0 ?_ _ | refine zq2 ?_ | refine zq1 ?_ _)); exact BK109.out) hb)
                    have n3_ := zq3 (below_step (by repeat (first | (with_reducible first | exact HB.out | apply zq9 | apply zq7 | apply zq8 | refine zq6 ?_ GE101.out | refine zq6 ?_ GE107.out | refine zq6 ?_ GE109.out) | exact HB.out)) hb)
                    clear BK101
                    clear BK107
                    clear BK109
                    clear HB
                    have BK101 := n0_
                    have BK107 := n1_
                    have BK109 := n2_
                    have HB := n3_
                    clear n0_ n1_ n2_ n3_
                    (try clear hb)
                    (try clear hb2)
                    (try clear hk)
                    (try clear hi)
                    refine hK.out _ _ ⟨(zq5 BK101.out 0).trans rfl, (zq5 BK101.out 1).trans rfl, (zq5 BK101.out 2).trans rfl, (zq5 BK101.out 3).trans rfl, (zq5 BK101.out 4).trans rfl, (zq5 BK101.out 5).trans rfl, (zq5 BK107.out 0).trans rfl, (zq5 BK107.out 1).trans rfl, (zq5 BK107.out 2).trans rfl, (zq5 BK107.out 3).trans rfl, ((HB.out.cell (World.block_lt_of_cell? w _ hw111_0)).trans hw111_0), ((HB.out.cell (World.block_lt_of_cell? w _ hw111_1)).trans hw111_1), ((HB.out.cell (World.block_lt_of_cell? w _ hw111_2)).trans hw111_2), ((HB.out.cell (World.block_lt_of_cell? w _ hw112_0)).trans hw112_0), ((HB.out.cell (World.block_lt_of_cell? w _ hw112_1)).trans hw112_1), ((HB.out.cell (World.block_lt_of_cell? w _ hw112_2)).trans hw112_2), ((HB.out.cell (World.block_lt_of_cell? w _ hw113_0)).trans hw113_0), ((HB.out.cell (World.block_lt_of_cell? w _ hw113_1)).trans hw113_1), ((HB.out.cell (World.block_lt_of_cell? w _ hw113_2)).trans hw113_2)⟩ (fun hHeld => ?_)
                    clear hK K
                    refine norm_ (a' := ?_) ?_ ?_
                    rotate_left
                    · show Act.put _ (some 49) _ = _
                      simp only [Act.put, List.setIfInBounds_toArray, List.set_cons_zero, List.set_cons_succ, i64_w, i32_w]
                      rfl
                    refine pure_ (i := 18) (N := some 31) (v := ?_) (a' := ?_) #[true, true, true, true, true, true, true, true, true, true, true, true, true, true, true, true, true, true, true, false, false, false, false] rfl rfl (any_of HT_.out (by kernel_rfl)) (fun _ _ _ h => h) (Or.inl ⟨by rfl, ?_⟩) ?_ ?_
                    rotate_left
                    · intro w'
                      go_simp
                      with_reducible rfl
                    rotate_left
                    · simp only [Act.put, List.setIfInBounds_toArray, List.set_cons_zero, List.set_cons_succ, i64_w, i32_w]
                      rfl
                    refine pure_ (i := 19) (N := some 50) (v := ?_) (a' := ?_) #[true, true, true, true, true, true, true, true, true, true, true, true, true, true, true, true, true, true, true, true, false, false, false] rfl rfl (any_of HT_.out (by kernel_rfl)) (fun _ _ _ h => h) (Or.inl ⟨by rfl, ?_⟩) ?_ ?_
                    rotate_left
                    · intro w'
                      go_simp
                      with_reducible rfl
                    rotate_left
                    · simp only [Act.put, List.setIfInBounds_toArray, List.set_cons_zero, List.set_cons_succ, i64_w, i32_w]
                      rfl
                    refine pure_ (i := 20) (N := some 51) (v := ?_) (a' := ?_) #[true, true, true, true, true, true, true, true, true, true, true, true, true, true, true, true, true, true, true, true, true, false, false] rfl rfl (any_of HT_.out (by kernel_rfl)) (fun _ _ _ h => h) (Or.inl ⟨by rfl, ?_⟩) ?_ ?_
                    rotate_left
                    · intro w'
                      go_simp
                      with_reducible rfl
                    rotate_left
                    · simp only [Act.put, List.setIfInBounds_toArray, List.set_cons_zero, List.set_cons_succ, i64_w, i32_w]
                      rfl
                    refine last_ (i := 21) (N := none) #[true, true, true, true, true, true, true, true, true, true, true, true, true, true, true, true, true, true, true, true, true, true, false] rfl rfl (one_of HT_.out (by kernel_rfl)) (by decide) (fun K hK => ?_)
                    have hs29 : w28.cell? ⟨gb107, 0, none⟩ = some (.int .u64 x108000_2) := (zq5 BK107.out 0).trans rfl
                    have hfs29 := zq4 BK107.out 0
                    have hns29_0 := NB101_107.out
                    have hns29_2 := NB109_107.out
                    have hms29_0 := NB107_101.out
                    have hms29_2 := NB107_109.out
                    have hs30 : w28.cell? ⟨gb107, 1, none⟩ = some (.int .u64 x108001_2) := (zq5 BK107.out 1).trans rfl
                    have hfs30 := zq4 BK107.out 1
                    have hns30_0 := NB101_107.out
                    have hns30_2 := NB109_107.out
                    have hms30_0 := NB107_101.out
                    have hms30_2 := NB107_109.out
                    have hs31 : w28.cell? ⟨gb107, 2, none⟩ = some (.int .u64 x108002_2) := (zq5 BK107.out 2).trans rfl
                    have hfs31 := zq4 BK107.out 2
                    have hns31_0 := NB101_107.out
                    have hns31_2 := NB109_107.out
                    have hms31_0 := NB107_101.out
                    have hms31_2 := NB107_109.out
                    have hs32 : w28.cell? ⟨gb107, 3, none⟩ = some (.bool x108003_2) := (zq5 BK107.out 3).trans rfl
                    have hfs32 := zq4 BK107.out 3
                    have hns32_0 := NB101_107.out
                    have hns32_2 := NB109_107.out
                    have hms32_0 := NB107_101.out
                    have hms32_2 := NB107_109.out
                    refine skip_ (w1 := ?_) (by rfl) rfl ?_ ?_
                    rotate_left
                    · go_simp
                      rfl
                    refine hK.out _ _ ?_
                    clear hK K
                    refine pure_ (i := 22) (N := some 9) (v := ?_) (a' := ?_) #[true, true, true, true, true, true, true, true, true, true, true, true, true, true, true, true, true, true, true, true, true, true, true] rfl rfl (any_of HT_.out (by kernel_rfl)) (fun _ _ _ h => h) (Or.inl ⟨by rfl, ?_⟩) ?_ ?_
                    rotate_left
                    · intro w'
                      go_simp
                      with_reducible rfl
                    rotate_left
                    · simp only [Act.put, List.setIfInBounds_toArray, List.set_cons_zero, List.set_cons_succ, i64_w, i32_w]
                      rfl
                    refine done_ (done_of HT_.out (by kernel_rfl)) ?_
                    try go_wp2
                    have n0_ : Aside0 (((((w28.setCell ⟨gb107, 0, none⟩ (.int .u64 t114)).setCell ⟨gb107, 1, none⟩ (.int .u64 t115)).setCell ⟨gb107, 2, none⟩ (.int .u64 t116)).setCell ⟨gb107, 3, none⟩ (.bool t117)).heap[gb101]? = some (.cells #[.int .i64 a0_0, .bool a0_1, .int .u64 a0_2, .int .u64 a0_3, .int .u64 a0_4, .int .u64 a0_5] 24 (0, 0))) := ⟨by (with_reducible repeat (first | refine zq0 ?_ _ | refine zq2 ?_ | refine zq1 ?_ _)); refine zq11 ?_ NB101_107.out _; (with_reducible repeat (first | refine zq0 ?_ _ | refine zq2 ?_ | refine zq1 ?_ _)); refine zq11 ?_ NB101_107.out _; (with_reducible repeat (first | refine zq0 ?_ _ | refine zq2 ?_ | refine zq1 ?_ _)); refine zq11 ?_ NB101_107.out _; (with_reducible repeat (first | refine zq0 ?_ _ | refine zq2 ?_ | refine zq1 ?_ _)); refine zq11 ?_ NB101_107.out _; (with_reducible repeat (first | refine zq0 ?_ _ | refine zq2 ?_ | refine zq1 ?_ _)); exact BK101.out⟩
                    have n1_ : Aside0 (((((w28.setCell ⟨gb107, 0, none⟩ (.int .u64 t114)).setCell ⟨gb107, 1, none⟩ (.int .u64 t115)).setCell ⟨gb107, 2, none⟩ (.int .u64 t116)).setCell ⟨gb107, 3, none⟩ (.bool t117)).heap[gb107]? = some (.cells #[.int .u64 t114, .int .u64 t115, .int .u64 t116, .bool t117] 26 (0, 0))) := ⟨by (with_reducible repeat (first | refine zq0 ?_ _ | refine zq2 ?_ | refine zq1 ?_ _)); refine blk_put (cs := #[.int .u64 t114, .int .u64 t115, .int .u64 t116, .bool x108003_2]) ?_ 3 _ rfl; (with_reducible repeat (first | refine zq0 ?_ _ | refine zq2 ?_ | refine zq1 ?_ _)); refine blk_put (cs := #[.int .u64 t114, .int .u64 t115, .int .u64 x108002_2, .bool x108003_2]) ?_ 2 _ rfl; (with_reducible repeat (first | refine zq0 ?_ _ | refine zq2 ?_ | refine zq1 ?_ _)); refine blk_put (cs := #[.int .u64 t114, .int .u64 x108001_2, .int .u64 x108002_2, .bool x108003_2]) ?_ 1 _ rfl; (with_reducible repeat (first | refine zq0 ?_ _ | refine zq2 ?_ | refine zq1 ?_ _)); refine blk_put (cs := #[.int .u64 x108000_2, .int .u64 x108001_2, .int .u64 x108002_2, .bool x108003_2]) ?_ 0 _ rfl; (with_reducible repeat (first | refine zq0 ?_ _ | refine zq2 ?_ | refine zq1 ?_ _)); exact BK107.out⟩
                    have n2_ : Aside0 (((((w28.setCell ⟨gb107, 0, none⟩ (.int .u64 t114)).setCell ⟨gb107, 1, none⟩ (.int .u64 t115)).setCell ⟨gb107, 2, none⟩ (.int .u64 t116)).setCell ⟨gb107, 3, none⟩ (.bool t117)).heap[gb109]? = some (.cells #[.int .u64 x110000_2, .int .u64 x110001_2, .int .u64 x110002_2, .bool x110003_2] 26 (0, 0))) := ⟨by (with_reducible repeat (first | refine zq0 ?_ _ | refine zq2 ?_ | refine zq1 ?_ _)); refine zq11 ?_ NB109_107.out _; (with_reducible repeat (first | refine zq0 ?_ _ | refine zq2 ?_ | refine zq1 ?_ _)); refine zq11 ?_ NB109_107.out _; (with_reducible repeat (first | refine zq0 ?_ _ | refine zq2 ?_ | refine zq1 ?_ _)); refine zq11 ?_ NB109_107.out _; (with_reducible repeat (first | refine zq0 ?_ _ | refine zq2 ?_ | refine zq1 ?_ _)); refine zq11 ?_ NB109_107.out _; (with_reducible repeat (first | refine zq0 ?_ _ | refine zq2 ?_ | refine zq1 ?_ _)); exact BK109.out⟩
                    have n3_ : Aside0 (Below w.heap.size w ((((w28.setCell ⟨gb107, 0, none⟩ (.int .u64 t114)).setCell ⟨gb107, 1, none⟩ (.int .u64 t115)).setCell ⟨gb107, 2, none⟩ (.int .u64 t116)).setCell ⟨gb107, 3, none⟩ (.bool t117))) := ⟨by repeat (first | (with_reducible first | exact HB.out | apply zq9 | apply zq7 | apply zq8 | refine zq6 ?_ GE101.out | refine zq6 ?_ GE107.out | refine zq6 ?_ GE109.out) | exact HB.out)⟩
                    (try clear BK101)
                    (try clear BK107)
                    (try clear BK109)
                    (try clear HB)
                    generalize ((((w28.setCell ⟨gb107, 0, none⟩ (.int .u64 t114)).setCell ⟨gb107, 1, none⟩ (.int .u64 t115)).setCell ⟨gb107, 2, none⟩ (.int .u64 t116)).setCell ⟨gb107, 3, none⟩ (.bool t117)) = w33 at n0_ n1_ n2_ n3_ ⊢
                    have BK101 := n0_
                    have BK107 := n1_
                    have BK109 := n2_
                    have HB := n3_
                    clear n0_ n1_ n2_ n3_
                    have n0_ := zq3 (zq2 BK101.out)
                    have n1_ := zq3 (zq2 BK107.out)
                    have n2_ := zq3 (zq2 BK109.out)
                    have n3_ := zq3 (zq8 HB.out)
                    clear BK101
                    clear BK107
                    clear BK109
                    clear HB
                    have BK101 := n0_
                    have BK107 := n1_
                    have BK109 := n2_
                    have HB := n3_
                    clear n0_ n1_ n2_ n3_
                    have p119 : 0 ≤ (x8_2 : Int) := of_decide_eq_true (by first | (with_reducible assumption) | assumption)
                    have q119 : x8_2 < (l1.length : Int) := of_decide_eq_true (by first | (with_reducible assumption) | assumption)
                    obtain ⟨ad119, e119, hx119_0, hx119_1, hx119_2⟩ := at_T28 HR1.out x8_2 p119 q119
                    have hw119_2 := hx119_2
                    have hw119_1 := hx119_1
                    have hw119_0 := hx119_0
                    obtain rfl : ad111 = ad119 := (by injection e119)
                    replace hx119_0 := (HB.out.cell (World.block_lt_of_cell? w _ hx119_0)).trans hx119_0
                    replace hx119_1 := (HB.out.cell (World.block_lt_of_cell? w _ hx119_1)).trans hx119_1
                    replace hx119_2 := (HB.out.cell (World.block_lt_of_cell? w _ hx119_2)).trans hx119_2
                    replace p119 := eq_true p119
                    replace q119 := eq_true q119
                    have p120 : 0 ≤ (x8_2 : Int) := of_decide_eq_true (by first | (with_reducible assumption) | assumption)
                    have q120 : x8_2 < (l1.length : Int) := of_decide_eq_true (by first | (with_reducible assumption) | assumption)
                    obtain ⟨ad120, e120, hx120_0, hx120_1, hx120_2⟩ := at_T28 HR1.out x8_2 p120 q120
                    have hw120_2 := hx120_2
                    have hw120_1 := hx120_1
                    have hw120_0 := hx120_0
                    obtain rfl : ad111 = ad120 := (by injection e120)
                    replace hx120_0 := (HB.out.cell (World.block_lt_of_cell? w _ hx120_0)).trans hx120_0
                    replace hx120_1 := (HB.out.cell (World.block_lt_of_cell? w _ hx120_1)).trans hx120_1
                    replace hx120_2 := (HB.out.cell (World.block_lt_of_cell? w _ hx120_2)).trans hx120_2
                    replace p120 := eq_true p120
                    replace q120 := eq_true q120
                    have p121 : 0 ≤ (x8_2 : Int) := of_decide_eq_true (by first | (with_reducible assumption) | assumption)
                    have q121 : x8_2 < (l1.length : Int) := of_decide_eq_true (by first | (with_reducible assumption) | assumption)
                    obtain ⟨ad121, e121, hx121_0, hx121_1, hx121_2⟩ := at_T28 HR1.out x8_2 p121 q121
                    have hw121_2 := hx121_2
                    have hw121_1 := hx121_1
                    have hw121_0 := hx121_0
                    obtain rfl : ad111 = ad121 := (by injection e121)
                    replace hx121_0 := (HB.out.cell (World.block_lt_of_cell? w _ hx121_0)).trans hx121_0
                    replace hx121_1 := (HB.out.cell (World.block_lt_of_cell? w _ hx121_1)).trans hx121_1
                    replace hx121_2 := (HB.out.cell (World.block_lt_of_cell? w _ hx121_2)).trans hx121_2
                    replace p121 := eq_true p121
                    replace q121 := eq_true q121
                    refine start_ (n := 23) (S := fun w' => w'.cell? ⟨gb101, 0, none⟩ = some (.int .i64 a0_0) ∧ w'.cell? ⟨gb101, 1, none⟩ = some (.bool a0_1) ∧ w'.cell? ⟨gb101, 2, none⟩ = some (.int .u64 a0_2) ∧ w'.cell? ⟨gb101, 3, none⟩ = some (.int .u64 a0_3) ∧ w'.cell? ⟨gb101, 4, none⟩ = some (.int .u64 a0_4) ∧ w'.cell? ⟨gb101, 5, none⟩ = some (.int .u64 a0_5) ∧ w'.cell? ⟨gb109, 0, none⟩ = some (.int .u64 x110000_2) ∧ w'.cell? ⟨gb109, 1, none⟩ = some (.int .u64 x110001_2) ∧ w'.cell? ⟨gb109, 2, none⟩ = some (.int .u64 x110002_2) ∧ w'.cell? ⟨gb109, 3, none⟩ = some (.bool x110003_2) ∧ w'.cell? (ad111.add ((x8_2).toNat * 3)) = some (.int .u64 ((rd_T28 l1 x8_2).f0)) ∧ w'.cell? ⟨(ad111.add ((x8_2).toNat * 3)).block, (ad111.add ((x8_2).toNat * 3)).off + 1, none⟩ = some (.int .i64 ((rd_T28 l1 x8_2).f1)) ∧ w'.cell? ⟨(ad111.add ((x8_2).toNat * 3)).block, (ad111.add ((x8_2).toNat * 3)).off + 2, none⟩ = some (.int .i64 ((rd_T28 l1 x8_2).f2)) ∧ w'.cell? (ad111.add ((x8_2).toNat * 3)) = some (.int .u64 ((rd_T28 l1 x8_2).f0)) ∧ w'.cell? ⟨(ad111.add ((x8_2).toNat * 3)).block, (ad111.add ((x8_2).toNat * 3)).off + 1, none⟩ = some (.int .i64 ((rd_T28 l1 x8_2).f1)) ∧ w'.cell? ⟨(ad111.add ((x8_2).toNat * 3)).block, (ad111.add ((x8_2).toNat * 3)).off + 2, none⟩ = some (.int .i64 ((rd_T28 l1 x8_2).f2)) ∧ w'.cell? (ad111.add ((x8_2).toNat * 3)) = some (.int .u64 ((rd_T28 l1 x8_2).f0)) ∧ w'.cell? ⟨(ad111.add ((x8_2).toNat * 3)).block, (ad111.add ((x8_2).toNat * 3)).off + 1, none⟩ = some (.int .i64 ((rd_T28 l1 x8_2).f1)) ∧ w'.cell? ⟨(ad111.add ((x8_2).toNat * 3)).block, (ad111.add ((x8_2).toNat * 3)).off + 2, none⟩ = some (.int .i64 ((rd_T28 l1 x8_2).f2))) (ds := [21]) #[false, false, false, false, false, false, false, false, false, false, false, false, false, false, false, false, false, false, false, false, false, false, false] (by kernel_rfl) rfl rfl ⟨(zq5 BK101.out 0).trans rfl, (zq5 BK101.out 1).trans rfl, (zq5 BK101.out 2).trans rfl, (zq5 BK101.out 3).trans rfl, (zq5 BK101.out 4).trans rfl, (zq5 BK101.out 5).trans rfl, (zq5 BK109.out 0).trans rfl, (zq5 BK109.out 1).trans rfl, (zq5 BK109.out 2).trans rfl, (zq5 BK109.out 3).trans rfl, ((HB.out.cell (World.block_lt_of_cell? w _ hw119_0)).trans hw119_0), ((HB.out.cell (World.block_lt_of_cell? w _ hw119_1)).trans hw119_1), ((HB.out.cell (World.block_lt_of_cell? w _ hw119_2)).trans hw119_2), ((HB.out.cell (World.block_lt_of_cell? w _ hw120_0)).trans hw120_0), ((HB.out.cell (World.block_lt_of_cell? w _ hw120_1)).trans hw120_1), ((HB.out.cell (World.block_lt_of_cell? w _ hw120_2)).trans hw120_2), ((HB.out.cell (World.block_lt_of_cell? w _ hw121_0)).trans hw121_0), ((HB.out.cell (World.block_lt_of_cell? w _ hw121_1)).trans hw121_1), ((HB.out.cell (World.block_lt_of_cell? w _ hw121_2)).trans hw121_2)⟩ (fun hHeld => ?_); refine with_tabW weighbridgelaw27_DoubleRuns.tab10 weighbridgelaw27_DoubleRuns.bits10 (fun HT_ HW_ => ?_)
                    generalize w33.drew = w34 at BK101 BK107 BK109 HB hx119_0 hx119_1 hx119_2 hx120_0 hx120_1 hx120_2 hx121_0 hx121_1 hx121_2 hHeld ⊢
                    refine pure_ (i := 2) (N := some 55) (v := ?_) (a' := ?_) #[false, false, true, false, false, false, false, false, false, false, false, false, false, false, false, false, false, false, false, false, false, false, false] rfl rfl (any_of HT_.out (by kernel_rfl)) (fun _ _ _ h => h) (Or.inl ⟨by rfl, ?_⟩) ?_ ?_
                    rotate_left
                    · intro w'
                      go_simp
                      with_reducible rfl
                    rotate_left
                    · simp only [Act.put, List.setIfInBounds_toArray, List.set_cons_zero, List.set_cons_succ, i64_w, i32_w]
                      rfl
                    refine pure_ (i := 3) (N := some 56) (v := ?_) (a' := ?_) #[false, false, true, true, false, false, false, false, false, false, false, false, false, false, false, false, false, false, false, false, false, false, false] rfl rfl (any_of HT_.out (by kernel_rfl)) (fun _ _ _ h => h) (Or.inl ⟨by rfl, ?_⟩) ?_ ?_
                    rotate_left
                    · intro w'
                      go_simp
                      with_reducible rfl
                    rotate_left
                    · simp only [Act.put, List.setIfInBounds_toArray, List.set_cons_zero, List.set_cons_succ, i64_w, i32_w]
                      rfl
                    refine pure_ (i := 4) (N := some 57) (v := ?_) (a' := ?_) #[false, false, true, true, true, false, false, false, false, false, false, false, false, false, false, false, false, false, false, false, false, false, false] rfl rfl (any_of HT_.out (by kernel_rfl)) (fun _ _ _ h => h) (Or.inl ⟨by rfl, ?_⟩) ?_ ?_
                    rotate_left
                    · intro w'
                      go_simp
                      with_reducible rfl
                    rotate_left
                    · simp only [Act.put, List.setIfInBounds_toArray, List.set_cons_zero, List.set_cons_succ, i64_w, i32_w]
                      rfl
                    refine pure_ (i := 5) (N := some 58) (v := ?_) (a' := ?_) #[false, false, true, true, true, true, false, false, false, false, false, false, false, false, false, false, false, false, false, false, false, false, false] rfl rfl (any_of HT_.out (by kernel_rfl)) (fun _ _ _ h => h) (Or.inl ⟨by rfl, ?_⟩) ?_ ?_
                    rotate_left
                    · intro w'
                      go_simp
                      with_reducible rfl
                    rotate_left
                    · simp only [Act.put, List.setIfInBounds_toArray, List.set_cons_zero, List.set_cons_succ, i64_w, i32_w]
                      rfl
                    refine pure_ (i := 7) (N := some 60) (v := ?_) (a' := ?_) #[false, false, true, true, true, true, false, true, false, false, false, false, false, false, false, false, false, false, false, false, false, false, false] rfl rfl (any_of HT_.out (by kernel_rfl)) (fun _ _ _ h => h) (Or.inl ⟨by rfl, ?_⟩) ?_ ?_
                    rotate_left
                    · intro w'
                      go_simp
                      with_reducible rfl
                    rotate_left
                    · simp only [Act.put, List.setIfInBounds_toArray, List.set_cons_zero, List.set_cons_succ, i64_w, i32_w]
                      rfl
                    refine pure_ (i := 8) (N := some 61) (v := ?_) (a' := ?_) #[false, false, true, true, true, true, false, true, true, false, false, false, false, false, false, false, false, false, false, false, false, false, false] rfl rfl (any_of HT_.out (by kernel_rfl)) (fun _ _ _ h => h) (Or.inl ⟨by rfl, ?_⟩) ?_ ?_
                    rotate_left
                    · intro w'
                      go_simp
                      with_reducible rfl
                    rotate_left
                    · simp only [Act.put, List.setIfInBounds_toArray, List.set_cons_zero, List.set_cons_succ, i64_w, i32_w]
                      rfl
                    refine pure_ (i := 9) (N := some 62) (v := ?_) (a' := ?_) #[false, false, true, true, true, true, false, true, true, true, false, false, false, false, false, false, false, false, false, false, false, false, false] rfl rfl (any_of HT_.out (by kernel_rfl)) (fun _ _ _ h => h) (Or.inl ⟨by rfl, ?_⟩) ?_ ?_
                    rotate_left
                    · intro w'
                      go_simp
                      with_reducible rfl
                    rotate_left
                    · simp only [Act.put, List.setIfInBounds_toArray, List.set_cons_zero, List.set_cons_succ, i64_w, i32_w]
                      rfl
                    refine pure_ (i := 10) (N := some 63) (v := ?_) (a' := ?_) #[false, false, true, true, true, true, false, true, true, true, true, false, false, false, false, false, false, false, false, false, false, false, false] rfl rfl (any_of HT_.out (by kernel_rfl)) (fun _ _ _ h => h) (Or.inl ⟨by rfl, ?_⟩) ?_ ?_
                    rotate_left
                    · intro w'
                      go_simp
                      with_reducible rfl
                    rotate_left
                    · simp only [Act.put, List.setIfInBounds_toArray, List.set_cons_zero, List.set_cons_succ, i64_w, i32_w]
                      rfl
                    refine pure_ (i := 12) (N := some 65) (v := ?_) (a' := ?_) #[false, false, true, true, true, true, false, true, true, true, true, false, true, false, false, false, false, false, false, false, false, false, false] rfl rfl (any_of HT_.out (by kernel_rfl)) (fun _ _ _ h => h) (Or.inl ⟨by rfl, ?_⟩) ?_ ?_
                    rotate_left
                    · intro w'
                      go_simp
                      with_reducible rfl
                    rotate_left
                    · simp only [Act.put, List.setIfInBounds_toArray, List.set_cons_zero, List.set_cons_succ, i64_w, i32_w]
                      rfl
                    refine pure_ (i := 13) (N := some 66) (v := ?_) (a' := ?_) #[false, false, true, true, true, true, false, true, true, true, true, false, true, true, false, false, false, false, false, false, false, false, false] rfl rfl (any_of HT_.out (by kernel_rfl)) (fun _ _ _ h => h) (Or.inl ⟨by rfl, ?_⟩) ?_ ?_
                    rotate_left
                    · intro w'
                      go_simp
                      with_reducible rfl
                    rotate_left
                    · simp only [Act.put, List.setIfInBounds_toArray, List.set_cons_zero, List.set_cons_succ, i64_w, i32_w]
                      rfl
                    refine pure_ (i := 14) (N := some 67) (v := ?_) (a' := ?_) #[false, false, true, true, true, true, false, true, true, true, true, false, true, true, true, false, false, false, false, false, false, false, false] rfl rfl (any_of HT_.out (by kernel_rfl)) (fun _ _ _ h => h) (Or.inl ⟨by rfl, ?_⟩) ?_ ?_
                    rotate_left
                    · intro w'
                      go_simp
                      with_reducible rfl
                    rotate_left
                    · simp only [Act.put, List.setIfInBounds_toArray, List.set_cons_zero, List.set_cons_succ, i64_w, i32_w]
                      rfl
                    refine pure_ (i := 15) (N := some 68) (v := ?_) (a' := ?_) #[false, false, true, true, true, true, false, true, true, true, true, false, true, true, true, true, false, false, false, false, false, false, false] rfl rfl (any_of HT_.out (by kernel_rfl)) (fun _ _ _ h => h) (Or.inl ⟨by rfl, ?_⟩) ?_ ?_
                    rotate_left
                    · intro w'
                      go_simp
                      with_reducible rfl
                    rotate_left
                    · simp only [Act.put, List.setIfInBounds_toArray, List.set_cons_zero, List.set_cons_succ, i64_w, i32_w]
                      rfl
                    refine take_ (i := 0) (N := some 53) (v := ?_) (a' := ?_) #[true, false, true, true, true, true, false, true, true, true, true, false, true, true, true, true, false, false, false, false, false, false, false] rfl rfl (take_ofW HT_.out HW_.out (by kernel_rfl)) (fun _ _ _ h => h) (Or.inl ⟨by rfl, ?_⟩) hHeld ?_ ?_
                    rotate_left
                    · rintro w' ⟨s0, s1, s2, s3, s4, s5, s6, s7, s8, s9, s10, s11, s12, s13, s14, s15, s16, s17, s18⟩
                      go_simp
                      with_reducible rfl
                    rotate_left
                    · simp only [Act.put, List.setIfInBounds_toArray, List.set_cons_zero, List.set_cons_succ, i64_w, i32_w]
                      rfl
                    refine take_ (i := 1) (N := some 54) (v := ?_) (a' := ?_) #[true, true, true, true, true, true, false, true, true, true, true, false, true, true, true, true, false, false, false, false, false, false, false] rfl rfl (take_ofW HT_.out HW_.out (by kernel_rfl)) (fun _ _ _ h => h) (Or.inl ⟨by rfl, ?_⟩) hHeld ?_ ?_
                    rotate_left
                    · rintro w' ⟨s0, s1, s2, s3, s4, s5, s6, s7, s8, s9, s10, s11, s12, s13, s14, s15, s16, s17, s18⟩
                      go_simp
                      with_reducible rfl
                    rotate_left
                    · simp only [Act.put, List.setIfInBounds_toArray, List.set_cons_zero, List.set_cons_succ, i64_w, i32_w]
                      rfl
                    refine take_ (i := 6) (N := some 59) (v := ?_) (a' := ?_) #[true, true, true, true, true, true, true, true, true, true, true, false, true, true, true, true, false, false, false, false, false, false, false] rfl rfl (take_ofW HT_.out HW_.out (by kernel_rfl)) (fun _ _ _ h => h) (Or.inl ⟨by rfl, ?_⟩) hHeld ?_ ?_
                    rotate_left
                    · rintro w' ⟨s0, s1, s2, s3, s4, s5, s6, s7, s8, s9, s10, s11, s12, s13, s14, s15, s16, s17, s18⟩
                      go_simp
                      with_reducible rfl
                    rotate_left
                    · simp only [Act.put, List.setIfInBounds_toArray, List.set_cons_zero, List.set_cons_succ, i64_w, i32_w]
                      rfl
                    refine take_ (i := 11) (N := some 64) (v := ?_) (a' := ?_) #[true, true, true, true, true, true, true, true, true, true, true, true, true, true, true, true, false, false, false, false, false, false, false] rfl rfl (take_ofW HT_.out HW_.out (by kernel_rfl)) (fun _ _ _ h => h) (Or.inl ⟨by rfl, ?_⟩) hHeld ?_ ?_
                    rotate_left
                    · rintro w' ⟨s0, s1, s2, s3, s4, s5, s6, s7, s8, s9, s10, s11, s12, s13, s14, s15, s16, s17, s18⟩
                      go_simp
                      with_reducible rfl
                    rotate_left
                    · simp only [Act.put, List.setIfInBounds_toArray, List.set_cons_zero, List.set_cons_succ, i64_w, i32_w]
                      rfl
                    refine take_ (i := 16) (N := some 69) (v := ?_) (a' := ?_) #[true, true, true, true, true, true, true, true, true, true, true, true, true, true, true, true, true, false, false, false, false, false, false] rfl rfl (take_ofW HT_.out HW_.out (by kernel_rfl)) (fun _ _ _ h => h) (Or.inl ⟨by rfl, ?_⟩) hHeld ?_ ?_
                    rotate_left
                    · rintro w' ⟨s0, s1, s2, s3, s4, s5, s6, s7, s8, s9, s10, s11, s12, s13, s14, s15, s16, s17, s18⟩
                      go_simp
                      with_reducible rfl
                    rotate_left
                    · simp only [Act.put, List.setIfInBounds_toArray, List.set_cons_zero, List.set_cons_succ, i64_w, i32_w]
                      rfl
                    refine one_ (i := 17) (N := some 70) #[true, true, true, true, true, true, true, true, true, true, true, true, true, true, true, true, true, true, false, false, false, false, false] rfl rfl (one_of HT_.out (by kernel_rfl)) (by decide) (fun K hK => ?_)
                    refine goes_ Try.func15 (by kernel_rfl) rfl #[.agg #[.int .i64 a0_0, .bool a0_1, .int .u64 a0_2, .int .u64 a0_3, .int .u64 a0_4, .int .u64 a0_5], .agg #[.int .u64 x110000_2, .int .u64 x110001_2, .int .u64 x110002_2, .bool x110003_2], .int .u64 ((rd_T28 l1 x8_2).f0), .int .i64 ((rd_T28 l1 x8_2).f1), .int .i64 ((rd_T28 l1 x8_2).f2)] (by rfl) rfl rfl (by (try simp only [List.map_toArray, List.map_cons, List.map_nil]); first | done | rfl | (simp only [List.length_drop, List.length_take]; rfl)) ?_
                    with_reducible refine (weighbridgeref27_Step.calls k2 a0_0 a0_1 a0_2 a0_3 a0_4 a0_5 x110000_2 x110001_2 x110002_2 x110003_2 ((rd_T28 l1 x8_2).f0) ((rd_T28 l1 x8_2).f1) ((rd_T28 l1 x8_2).f2) t122 t123 t124 t125 t126 _ A24.out).mono ?_
                    rintro e w35 ⟨rfl, hb⟩
                    refine ⟨_, rfl, ?_⟩
                    have n0_ := zq3 (zq10 (g := gb101) (o := .cells #[.int .i64 a0_0, .bool a0_1, .int .u64 a0_2, .int .u64 a0_3, .int .u64 a0_4, .int .u64 a0_5] 24 (0, 0)) (by (with_reducible repeat (first | refine zq0 ?_ _ | refine zq2 ?_ | refine zq1 ?_ _)); exact BK101.out) hb)
                    have n1_ := zq3 (zq10 (g := gb107) (o := .cells #[.int .u64 t114, .int .u64 t115, .int .u64 t116, .bool t117] 26 (0, 0)) (by (with_reducible repeat (first | refine zq0 ?_ _ | refine zq2 ?_ | refine zq1 ?_ _)); exact BK107.out) hb)
                    have n2_ := zq3 (zq10 (g := gb109) (o := .cells #[.int .u64 x110000_2, .int .u64 x110001_2, .int .u64 x110002_2, .bool x110003_2] 26 (0, 0)) (by (with_reducible repeat (first | refine zq0 ?_ _ | refine zq2 ?_ | refine zq1 ?_ _)); exact BK109.out) hb)
                    have n3_ := zq3 (below_step (by repeat (first | (with_reducible first | exact HB.out | apply zq9 | apply zq7 | apply zq8 | refine zq6 ?_ GE101.out | refine zq6 ?_ GE107.out | refine zq6 ?_ GE109.out) | exact HB.out)) hb)
                    clear BK101
                    clear BK107
                    clear BK109
                    clear HB
                    have BK101 := n0_
                    have BK107 := n1_
                    have BK109 := n2_
                    have HB := n3_
                    clear n0_ n1_ n2_ n3_
                    (try clear hb)
                    (try clear hb2)
                    (try clear hk)
                    (try clear hi)
                    refine hK.out _ _ ⟨(zq5 BK101.out 0).trans rfl, (zq5 BK101.out 1).trans rfl, (zq5 BK101.out 2).trans rfl, (zq5 BK101.out 3).trans rfl, (zq5 BK101.out 4).trans rfl, (zq5 BK101.out 5).trans rfl, (zq5 BK109.out 0).trans rfl, (zq5 BK109.out 1).trans rfl, (zq5 BK109.out 2).trans rfl, (zq5 BK109.out 3).trans rfl, ((HB.out.cell (World.block_lt_of_cell? w _ hw119_0)).trans hw119_0), ((HB.out.cell (World.block_lt_of_cell? w _ hw119_1)).trans hw119_1), ((HB.out.cell (World.block_lt_of_cell? w _ hw119_2)).trans hw119_2), ((HB.out.cell (World.block_lt_of_cell? w _ hw120_0)).trans hw120_0), ((HB.out.cell (World.block_lt_of_cell? w _ hw120_1)).trans hw120_1), ((HB.out.cell (World.block_lt_of_cell? w _ hw120_2)).trans hw120_2), ((HB.out.cell (World.block_lt_of_cell? w _ hw121_0)).trans hw121_0), ((HB.out.cell (World.block_lt_of_cell? w _ hw121_1)).trans hw121_1), ((HB.out.cell (World.block_lt_of_cell? w _ hw121_2)).trans hw121_2)⟩ (fun hHeld => ?_)
                    clear hK K
                    refine norm_ (a' := ?_) ?_ ?_
                    rotate_left
                    · show Act.put _ (some 70) _ = _
                      simp only [Act.put, List.setIfInBounds_toArray, List.set_cons_zero, List.set_cons_succ, i64_w, i32_w]
                      rfl
                    refine pure_ (i := 18) (N := some 52) (v := ?_) (a' := ?_) #[true, true, true, true, true, true, true, true, true, true, true, true, true, true, true, true, true, true, true, false, false, false, false] rfl rfl (any_of HT_.out (by kernel_rfl)) (fun _ _ _ h => h) (Or.inl ⟨by rfl, ?_⟩) ?_ ?_
                    rotate_left
                    · intro w'
                      go_simp
                      with_reducible rfl
                    rotate_left
                    · simp only [Act.put, List.setIfInBounds_toArray, List.set_cons_zero, List.set_cons_succ, i64_w, i32_w]
                      rfl
                    refine pure_ (i := 19) (N := some 71) (v := ?_) (a' := ?_) #[true, true, true, true, true, true, true, true, true, true, true, true, true, true, true, true, true, true, true, true, false, false, false] rfl rfl (any_of HT_.out (by kernel_rfl)) (fun _ _ _ h => h) (Or.inl ⟨by rfl, ?_⟩) ?_ ?_
                    rotate_left
                    · intro w'
                      go_simp
                      with_reducible rfl
                    rotate_left
                    · simp only [Act.put, List.setIfInBounds_toArray, List.set_cons_zero, List.set_cons_succ, i64_w, i32_w]
                      rfl
                    refine pure_ (i := 20) (N := some 72) (v := ?_) (a' := ?_) #[true, true, true, true, true, true, true, true, true, true, true, true, true, true, true, true, true, true, true, true, true, false, false] rfl rfl (any_of HT_.out (by kernel_rfl)) (fun _ _ _ h => h) (Or.inl ⟨by rfl, ?_⟩) ?_ ?_
                    rotate_left
                    · intro w'
                      go_simp
                      with_reducible rfl
                    rotate_left
                    · simp only [Act.put, List.setIfInBounds_toArray, List.set_cons_zero, List.set_cons_succ, i64_w, i32_w]
                      rfl
                    refine last_ (i := 21) (N := none) #[true, true, true, true, true, true, true, true, true, true, true, true, true, true, true, true, true, true, true, true, true, true, false] rfl rfl (one_of HT_.out (by kernel_rfl)) (by decide) (fun K hK => ?_)
                    have hs36 : w35.cell? ⟨gb109, 0, none⟩ = some (.int .u64 x110000_2) := (zq5 BK109.out 0).trans rfl
                    have hfs36 := zq4 BK109.out 0
                    have hns36_0 := NB101_109.out
                    have hns36_1 := NB107_109.out
                    have hms36_0 := NB109_101.out
                    have hms36_1 := NB109_107.out
                    have hs37 : w35.cell? ⟨gb109, 1, none⟩ = some (.int .u64 x110001_2) := (zq5 BK109.out 1).trans rfl
                    have hfs37 := zq4 BK109.out 1
                    have hns37_0 := NB101_109.out
                    have hns37_1 := NB107_109.out
                    have hms37_0 := NB109_101.out
                    have hms37_1 := NB109_107.out
                    have hs38 : w35.cell? ⟨gb109, 2, none⟩ = some (.int .u64 x110002_2) := (zq5 BK109.out 2).trans rfl
                    have hfs38 := zq4 BK109.out 2
                    have hns38_0 := NB101_109.out
                    have hns38_1 := NB107_109.out
                    have hms38_0 := NB109_101.out
                    have hms38_1 := NB109_107.out
                    have hs39 : w35.cell? ⟨gb109, 3, none⟩ = some (.bool x110003_2) := (zq5 BK109.out 3).trans rfl
                    have hfs39 := zq4 BK109.out 3
                    have hns39_0 := NB101_109.out
                    have hns39_1 := NB107_109.out
                    have hms39_0 := NB109_101.out
                    have hms39_1 := NB109_107.out
                    refine skip_ (w1 := ?_) (by rfl) rfl ?_ ?_
                    rotate_left
                    · go_simp
                      rfl
                    refine hK.out _ _ ?_
                    clear hK K
                    refine pure_ (i := 22) (N := some 10) (v := ?_) (a' := ?_) #[true, true, true, true, true, true, true, true, true, true, true, true, true, true, true, true, true, true, true, true, true, true, true] rfl rfl (any_of HT_.out (by kernel_rfl)) (fun _ _ _ h => h) (Or.inl ⟨by rfl, ?_⟩) ?_ ?_
                    rotate_left
                    · intro w'
                      go_simp
                      with_reducible rfl
                    rotate_left
                    · simp only [Act.put, List.setIfInBounds_toArray, List.set_cons_zero, List.set_cons_succ, i64_w, i32_w]
                      rfl
                    refine done_ (done_of HT_.out (by kernel_rfl)) ?_
                    have hnb40 := NB107_101.out
                    have hnc40 := NB101_107.out
                    have hnb41 := NB107_109.out
                    have hnc41 := NB109_107.out
                    have hcz42_0 : w35.cell? ⟨gb107, 0, none⟩ = some (.int .u64 t114) := (zq5 BK107.out 0).trans rfl
                    have hcz42_1 : w35.cell? ⟨gb107, 1, none⟩ = some (.int .u64 t115) := (zq5 BK107.out 1).trans rfl
                    have hcz42_2 : w35.cell? ⟨gb107, 2, none⟩ = some (.int .u64 t116) := (zq5 BK107.out 2).trans rfl
                    have hcz42_3 : w35.cell? ⟨gb107, 3, none⟩ = some (.bool t117) := (zq5 BK107.out 3).trans rfl
                    have hfz42_0 := zq4 BK107.out 0
                    have hfz42_1 := zq4 BK107.out 1
                    have hfz42_2 := zq4 BK107.out 2
                    have hfz42_3 := zq4 BK107.out 3
                    have hnb43 := NB109_101.out
                    have hnc43 := NB101_109.out
                    have hcz44_0 : w35.cell? ⟨gb109, 0, none⟩ = some (.int .u64 x110000_2) := (zq5 BK109.out 0).trans rfl
                    have hcz44_1 : w35.cell? ⟨gb109, 1, none⟩ = some (.int .u64 x110001_2) := (zq5 BK109.out 1).trans rfl
                    have hcz44_2 : w35.cell? ⟨gb109, 2, none⟩ = some (.int .u64 x110002_2) := (zq5 BK109.out 2).trans rfl
                    have hcz44_3 : w35.cell? ⟨gb109, 3, none⟩ = some (.bool x110003_2) := (zq5 BK109.out 3).trans rfl
                    have hfz44_0 := zq4 BK109.out 0
                    have hfz44_1 := zq4 BK109.out 1
                    have hfz44_2 := zq4 BK109.out 2
                    have hfz44_3 := zq4 BK109.out 3
                    try go_wp2
                    go_roundg k2
                    case measure => have := HJ3.out; have := HK2.out; omega
                    case rel => exact ⟨(wrap64 (x8_2 + 1)), (t114), (t115), (t116), (t117), (t122), (t123), (t124), (t125), (by first | rfl | (simp; done) | (simp [*]; done)), H', ⟨by have := HJ3.out; have := HK2.out; omega⟩, ⟨by (with_reducible repeat (first | refine zq0 ?_ _ | refine zq2 ?_ | refine zq1 ?_ _)); refine zq11 ?_ NB101_109.out _; (with_reducible repeat (first | refine zq0 ?_ _ | refine zq2 ?_ | refine zq1 ?_ _)); refine zq11 ?_ NB101_109.out _; (with_reducible repeat (first | refine zq0 ?_ _ | refine zq2 ?_ | refine zq1 ?_ _)); refine zq11 ?_ NB101_109.out _; (with_reducible repeat (first | refine zq0 ?_ _ | refine zq2 ?_ | refine zq1 ?_ _)); refine zq11 ?_ NB101_109.out _; (with_reducible repeat (first | refine zq0 ?_ _ | refine zq2 ?_ | refine zq1 ?_ _)); exact BK101.out⟩, ⟨by (with_reducible repeat (first | refine zq0 ?_ _ | refine zq2 ?_ | refine zq1 ?_ _)); refine zq11 ?_ NB107_109.out _; (with_reducible repeat (first | refine zq0 ?_ _ | refine zq2 ?_ | refine zq1 ?_ _)); refine zq11 ?_ NB107_109.out _; (with_reducible repeat (first | refine zq0 ?_ _ | refine zq2 ?_ | refine zq1 ?_ _)); refine zq11 ?_ NB107_109.out _; (with_reducible repeat (first | refine zq0 ?_ _ | refine zq2 ?_ | refine zq1 ?_ _)); refine zq11 ?_ NB107_109.out _; (with_reducible repeat (first | refine zq0 ?_ _ | refine zq2 ?_ | refine zq1 ?_ _)); exact BK107.out⟩, ⟨by (with_reducible repeat (first | refine zq0 ?_ _ | refine zq2 ?_ | refine zq1 ?_ _)); refine blk_put (cs := #[.int .u64 t122, .int .u64 t123, .int .u64 t124, .bool x110003_2]) ?_ 3 _ rfl; (with_reducible repeat (first | refine zq0 ?_ _ | refine zq2 ?_ | refine zq1 ?_ _)); refine blk_put (cs := #[.int .u64 t122, .int .u64 t123, .int .u64 x110002_2, .bool x110003_2]) ?_ 2 _ rfl; (with_reducible repeat (first | refine zq0 ?_ _ | refine zq2 ?_ | refine zq1 ?_ _)); refine blk_put (cs := #[.int .u64 t122, .int .u64 x110001_2, .int .u64 x110002_2, .bool x110003_2]) ?_ 1 _ rfl; (with_reducible repeat (first | refine zq0 ?_ _ | refine zq2 ?_ | refine zq1 ?_ _)); refine blk_put (cs := #[.int .u64 x110000_2, .int .u64 x110001_2, .int .u64 x110002_2, .bool x110003_2]) ?_ 0 _ rfl; (with_reducible repeat (first | refine zq0 ?_ _ | refine zq2 ?_ | refine zq1 ?_ _)); exact BK109.out⟩, ⟨by repeat (first | (with_reducible first | exact HB.out | apply zq9 | apply zq7 | apply zq8 | refine zq6 ?_ GE101.out | refine zq6 ?_ GE107.out | refine zq6 ?_ GE109.out) | exact HB.out)⟩⟩
                  · rw [if_neg c26] at H
                    exact absurd H (by simp)
              · rw [if_neg c22] at H
                exact absurd H (by simp)
            · rw [if_neg c21] at H
              have c21b0 : decide (x8_2 < (l1.length : Int)) = false := decide_eq_false c21
              clear c21
              replace H := Option.bind_eq_some_iff.mp H
              obtain ⟨t110, A450, H⟩ := H
              replace H : (some t110) = some r := H
              have A45 := zq3 A450
              clear A450
              obtain rfl := Option.some.inj H
              go_wp2_with (first | ((with_reducible refine gate_callee (f := 16) rfl ?_); refine goesL_ (some 81) rfl rfl Try.func16 (by kernel_rfl) rfl #[] rfl (by (try simp only [List.map_toArray, List.map_cons, List.map_nil]); first | done | rfl | (simp only [List.length_drop, List.length_take]; rfl)) ?_; (with_reducible refine (weighbridgelaw27_live.calls  t110 _ A45.out).mono ?_); rintro e w46 ⟨rfl, hb⟩; refine ⟨_, rfl, ?_⟩; have n0_ := zq3 (zq10 (g := gb101) (o := .cells #[.int .i64 a0_0, .bool a0_1, .int .u64 a0_2, .int .u64 a0_3, .int .u64 a0_4, .int .u64 a0_5] 24 (0, 0)) (by (with_reducible repeat (first | refine zq0 ?_ _ | refine zq2 ?_ | refine zq1 ?_ _)); exact BK101.out) hb); have n1_ := zq3 (zq10 (g := gb107) (o := .cells #[.int .u64 x108000_2, .int .u64 x108001_2, .int .u64 x108002_2, .bool x108003_2] 26 (0, 0)) (by (with_reducible repeat (first | refine zq0 ?_ _ | refine zq2 ?_ | refine zq1 ?_ _)); exact BK107.out) hb); have n2_ := zq3 (zq10 (g := gb109) (o := .cells #[.int .u64 x110000_2, .int .u64 x110001_2, .int .u64 x110002_2, .bool x110003_2] 26 (0, 0)) (by (with_reducible repeat (first | refine zq0 ?_ _ | refine zq2 ?_ | refine zq1 ?_ _)); exact BK109.out) hb); have n3_ := zq3 (below_step (by repeat (first | (with_reducible first | exact HB.out | apply zq9 | apply zq7 | apply zq8 | refine zq6 ?_ GE101.out | refine zq6 ?_ GE107.out | refine zq6 ?_ GE109.out) | exact HB.out)) hb); clear BK101; clear BK107; clear BK109; clear HB; have BK101 := n0_; have BK107 := n1_; have BK109 := n2_; have HB := n3_; clear n0_ n1_ n2_ n3_; (try clear hb); (try clear hb2); (try clear hk); (try clear hi)))
              go_ret
              exact ⟨by first | rfl | (simp [errW_none, errW_some] <;> rfl) | (simp [*, errW_none, errW_some] <;> rfl), by repeat (first | (with_reducible first | exact HB.out | apply zq9 | apply zq7 | apply zq8 | refine zq6 ?_ GE101.out | refine zq6 ?_ GE107.out | refine zq6 ?_ GE109.out) | exact HB.out)⟩

end Go.Proofs.Ytkefamalcmglgaa.P
