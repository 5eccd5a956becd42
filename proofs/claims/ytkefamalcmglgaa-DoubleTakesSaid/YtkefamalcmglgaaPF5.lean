/- Printed out of the translation: what functions compute, and the proofs that the code computes just this. -/
import Derived.Test.YtkefamalcmglgaaP0
import Derived.Test.YtkefamalcmglgaaPF16
import Derived.Test.YtkefamalcmglgaaDstep
import Derived.Test.YtkefamalcmglgaaDnew
namespace Go.Proofs.Ytkefamalcmglgaa.P
open Go.RowKit Go.Proofs.YtkefamalcmglgaaW.PrintWords Go.Proofs.YtkefamalcmglgaaW.PrintLast Go.Proofs.YtkefamalcmglgaaW.PrintMore
attribute [local go_sem] max2_int min2_int max_two min_two max_three min_three max_four min_four   -- for this text's walks alone
set_option linter.unusedVariables false
set_option linter.unusedSimpArgs false

/-! ### weighbridgelaw27_DoubleTakes: function 5 -/
mutual
def weighbridgelaw27_DoubleTakes.j0 : Nat → List (S28) → Bool → Int → Bool → Int → Int → Int → Int → Int → Int → Int → Bool → Option (Bool)
 | 0, _, _, _, _, _, _, _, _, _, _, _, _ => none
 | k + 1, x1, x29, x102000, x102001, x102002, x102003, x102004, x102005, x108000, x108001, x108002, x108003 => if x29 = true then ((weighbridgelaw27_live.f).bind fun t108 => (some t108)) else (weighbridgelaw27_DoubleTakes.l0 k x1 0 x102000 x102001 x102002 x102003 x102004 x102005 x108000 x108001 x108002 x108003 x108000 x108001 x108002 x108003)
def weighbridgelaw27_DoubleTakes.l0 : Nat → List (S28) → Int → Int → Bool → Int → Int → Int → Int → Int → Int → Int → Bool → Int → Int → Int → Bool → Option (Bool)
 | 0, _, _, _, _, _, _, _, _, _, _, _, _, _, _, _, _ => none
 | k + 1, x1, x8, x102000, x102001, x102002, x102003, x102004, x102005, x108000, x108001, x108002, x108003, x110000, x110001, x110002, x110003 => if x8 < (x1.length : Int) then (if 0 ≤ x8 then (if ((rd_T28 x1 x8).f1) < 0 then (weighbridgelaw27_DoubleTakes.l0 k x1 (wrap64 (x8 + 1)) x102000 x102001 x102002 x102003 x102004 x102005 x108000 x108001 x108002 x108003 x110000 x110001 x110002 x110003) else ((double_Stepd.f x102000 x102001 x102002 x102003 x102004 x102005 x108000 x108001 x108002 x108003 ((rd_T28 x1 x8).f0) 0 0).bind fun bt113 => ((double_Stepd.f x102000 x102001 x102002 x102003 x102004 x102005 x108000 x108001 x108002 x108003 ((rd_T28 x1 x8).f0) ((rd_T28 x1 x8).f1) ((rd_T28 x1 x8).f2)).bind fun bt121 => ((bucket_Need.f ((rd_T28 x1 x8).f1)).bind fun bt127 => (if bt121.1 > x110000 then (none) else (if bt121.2.1 > x110001 then (none) else (if bt121.2.2.1 = bt113.2.2.1 then (if bt121.2.2.2.1 = true then (if x108003 = true then (if bt121.2.2.1 < x108002 then (none) else (if x102001 = true then (if bt121.2.2.2.2 < (mn ((rd_T28 x1 x8).f2) 2) then (none) else (if bt127.2 = true then (weighbridgelaw27_DoubleTakes.j2 k x1 x8 bt121.2.2.2.2 bt127.1 false x102000 x102001 x102002 x102003 x102004 x102005 x110000 x110001 x110002 x110003 bt113.1 bt113.2.1 bt113.2.2.1 bt113.2.2.2.1 bt121.1 bt121.2.1 bt121.2.2.1 bt121.2.2.2.1) else (weighbridgelaw27_DoubleTakes.j2 k x1 x8 bt121.2.2.2.2 bt127.1 (bt121.2.2.2.2 != 2) x102000 x102001 x102002 x102003 x102004 x102005 x110000 x110001 x110002 x110003 bt113.1 bt113.2.1 bt113.2.2.1 bt113.2.2.2.1 bt121.1 bt121.2.1 bt121.2.2.1 bt121.2.2.2.1))) else (if bt127.2 = true then (weighbridgelaw27_DoubleTakes.j2 k x1 x8 bt121.2.2.2.2 bt127.1 false x102000 x102001 x102002 x102003 x102004 x102005 x110000 x110001 x110002 x110003 bt113.1 bt113.2.1 bt113.2.2.1 bt113.2.2.2.1 bt121.1 bt121.2.1 bt121.2.2.1 bt121.2.2.2.1) else (weighbridgelaw27_DoubleTakes.j2 k x1 x8 bt121.2.2.2.2 bt127.1 (bt121.2.2.2.2 != 2) x102000 x102001 x102002 x102003 x102004 x102005 x110000 x110001 x110002 x110003 bt113.1 bt113.2.1 bt113.2.2.1 bt113.2.2.2.1 bt121.1 bt121.2.1 bt121.2.2.1 bt121.2.2.2.1)))) else (if x102001 = true then (if bt121.2.2.2.2 < (mn ((rd_T28 x1 x8).f2) 2) then (none) else (if bt127.2 = true then (weighbridgelaw27_DoubleTakes.j2 k x1 x8 bt121.2.2.2.2 bt127.1 false x102000 x102001 x102002 x102003 x102004 x102005 x110000 x110001 x110002 x110003 bt113.1 bt113.2.1 bt113.2.2.1 bt113.2.2.2.1 bt121.1 bt121.2.1 bt121.2.2.1 bt121.2.2.2.1) else (weighbridgelaw27_DoubleTakes.j2 k x1 x8 bt121.2.2.2.2 bt127.1 (bt121.2.2.2.2 != 2) x102000 x102001 x102002 x102003 x102004 x102005 x110000 x110001 x110002 x110003 bt113.1 bt113.2.1 bt113.2.2.1 bt113.2.2.2.1 bt121.1 bt121.2.1 bt121.2.2.1 bt121.2.2.2.1))) else (if bt127.2 = true then (weighbridgelaw27_DoubleTakes.j2 k x1 x8 bt121.2.2.2.2 bt127.1 false x102000 x102001 x102002 x102003 x102004 x102005 x110000 x110001 x110002 x110003 bt113.1 bt113.2.1 bt113.2.2.1 bt113.2.2.2.1 bt121.1 bt121.2.1 bt121.2.2.1 bt121.2.2.2.1) else (weighbridgelaw27_DoubleTakes.j2 k x1 x8 bt121.2.2.2.2 bt127.1 (bt121.2.2.2.2 != 2) x102000 x102001 x102002 x102003 x102004 x102005 x110000 x110001 x110002 x110003 bt113.1 bt113.2.1 bt113.2.2.1 bt113.2.2.2.1 bt121.1 bt121.2.1 bt121.2.2.1 bt121.2.2.2.1)))) else (none)) else (none)))))))) else (none)) else ((weighbridgelaw27_live.f).bind fun t110 => (some t110))
def weighbridgelaw27_DoubleTakes.j2 : Nat → List (S28) → Int → Int → Int → Bool → Int → Bool → Int → Int → Int → Int → Int → Int → Int → Bool → Int → Int → Int → Bool → Int → Int → Int → Bool → Option (Bool)
 | 0, _, _, _, _, _, _, _, _, _, _, _, _, _, _, _, _, _, _, _, _, _, _, _ => none
 | k + 1, x1, x8, x13, x14, x134, x102000, x102001, x102002, x102003, x102004, x102005, x110000, x110001, x110002, x110003, x119000, x119001, x119002, x119003, x127000, x127001, x127002, x127003 => if x134 = true then (none) else (if x13 = 0 then (weighbridgelaw27_DoubleTakes.j3 k x1 x8 x13 x14 x14 0 x102000 x102001 x102002 x102003 x102004 x102005 x110000 x110001 x110002 x110003 x119000 x119001 x119002 x119003 x127000 x127001 x127002 x127003) else (weighbridgelaw27_DoubleTakes.j3 k x1 x8 x13 x14 0 0 x102000 x102001 x102002 x102003 x102004 x102005 x110000 x110001 x110002 x110003 x119000 x119001 x119002 x119003 x127000 x127001 x127002 x127003))
def weighbridgelaw27_DoubleTakes.j3 : Nat → List (S28) → Int → Int → Int → Int → Int → Int → Bool → Int → Int → Int → Int → Int → Int → Int → Bool → Int → Int → Int → Bool → Int → Int → Int → Bool → Option (Bool)
 | 0, _, _, _, _, _, _, _, _, _, _, _, _, _, _, _, _, _, _, _, _, _, _, _, _ => none
 | k + 1, x1, x8, x13, x14, x16, x17, x102000, x102001, x102002, x102003, x102004, x102005, x110000, x110001, x110002, x110003, x119000, x119001, x119002, x119003, x127000, x127001, x127002, x127003 => if x13 = 2 then (if (IntKind.u64.wrap (x119000 - x127000)) = x16 then (if (IntKind.u64.wrap (x119001 - x127001)) = x17 then (weighbridgelaw27_DoubleTakes.l0 k x1 (wrap64 (x8 + 1)) x102000 x102001 x102002 x102003 x102004 x102005 x127000 x127001 x127002 x127003 x110000 x110001 x110002 x110003) else (none)) else (none)) else (if (IntKind.u64.wrap (x119000 - x127000)) = x16 then (if (IntKind.u64.wrap (x119001 - x127001)) = x14 then (weighbridgelaw27_DoubleTakes.l0 k x1 (wrap64 (x8 + 1)) x102000 x102001 x102002 x102003 x102004 x102005 x127000 x127001 x127002 x127003 x110000 x110001 x110002 x110003) else (none)) else (none))
end
def weighbridgelaw27_DoubleTakes.f (k : Nat) (a0_0 : Int) (a0_1 : Bool) (a0_2 : Int) (a0_3 : Int) (a0_4 : Int) (a0_5 : Int) (l1 : List (S28)) : Option (Bool) := (double_Newd.f a0_0 a0_1 a0_2 a0_3 a0_4 a0_5).bind fun bt102 => (if bt102.2.2.2.2 = 0 then (weighbridgelaw27_DoubleTakes.j0 k l1 (decide ((l1.length : Int) > 200)) a0_0 a0_1 a0_2 a0_3 a0_4 a0_5 bt102.1 bt102.2.1 bt102.2.2.1 bt102.2.2.2.1) else (weighbridgelaw27_DoubleTakes.j0 k l1 true a0_0 a0_1 a0_2 a0_3 a0_4 a0_5 bt102.1 bt102.2.1 bt102.2.2.1 bt102.2.2.2.1))
def weighbridgelaw27_DoubleTakes.T10 : Bool × List (List Nat × List Nat) := (true, [([], []), ([], []), ([], []), ([], []), ([2, 3], [2, 3]), ([4], [4]), ([5], [5]), ([0, 1, 6], [0, 1, 6]), ([7], [7]), ([8], [8]), ([8], [8]), ([], []), ([11, 9, 7, 0, 1, 2, 3, 4, 5, 6, 7, 8, 9, 11], [9, 11]), ([10, 12, 0, 1, 2, 3, 4, 5, 6, 7, 8, 9, 10, 11, 12], [10])])
def weighbridgelaw27_DoubleTakes.B10 : List Nat := [0, 0, 0, 0, 12, 28, 60, 127, 255, 511, 511, 0, 3071, 8191]
theorem weighbridgelaw27_DoubleTakes.tab10 : rtab .any (opsOf Try.f5 10) = weighbridgelaw27_DoubleTakes.T10 := by kernel_rfl
theorem weighbridgelaw27_DoubleTakes.bits10 : waitsOk weighbridgelaw27_DoubleTakes.T10.2 weighbridgelaw27_DoubleTakes.B10 = true := by kernel_rfl
def weighbridgelaw27_DoubleTakes.T11 : Bool × List (List Nat × List Nat) := (true, [([], []), ([], []), ([], []), ([], []), ([2, 3], [2, 3]), ([4], [4]), ([5], [5]), ([], []), ([], []), ([], []), ([8, 9], [8, 9]), ([10], [10]), ([11], [11]), ([0, 1, 6, 7, 12], [0, 1, 6, 7, 12]), ([13], [13]), ([14], [14]), ([14], [14]), ([], []), ([17, 15, 13, 0, 1, 2, 3, 4, 5, 6, 7, 8, 9, 10, 11, 12, 13, 14, 15, 17], [15, 17]), ([16, 18, 0, 1, 2, 3, 4, 5, 6, 7, 8, 9, 10, 11, 12, 13, 14, 15, 16, 17, 18], [16])])
def weighbridgelaw27_DoubleTakes.B11 : List Nat := [0, 0, 0, 0, 12, 28, 60, 0, 0, 0, 768, 1792, 3840, 8191, 16383, 32767, 32767, 0, 196607, 524287]
theorem weighbridgelaw27_DoubleTakes.tab11 : rtab .any (opsOf Try.f5 11) = weighbridgelaw27_DoubleTakes.T11 := by kernel_rfl
theorem weighbridgelaw27_DoubleTakes.bits11 : waitsOk weighbridgelaw27_DoubleTakes.T11.2 weighbridgelaw27_DoubleTakes.B11 = true := by kernel_rfl
set_option maxHeartbeats 8000000 in
set_option maxRecDepth 100000 in
theorem weighbridgelaw27_DoubleTakes.calls (k : Nat) (a0_0 : Int) (a0_1 : Bool) (a0_2 : Int) (a0_3 : Int) (a0_4 : Int) (a0_5 : Int) (A1 : Option Addr) (c1 : Nat) (l1 : List (S28)) (r : Bool) (w : World) (hr1 : Kd.C k28 w A1 l1.length l1) (hc1 : l1.length ≤ c1) (h : weighbridgelaw27_DoubleTakes.f k a0_0 a0_1 a0_2 a0_3 a0_4 a0_5 l1 = some r) :
  Calls Try.prog 5 #[.agg #[.int .i64 a0_0, .bool a0_1, .int .u64 a0_2, .int .u64 a0_3, .int .u64 a0_4, .int .u64 a0_5], .slice A1 l1.length c1] w fun e w' => e = .returned (.bool r) ∧ Below w.heap.size w w' := by
 have hu24 := Try.underlying24
 have hu26 := Try.underlying26
 have HR1 := zq3 hr1
 have HC1 := zq3 hc1
 clear hr1 hc1
 have HB := zq3 (Below.refl w.heap.size w)
 have H : ((double_Newd.f a0_0 a0_1 a0_2 a0_3 a0_4 a0_5).bind fun bt102 => (if bt102.2.2.2.2 = 0 then (weighbridgelaw27_DoubleTakes.j0 k l1 (decide ((l1.length : Int) > 200)) a0_0 a0_1 a0_2 a0_3 a0_4 a0_5 bt102.1 bt102.2.1 bt102.2.2.1 bt102.2.2.2.1) else (weighbridgelaw27_DoubleTakes.j0 k l1 true a0_0 a0_1 a0_2 a0_3 a0_4 a0_5 bt102.1 bt102.2.1 bt102.2.2.1 bt102.2.2.2.1))) = some r := h
 clear h
 replace H := Option.bind_eq_some_iff.mp H
 obtain ⟨⟨t102, t103, t104, t105, t106⟩, A30, H⟩ := H
 replace H : (if t106 = 0 then (weighbridgelaw27_DoubleTakes.j0 k l1 (decide ((l1.length : Int) > 200)) a0_0 a0_1 a0_2 a0_3 a0_4 a0_5 t102 t103 t104 t105) else (weighbridgelaw27_DoubleTakes.j0 k l1 true a0_0 a0_1 a0_2 a0_3 a0_4 a0_5 t102 t103 t104 t105)) = some r := H
 have A3 := zq3 A30
 clear A30
 have HC4 := zq3 H
 clear H
 go_enter Try.func5, Try.ntmps5
 go_upto_region 2 with (first | ((with_reducible refine gate_dst (N := 2) rfl ?_); (try (refine gate_guard (by rfl) ?_; dsimp only)); refine box_event ?hg (N := 2) ?hd (cs := #[.int .i64 a0_0, .bool a0_1, .int .u64 a0_2, .int .u64 a0_3, .int .u64 a0_4, .int .u64 a0_5]) (t := 24) ?hr ?_; (case hd => rfl); (case hg => rfl); (case hr => first | (go_simp; done) | (go_simp; rfl)); intro gb101 hg w5 hbox hb; have n0_ := zq3 (below_step (by repeat (first | (with_reducible first | exact HB.out | apply zq9 | apply zq7 | apply zq8) | exact HB.out)) hb); have n1_ := zq3 (hbox); have n2_ := zq3 ((by rw [hg]; exact (below_size (by repeat (first | (with_reducible first | exact HB.out | apply zq9 | apply zq7 | apply zq8) | exact HB.out))) : w.heap.size ≤ gb101)); have n3_ := zq3 ((by rw [hg]; exact (below_size (by repeat (first | (with_reducible first | exact HB.out | apply zq9 | apply zq7 | apply zq8) | exact HB.out))) : w.heap.size ≤ gb101)); clear HB; have HB := n0_; have BK101 := n1_; have GW101 := n2_; have GE101 := n3_; clear n0_ n1_ n2_ n3_; clear hb hbox hg; have hcz6_0 : w5.cell? ⟨gb101, 0, none⟩ = some (.int .i64 a0_0) := (zq5 BK101.out 0).trans rfl; have hcz6_1 : w5.cell? ⟨gb101, 1, none⟩ = some (.bool a0_1) := (zq5 BK101.out 1).trans rfl; have hcz6_2 : w5.cell? ⟨gb101, 2, none⟩ = some (.int .u64 a0_2) := (zq5 BK101.out 2).trans rfl; have hcz6_3 : w5.cell? ⟨gb101, 3, none⟩ = some (.int .u64 a0_3) := (zq5 BK101.out 3).trans rfl; have hcz6_4 : w5.cell? ⟨gb101, 4, none⟩ = some (.int .u64 a0_4) := (zq5 BK101.out 4).trans rfl; have hcz6_5 : w5.cell? ⟨gb101, 5, none⟩ = some (.int .u64 a0_5) := (zq5 BK101.out 5).trans rfl; have hfz6_0 := zq4 BK101.out 0; have hfz6_1 := zq4 BK101.out 1; have hfz6_2 := zq4 BK101.out 2; have hfz6_3 := zq4 BK101.out 3; have hfz6_4 := zq4 BK101.out 4; have hfz6_5 := zq4 BK101.out 5) | ((with_reducible refine gate_callee (f := 12) rfl ?_); refine goesL_ (some 20) rfl rfl Try.func12 (by kernel_rfl) rfl #[.agg #[.int .i64 a0_0, .bool a0_1, .int .u64 a0_2, .int .u64 a0_3, .int .u64 a0_4, .int .u64 a0_5]] rfl (by (try simp only [List.map_toArray, List.map_cons, List.map_nil]); first | done | rfl | (simp only [List.length_drop, List.length_take]; rfl)) ?_; (with_reducible refine (double_Newd.calls a0_0 a0_1 a0_2 a0_3 a0_4 a0_5 t102 t103 t104 t105 t106 _ A3.out).mono ?_); rintro e w7 ⟨rfl, hb⟩; refine ⟨_, rfl, ?_⟩; have n0_ := zq3 (zq10 (g := gb101) (o := .cells #[.int .i64 a0_0, .bool a0_1, .int .u64 a0_2, .int .u64 a0_3, .int .u64 a0_4, .int .u64 a0_5] 24 (0, 0)) (by (with_reducible repeat (first | refine zq0 ?_ _ | refine zq2 ?_ | refine zq1 ?_ _)); exact BK101.out) hb); have n1_ := zq3 (below_step (by repeat (first | (with_reducible first | exact HB.out | apply zq9 | apply zq7 | apply zq8 | refine zq6 ?_ GE101.out) | exact HB.out)) hb); clear BK101; clear HB; have BK101 := n0_; have HB := n1_; clear n0_ n1_; (try clear hb); (try clear hb2); (try clear hk); (try clear hi)) | ((with_reducible refine gate_dst (N := 5) rfl ?_); (try (refine gate_guard (by rfl) ?_; dsimp only)); refine box_event ?hg (N := 5) ?hd (cs := #[.int .u64 0, .int .u64 0, .int .u64 0, .bool false]) (t := 26) ?hr ?_; (case hd => rfl); (case hg => rfl); (case hr => first | (go_simp; done) | (go_simp; rfl)); intro gb107 hg w8 hbox hb; have n0_ := zq3 (zq10 (g := gb101) (o := .cells #[.int .i64 a0_0, .bool a0_1, .int .u64 a0_2, .int .u64 a0_3, .int .u64 a0_4, .int .u64 a0_5] 24 (0, 0)) (by (with_reducible repeat (first | refine zq0 ?_ _ | refine zq2 ?_ | refine zq1 ?_ _)); exact BK101.out) hb); have n1_ := zq3 (below_step (by repeat (first | (with_reducible first | exact HB.out | apply zq9 | apply zq7 | apply zq8 | refine zq6 ?_ GE101.out) | exact HB.out)) hb); have n2_ := zq3 (hbox); have n3_ := zq3 ((by rw [hg]; exact (below_size (by repeat (first | (with_reducible first | exact HB.out | apply zq9 | apply zq7 | apply zq8 | refine zq6 ?_ GE101.out) | exact HB.out))) : w.heap.size ≤ gb107)); have n4_ := zq3 ((by rw [hg]; exact (below_size (by repeat (first | (with_reducible first | exact HB.out | apply zq9 | apply zq7 | apply zq8 | refine zq6 ?_ GE101.out) | exact HB.out))) : w.heap.size ≤ gb107)); have n5_ := zq3 ((by rw [hg]; exact Nat.ne_of_lt (blk_lt (g := gb101) (o := .cells #[.int .i64 a0_0, .bool a0_1, .int .u64 a0_2, .int .u64 a0_3, .int .u64 a0_4, .int .u64 a0_5] 24 (0, 0)) (by (with_reducible repeat (first | refine zq0 ?_ _ | refine zq2 ?_ | refine zq1 ?_ _)); exact BK101.out)) : gb101 ≠ gb107)); have n6_ := zq3 ((by rw [hg]; exact Nat.ne_of_gt (blk_lt (g := gb101) (o := .cells #[.int .i64 a0_0, .bool a0_1, .int .u64 a0_2, .int .u64 a0_3, .int .u64 a0_4, .int .u64 a0_5] 24 (0, 0)) (by (with_reducible repeat (first | refine zq0 ?_ _ | refine zq2 ?_ | refine zq1 ?_ _)); exact BK101.out)) : gb107 ≠ gb101)); clear BK101; clear HB; have BK101 := n0_; have HB := n1_; have BK107 := n2_; have GW107 := n3_; have GE107 := n4_; have NB101_107 := n5_; have NB107_101 := n6_; clear n0_ n1_ n2_ n3_ n4_ n5_ n6_; clear hb hbox hg; have hnb9 := NB107_101.out; have hnc9 := NB101_107.out; have hcz10_0 : w8.cell? ⟨gb107, 0, none⟩ = some (.int .u64 0) := (zq5 BK107.out 0).trans rfl; have hcz10_1 : w8.cell? ⟨gb107, 1, none⟩ = some (.int .u64 0) := (zq5 BK107.out 1).trans rfl; have hcz10_2 : w8.cell? ⟨gb107, 2, none⟩ = some (.int .u64 0) := (zq5 BK107.out 2).trans rfl; have hcz10_3 : w8.cell? ⟨gb107, 3, none⟩ = some (.bool false) := (zq5 BK107.out 3).trans rfl; have hfz10_0 := zq4 BK107.out 0; have hfz10_1 := zq4 BK107.out 1; have hfz10_2 := zq4 BK107.out 2; have hfz10_3 := zq4 BK107.out 3))
 (try simp only [Act.put, List.setIfInBounds_toArray, List.set_cons_zero, List.set_cons_succ])
 go_cut [29] (fun v29 wc => ∃ (kq : Nat) (x29_3 : Bool), v29 = .bool x29_3 ∧ Aside0 (weighbridgelaw27_DoubleTakes.j0 kq l1 x29_3 a0_0 a0_1 a0_2 a0_3 a0_4 a0_5 t102 t103 t104 t105 = some r) ∧ Aside0 (kq ≤ k) ∧ Aside0 (wc.heap[gb101]? = some (.cells #[.int .i64 a0_0, .bool a0_1, .int .u64 a0_2, .int .u64 a0_3, .int .u64 a0_4, .int .u64 a0_5] 24 (0, 0))) ∧ Aside0 (wc.heap[gb107]? = some (.cells #[.int .u64 t102, .int .u64 t103, .int .u64 t104, .bool t105] 26 (0, 0))) ∧ Aside0 (Below w.heap.size w wc))
 case first =>
  have H := HC4.out
  clear HC4
  by_cases c11 : t106 = 0
  ·
   rw [if_pos c11] at H
   have c11b0 : (t106 == 0) = true := beq_iff_eq.mpr c11
   have c11b1 : (t106 != 0) = false := bne_eq_false_iff_eq.mpr c11
   clear c11
   (first | rw [c11b0] | (simp only [i64_w, i32_w]; rw [c11b0]) | skip)
   have H' := zq3 H
   clear H
   go_wp2
   go_meet
   case rel => exact ⟨_, (decide ((l1.length : Int) > 200)), (by first | rfl | (simp; done) | (simp [*]; done)), H', ⟨by first | omega | exact Nat.le_refl _⟩, ⟨by (with_reducible repeat (first | refine zq0 ?_ _ | refine zq2 ?_ | refine zq1 ?_ _)); refine zq11 ?_ NB101_107.out _; (with_reducible repeat (first | refine zq0 ?_ _ | refine zq2 ?_ | refine zq1 ?_ _)); refine zq11 ?_ NB101_107.out _; (with_reducible repeat (first | refine zq0 ?_ _ | refine zq2 ?_ | refine zq1 ?_ _)); refine zq11 ?_ NB101_107.out _; (with_reducible repeat (first | refine zq0 ?_ _ | refine zq2 ?_ | refine zq1 ?_ _)); refine zq11 ?_ NB101_107.out _; (with_reducible repeat (first | refine zq0 ?_ _ | refine zq2 ?_ | refine zq1 ?_ _)); exact BK101.out⟩, ⟨by (with_reducible repeat (first | refine zq0 ?_ _ | refine zq2 ?_ | refine zq1 ?_ _)); refine blk_put (cs := #[.int .u64 t102, .int .u64 t103, .int .u64 t104, .bool false]) ?_ 3 _ rfl; (with_reducible repeat (first | refine zq0 ?_ _ | refine zq2 ?_ | refine zq1 ?_ _)); refine blk_put (cs := #[.int .u64 t102, .int .u64 t103, .int .u64 0, .bool false]) ?_ 2 _ rfl; (with_reducible repeat (first | refine zq0 ?_ _ | refine zq2 ?_ | refine zq1 ?_ _)); refine blk_put (cs := #[.int .u64 t102, .int .u64 0, .int .u64 0, .bool false]) ?_ 1 _ rfl; (with_reducible repeat (first | refine zq0 ?_ _ | refine zq2 ?_ | refine zq1 ?_ _)); refine blk_put (cs := #[.int .u64 0, .int .u64 0, .int .u64 0, .bool false]) ?_ 0 _ rfl; (with_reducible repeat (first | refine zq0 ?_ _ | refine zq2 ?_ | refine zq1 ?_ _)); exact BK107.out⟩, ⟨by repeat (first | (with_reducible first | exact HB.out | apply zq9 | apply zq7 | apply zq8 | refine zq6 ?_ GE101.out | refine zq6 ?_ GE107.out) | exact HB.out)⟩⟩
  ·
   rw [if_neg c11] at H
   have c11b0 : (t106 == 0) = false := beq_eq_false_iff_ne.mpr c11
   have c11b1 : (t106 != 0) = true := bne_iff_ne.mpr c11
   (first | rw [c11b0] | (simp only [i64_w, i32_w]; rw [c11b0]) | skip)
   have H' := zq3 H
   clear H
   go_wp2
   go_meet
   case rel => exact ⟨_, (true), (by first | rfl | (simp; done) | (simp [*]; done)), H', ⟨by first | omega | exact Nat.le_refl _⟩, ⟨by (with_reducible repeat (first | refine zq0 ?_ _ | refine zq2 ?_ | refine zq1 ?_ _)); refine zq11 ?_ NB101_107.out _; (with_reducible repeat (first | refine zq0 ?_ _ | refine zq2 ?_ | refine zq1 ?_ _)); refine zq11 ?_ NB101_107.out _; (with_reducible repeat (first | refine zq0 ?_ _ | refine zq2 ?_ | refine zq1 ?_ _)); refine zq11 ?_ NB101_107.out _; (with_reducible repeat (first | refine zq0 ?_ _ | refine zq2 ?_ | refine zq1 ?_ _)); refine zq11 ?_ NB101_107.out _; (with_reducible repeat (first | refine zq0 ?_ _ | refine zq2 ?_ | refine zq1 ?_ _)); exact BK101.out⟩, ⟨by (with_reducible repeat (first | refine zq0 ?_ _ | refine zq2 ?_ | refine zq1 ?_ _)); refine blk_put (cs := #[.int .u64 t102, .int .u64 t103, .int .u64 t104, .bool false]) ?_ 3 _ rfl; (with_reducible repeat (first | refine zq0 ?_ _ | refine zq2 ?_ | refine zq1 ?_ _)); refine blk_put (cs := #[.int .u64 t102, .int .u64 t103, .int .u64 0, .bool false]) ?_ 2 _ rfl; (with_reducible repeat (first | refine zq0 ?_ _ | refine zq2 ?_ | refine zq1 ?_ _)); refine blk_put (cs := #[.int .u64 t102, .int .u64 0, .int .u64 0, .bool false]) ?_ 1 _ rfl; (with_reducible repeat (first | refine zq0 ?_ _ | refine zq2 ?_ | refine zq1 ?_ _)); refine blk_put (cs := #[.int .u64 0, .int .u64 0, .int .u64 0, .bool false]) ?_ 0 _ rfl; (with_reducible repeat (first | refine zq0 ?_ _ | refine zq2 ?_ | refine zq1 ?_ _)); exact BK107.out⟩, ⟨by repeat (first | (with_reducible first | exact HB.out | apply zq9 | apply zq7 | apply zq8 | refine zq6 ?_ GE101.out | refine zq6 ?_ GE107.out) | exact HB.out)⟩⟩
 case rest =>
  clear HC4
  try clear c1
  try clear p2
  try clear c5
  try clear c9
  try clear c11
  try clear c11b0
  try clear c11b1
  try clear hcz10_0
  try clear hcz10_1
  try clear hcz10_2
  try clear hcz10_3
  try clear hcz6_0
  try clear hcz6_1
  try clear hcz6_2
  try clear hcz6_3
  try clear hcz6_4
  try clear hcz6_5
  try clear hfz10_0
  try clear hfz10_1
  try clear hfz10_2
  try clear hfz10_3
  try clear hfz6_0
  try clear hfz6_1
  try clear hfz6_2
  try clear hfz6_3
  try clear hfz6_4
  try clear hfz6_5
  obtain ⟨kq, x29_3, rfl, HA, HJ3, BK101, BK107, HB⟩ := hcut
  cases kq with
  | zero => exact absurd HA.out (by simp [weighbridgelaw27_DoubleTakes.j0])
  | succ kj3 =>
   have H := HA.out
   clear HA
   simp only [weighbridgelaw27_DoubleTakes.j0] at H
   by_cases c12 : x29_3 = true
   ·
    subst c12
    have H1 : ((weighbridgelaw27_live.f).bind fun t108 => (some t108)) = some r := by rw [if_pos rfl] at H; exact H
    clear H
    have H := H1
    clear H1
    replace H := Option.bind_eq_some_iff.mp H
    obtain ⟨t108, A130, H⟩ := H
    replace H : (some t108) = some r := H
    have A13 := zq3 A130
    clear A130
    obtain rfl := Option.some.inj H
    go_wp2_with (first | ((with_reducible refine gate_callee (f := 16) rfl ?_); refine goesL_ (some 30) rfl rfl Try.func16 (by kernel_rfl) rfl #[] rfl (by (try simp only [List.map_toArray, List.map_cons, List.map_nil]); first | done | rfl | (simp only [List.length_drop, List.length_take]; rfl)) ?_; (with_reducible refine (weighbridgelaw27_live.calls  t108 _ A13.out).mono ?_); rintro e w14 ⟨rfl, hb⟩; refine ⟨_, rfl, ?_⟩; have n0_ := zq3 (zq10 (g := gb101) (o := .cells #[.int .i64 a0_0, .bool a0_1, .int .u64 a0_2, .int .u64 a0_3, .int .u64 a0_4, .int .u64 a0_5] 24 (0, 0)) (by (with_reducible repeat (first | refine zq0 ?_ _ | refine zq2 ?_ | refine zq1 ?_ _)); exact BK101.out) hb); have n1_ := zq3 (zq10 (g := gb107) (o := .cells #[.int .u64 t102, .int .u64 t103, .int .u64 t104, .bool t105] 26 (0, 0)) (by (with_reducible repeat (first | refine zq0 ?_ _ | refine zq2 ?_ | refine zq1 ?_ _)); exact BK107.out) hb); have n2_ := zq3 (below_step (by repeat (first | (with_reducible first | exact HB.out | apply zq9 | apply zq7 | apply zq8 | refine zq6 ?_ GE101.out | refine zq6 ?_ GE107.out) | exact HB.out)) hb); clear BK101; clear BK107; clear HB; have BK101 := n0_; have BK107 := n1_; have HB := n2_; clear n0_ n1_ n2_; (try clear hb); (try clear hb2); (try clear hk); (try clear hi)))
    go_ret
    exact ⟨by first | rfl | (simp [errW_none, errW_some] <;> rfl) | (simp [*, errW_none, errW_some] <;> rfl), by repeat (first | (with_reducible first | exact HB.out | apply zq9 | apply zq7 | apply zq8 | refine zq6 ?_ GE101.out | refine zq6 ?_ GE107.out) | exact HB.out)⟩
   ·
    replace c12 := Bool.eq_false_iff.mpr c12
    subst c12
    have H1 : (weighbridgelaw27_DoubleTakes.l0 kj3 l1 0 a0_0 a0_1 a0_2 a0_3 a0_4 a0_5 t102 t103 t104 t105 t102 t103 t104 t105) = some r := by rw [if_neg (show ¬ (false = true) by decide)] at H; exact H
    clear H
    have H := H1
    clear H1
    have H' := zq3 H
    clear H
    have hnb15 := NB107_101.out
    have hnc15 := NB101_107.out
    have hcz16_0 : wc.cell? ⟨gb107, 0, none⟩ = some (.int .u64 t102) := (zq5 BK107.out 0).trans rfl
    have hcz16_1 : wc.cell? ⟨gb107, 1, none⟩ = some (.int .u64 t103) := (zq5 BK107.out 1).trans rfl
    have hcz16_2 : wc.cell? ⟨gb107, 2, none⟩ = some (.int .u64 t104) := (zq5 BK107.out 2).trans rfl
    have hcz16_3 : wc.cell? ⟨gb107, 3, none⟩ = some (.bool t105) := (zq5 BK107.out 3).trans rfl
    have hfz16_0 := zq4 BK107.out 0
    have hfz16_1 := zq4 BK107.out 1
    have hfz16_2 := zq4 BK107.out 2
    have hfz16_3 := zq4 BK107.out 3
    go_wp2_with (first | ((with_reducible refine gate_dst (N := 7) rfl ?_); (try (refine gate_guard (by rfl) ?_; dsimp only)); refine box_event ?hg (N := 7) ?hd (cs := #[.int .u64 0, .int .u64 0, .int .u64 0, .bool false]) (t := 26) ?hr ?_; (case hd => rfl); (case hg => rfl); (case hr => first | (go_simp; done) | (go_simp; rfl)); intro gb109 hg w17 hbox hb; have n0_ := zq3 (zq10 (g := gb101) (o := .cells #[.int .i64 a0_0, .bool a0_1, .int .u64 a0_2, .int .u64 a0_3, .int .u64 a0_4, .int .u64 a0_5] 24 (0, 0)) (by (with_reducible repeat (first | refine zq0 ?_ _ | refine zq2 ?_ | refine zq1 ?_ _)); exact BK101.out) hb); have n1_ := zq3 (zq10 (g := gb107) (o := .cells #[.int .u64 t102, .int .u64 t103, .int .u64 t104, .bool t105] 26 (0, 0)) (by (with_reducible repeat (first | refine zq0 ?_ _ | refine zq2 ?_ | refine zq1 ?_ _)); exact BK107.out) hb); have n2_ := zq3 (below_step (by repeat (first | (with_reducible first | exact HB.out | apply zq9 | apply zq7 | apply zq8 | refine zq6 ?_ GE101.out | refine zq6 ?_ GE107.out) | exact HB.out)) hb); have n3_ := zq3 (hbox); have n4_ := zq3 ((by rw [hg]; exact (below_size (by repeat (first | (with_reducible first | exact HB.out | apply zq9 | apply zq7 | apply zq8 | refine zq6 ?_ GE101.out | refine zq6 ?_ GE107.out) | exact HB.out))) : w.heap.size ≤ gb109)); have n5_ := zq3 ((by rw [hg]; exact (below_size (by repeat (first | (with_reducible first | exact HB.out | apply zq9 | apply zq7 | apply zq8 | refine zq6 ?_ GE101.out | refine zq6 ?_ GE107.out) | exact HB.out))) : w.heap.size ≤ gb109)); have n6_ := zq3 ((by rw [hg]; exact Nat.ne_of_lt (blk_lt (g := gb101) (o := .cells #[.int .i64 a0_0, .bool a0_1, .int .u64 a0_2, .int .u64 a0_3, .int .u64 a0_4, .int .u64 a0_5] 24 (0, 0)) (by (with_reducible repeat (first | refine zq0 ?_ _ | refine zq2 ?_ | refine zq1 ?_ _)); exact BK101.out)) : gb101 ≠ gb109)); have n7_ := zq3 ((by rw [hg]; exact Nat.ne_of_gt (blk_lt (g := gb101) (o := .cells #[.int .i64 a0_0, .bool a0_1, .int .u64 a0_2, .int .u64 a0_3, .int .u64 a0_4, .int .u64 a0_5] 24 (0, 0)) (by (with_reducible repeat (first | refine zq0 ?_ _ | refine zq2 ?_ | refine zq1 ?_ _)); exact BK101.out)) : gb109 ≠ gb101)); have n8_ := zq3 ((by rw [hg]; exact Nat.ne_of_lt (blk_lt (g := gb107) (o := .cells #[.int .u64 t102, .int .u64 t103, .int .u64 t104, .bool t105] 26 (0, 0)) (by (with_reducible repeat (first | refine zq0 ?_ _ | refine zq2 ?_ | refine zq1 ?_ _)); exact BK107.out)) : gb107 ≠ gb109)); have n9_ := zq3 ((by rw [hg]; exact Nat.ne_of_gt (blk_lt (g := gb107) (o := .cells #[.int .u64 t102, .int .u64 t103, .int .u64 t104, .bool t105] 26 (0, 0)) (by (with_reducible repeat (first | refine zq0 ?_ _ | refine zq2 ?_ | refine zq1 ?_ _)); exact BK107.out)) : gb109 ≠ gb107)); clear BK101; clear BK107; clear HB; have BK101 := n0_; have BK107 := n1_; have HB := n2_; have BK109 := n3_; have GW109 := n4_; have GE109 := n5_; have NB101_109 := n6_; have NB109_101 := n7_; have NB107_109 := n8_; have NB109_107 := n9_; clear n0_ n1_ n2_ n3_ n4_ n5_ n6_ n7_ n8_ n9_; clear hb hbox hg; have hnb18 := NB109_101.out; have hnc18 := NB101_109.out; have hnb19 := NB109_107.out; have hnc19 := NB107_109.out; have hcz20_0 : w17.cell? ⟨gb109, 0, none⟩ = some (.int .u64 0) := (zq5 BK109.out 0).trans rfl; have hcz20_1 : w17.cell? ⟨gb109, 1, none⟩ = some (.int .u64 0) := (zq5 BK109.out 1).trans rfl; have hcz20_2 : w17.cell? ⟨gb109, 2, none⟩ = some (.int .u64 0) := (zq5 BK109.out 2).trans rfl; have hcz20_3 : w17.cell? ⟨gb109, 3, none⟩ = some (.bool false) := (zq5 BK109.out 3).trans rfl; have hfz20_0 := zq4 BK109.out 0; have hfz20_1 := zq4 BK109.out 1; have hfz20_2 := zq4 BK109.out 2; have hfz20_3 := zq4 BK109.out 3))
    go_loopg [8] kj3 (fun kq v8 w' => ∃ (x8_2 : Int) (x108000_2 : Int) (x108001_2 : Int) (x108002_2 : Int) (x108003_2 : Bool), v8 = .int .i64 x8_2 ∧ Aside0 (weighbridgelaw27_DoubleTakes.l0 kq l1 x8_2 a0_0 a0_1 a0_2 a0_3 a0_4 a0_5 x108000_2 x108001_2 x108002_2 x108003_2 t102 t103 t104 t105 = some r) ∧ Aside0 (kq ≤ kj3) ∧ Aside0 (w'.heap[gb101]? = some (.cells #[.int .i64 a0_0, .bool a0_1, .int .u64 a0_2, .int .u64 a0_3, .int .u64 a0_4, .int .u64 a0_5] 24 (0, 0))) ∧ Aside0 (w'.heap[gb107]? = some (.cells #[.int .u64 x108000_2, .int .u64 x108001_2, .int .u64 x108002_2, .bool x108003_2] 26 (0, 0))) ∧ Aside0 (w'.heap[gb109]? = some (.cells #[.int .u64 t102, .int .u64 t103, .int .u64 t104, .bool t105] 26 (0, 0))) ∧ Aside0 (Below w.heap.size w w'))
    case atStart => exact ⟨(0), (t102), (t103), (t104), (t105), (by first | rfl | (simp; done) | (simp [*]; done)), H', ⟨Nat.le_refl _⟩, ⟨by (with_reducible repeat (first | refine zq0 ?_ _ | refine zq2 ?_ | refine zq1 ?_ _)); refine zq11 ?_ NB101_109.out _; (with_reducible repeat (first | refine zq0 ?_ _ | refine zq2 ?_ | refine zq1 ?_ _)); refine zq11 ?_ NB101_109.out _; (with_reducible repeat (first | refine zq0 ?_ _ | refine zq2 ?_ | refine zq1 ?_ _)); refine zq11 ?_ NB101_109.out _; (with_reducible repeat (first | refine zq0 ?_ _ | refine zq2 ?_ | refine zq1 ?_ _)); refine zq11 ?_ NB101_109.out _; (with_reducible repeat (first | refine zq0 ?_ _ | refine zq2 ?_ | refine zq1 ?_ _)); exact BK101.out⟩, ⟨by (with_reducible repeat (first | refine zq0 ?_ _ | refine zq2 ?_ | refine zq1 ?_ _)); refine zq11 ?_ NB107_109.out _; (with_reducible repeat (first | refine zq0 ?_ _ | refine zq2 ?_ | refine zq1 ?_ _)); refine zq11 ?_ NB107_109.out _; (with_reducible repeat (first | refine zq0 ?_ _ | refine zq2 ?_ | refine zq1 ?_ _)); refine zq11 ?_ NB107_109.out _; (with_reducible repeat (first | refine zq0 ?_ _ | refine zq2 ?_ | refine zq1 ?_ _)); refine zq11 ?_ NB107_109.out _; (with_reducible repeat (first | refine zq0 ?_ _ | refine zq2 ?_ | refine zq1 ?_ _)); exact BK107.out⟩, ⟨by (with_reducible repeat (first | refine zq0 ?_ _ | refine zq2 ?_ | refine zq1 ?_ _)); refine blk_put (cs := #[.int .u64 t102, .int .u64 t103, .int .u64 t104, .bool false]) ?_ 3 _ rfl; (with_reducible repeat (first | refine zq0 ?_ _ | refine zq2 ?_ | refine zq1 ?_ _)); refine blk_put (cs := #[.int .u64 t102, .int .u64 t103, .int .u64 0, .bool false]) ?_ 2 _ rfl; (with_reducible repeat (first | refine zq0 ?_ _ | refine zq2 ?_ | refine zq1 ?_ _)); refine blk_put (cs := #[.int .u64 t102, .int .u64 0, .int .u64 0, .bool false]) ?_ 1 _ rfl; (with_reducible repeat (first | refine zq0 ?_ _ | refine zq2 ?_ | refine zq1 ?_ _)); refine blk_put (cs := #[.int .u64 0, .int .u64 0, .int .u64 0, .bool false]) ?_ 0 _ rfl; (with_reducible repeat (first | refine zq0 ?_ _ | refine zq2 ?_ | refine zq1 ?_ _)); exact BK109.out⟩, ⟨by repeat (first | (with_reducible first | exact HB.out | apply zq9 | apply zq7 | apply zq8 | refine zq6 ?_ GE101.out | refine zq6 ?_ GE107.out | refine zq6 ?_ GE109.out) | exact HB.out)⟩⟩
    case round =>
     clear H'
     try clear c1
     try clear p2
     try clear c5
     try clear c9
     try clear c11
     try clear c11b0
     try clear c11b1
     try clear c12
     try clear c15
     try clear c16
     try clear c18
     try clear c19
     try clear hcz10_0
     try clear hcz10_1
     try clear hcz10_2
     try clear hcz10_3
     try clear hcz16_0
     try clear hcz16_1
     try clear hcz16_2
     try clear hcz16_3
     try clear hcz20_0
     try clear hcz20_1
     try clear hcz20_2
     try clear hcz20_3
     try clear hcz6_0
     try clear hcz6_1
     try clear hcz6_2
     try clear hcz6_3
     try clear hcz6_4
     try clear hcz6_5
     try clear hfz10_0
     try clear hfz10_1
     try clear hfz10_2
     try clear hfz10_3
     try clear hfz16_0
     try clear hfz16_1
     try clear hfz16_2
     try clear hfz16_3
     try clear hfz20_0
     try clear hfz20_1
     try clear hfz20_2
     try clear hfz20_3
     try clear hfz6_0
     try clear hfz6_1
     try clear hfz6_2
     try clear hfz6_3
     try clear hfz6_4
     try clear hfz6_5
     try clear p2
     obtain ⟨x8_2, x108000_2, x108001_2, x108002_2, x108003_2, rfl, HA, HK2, BK101, BK107, BK109, HB⟩ := hrel
     cases gk with
     | zero => exact absurd HA.out (by simp [weighbridgelaw27_DoubleTakes.l0])
     | succ k2 =>
      have H := HA.out
      clear HA
      simp only [weighbridgelaw27_DoubleTakes.l0] at H
      by_cases c21 : x8_2 < (l1.length : Int)
      ·
       rw [if_pos c21] at H
       have c21b0 : decide (x8_2 < (l1.length : Int)) = true := decide_eq_true c21
       clear c21
       by_cases c22 : 0 ≤ x8_2
       ·
        rw [if_pos c22] at H
        have c22b0 : decide (0 ≤ x8_2) = true := decide_eq_true c22
        clear c22
        by_cases c23 : ((rd_T28 l1 x8_2).f1) < 0
        ·
         rw [if_pos c23] at H
         have c23b0 : decide (((rd_T28 l1 x8_2).f1) < 0) = true := decide_eq_true c23
         clear c23
         have H' := zq3 H
         clear H
         have p111 : 0 ≤ (x8_2 : Int) := of_decide_eq_true (by first | (with_reducible assumption) | assumption)
         have q111 : x8_2 < (l1.length : Int) := of_decide_eq_true (by first | (with_reducible assumption) | assumption)
         obtain ⟨ad111, e111, hx111_0, hx111_1, hx111_2⟩ := at_T28 HR1.out x8_2 p111 q111
         cases e111
         replace hx111_0 := (HB.out.cell (World.block_lt_of_cell? w _ hx111_0)).trans hx111_0
         replace hx111_1 := (HB.out.cell (World.block_lt_of_cell? w _ hx111_1)).trans hx111_1
         replace hx111_2 := (HB.out.cell (World.block_lt_of_cell? w _ hx111_2)).trans hx111_2
         replace p111 := eq_true p111
         replace q111 := eq_true q111
         go_wp2
         go_roundg k2
         case measure => have := HJ3.out; have := HK2.out; omega
         case rel => exact ⟨(wrap64 (x8_2 + 1)), (x108000_2), (x108001_2), (x108002_2), (x108003_2), (by first | rfl | (simp; done) | (simp [*]; done)), H', ⟨by have := HJ3.out; have := HK2.out; omega⟩, ⟨by (with_reducible repeat (first | refine zq0 ?_ _ | refine zq2 ?_ | refine zq1 ?_ _)); exact BK101.out⟩, ⟨by (with_reducible repeat (first | refine zq0 ?_ _ | refine zq2 ?_ | refine zq1 ?_ _)); exact BK107.out⟩, ⟨by (with_reducible repeat (first | refine zq0 ?_ _ | refine zq2 ?_ | refine zq1 ?_ _)); exact BK109.out⟩, ⟨by repeat (first | (with_reducible first | exact HB.out | apply zq9 | apply zq7 | apply zq8 | refine zq6 ?_ GE101.out | refine zq6 ?_ GE107.out | refine zq6 ?_ GE109.out) | exact HB.out)⟩⟩
        ·
         rw [if_neg c23] at H
         have c23b0 : decide (((rd_T28 l1 x8_2).f1) < 0) = false := decide_eq_false c23
         clear c23
         replace H := Option.bind_eq_some_iff.mp H
         obtain ⟨⟨t113, t114, t115, t116, t117⟩, A240, H⟩ := H
         replace H : ((double_Stepd.f a0_0 a0_1 a0_2 a0_3 a0_4 a0_5 x108000_2 x108001_2 x108002_2 x108003_2 ((rd_T28 l1 x8_2).f0) ((rd_T28 l1 x8_2).f1) ((rd_T28 l1 x8_2).f2)).bind fun bt121 => ((bucket_Need.f ((rd_T28 l1 x8_2).f1)).bind fun bt127 => (if bt121.1 > t102 then (none) else (if bt121.2.1 > t103 then (none) else (if bt121.2.2.1 = t115 then (if bt121.2.2.2.1 = true then (if x108003_2 = true then (if bt121.2.2.1 < x108002_2 then (none) else (if a0_1 = true then (if bt121.2.2.2.2 < (mn ((rd_T28 l1 x8_2).f2) 2) then (none) else (if bt127.2 = true then (weighbridgelaw27_DoubleTakes.j2 k2 l1 x8_2 bt121.2.2.2.2 bt127.1 false a0_0 a0_1 a0_2 a0_3 a0_4 a0_5 t102 t103 t104 t105 t113 t114 t115 t116 bt121.1 bt121.2.1 bt121.2.2.1 bt121.2.2.2.1) else (weighbridgelaw27_DoubleTakes.j2 k2 l1 x8_2 bt121.2.2.2.2 bt127.1 (bt121.2.2.2.2 != 2) a0_0 a0_1 a0_2 a0_3 a0_4 a0_5 t102 t103 t104 t105 t113 t114 t115 t116 bt121.1 bt121.2.1 bt121.2.2.1 bt121.2.2.2.1))) else (if bt127.2 = true then (weighbridgelaw27_DoubleTakes.j2 k2 l1 x8_2 bt121.2.2.2.2 bt127.1 false a0_0 a0_1 a0_2 a0_3 a0_4 a0_5 t102 t103 t104 t105 t113 t114 t115 t116 bt121.1 bt121.2.1 bt121.2.2.1 bt121.2.2.2.1) else (weighbridgelaw27_DoubleTakes.j2 k2 l1 x8_2 bt121.2.2.2.2 bt127.1 (bt121.2.2.2.2 != 2) a0_0 a0_1 a0_2 a0_3 a0_4 a0_5 t102 t103 t104 t105 t113 t114 t115 t116 bt121.1 bt121.2.1 bt121.2.2.1 bt121.2.2.2.1)))) else (if a0_1 = true then (if bt121.2.2.2.2 < (mn ((rd_T28 l1 x8_2).f2) 2) then (none) else (if bt127.2 = true then (weighbridgelaw27_DoubleTakes.j2 k2 l1 x8_2 bt121.2.2.2.2 bt127.1 false a0_0 a0_1 a0_2 a0_3 a0_4 a0_5 t102 t103 t104 t105 t113 t114 t115 t116 bt121.1 bt121.2.1 bt121.2.2.1 bt121.2.2.2.1) else (weighbridgelaw27_DoubleTakes.j2 k2 l1 x8_2 bt121.2.2.2.2 bt127.1 (bt121.2.2.2.2 != 2) a0_0 a0_1 a0_2 a0_3 a0_4 a0_5 t102 t103 t104 t105 t113 t114 t115 t116 bt121.1 bt121.2.1 bt121.2.2.1 bt121.2.2.2.1))) else (if bt127.2 = true then (weighbridgelaw27_DoubleTakes.j2 k2 l1 x8_2 bt121.2.2.2.2 bt127.1 false a0_0 a0_1 a0_2 a0_3 a0_4 a0_5 t102 t103 t104 t105 t113 t114 t115 t116 bt121.1 bt121.2.1 bt121.2.2.1 bt121.2.2.2.1) else (weighbridgelaw27_DoubleTakes.j2 k2 l1 x8_2 bt121.2.2.2.2 bt127.1 (bt121.2.2.2.2 != 2) a0_0 a0_1 a0_2 a0_3 a0_4 a0_5 t102 t103 t104 t105 t113 t114 t115 t116 bt121.1 bt121.2.1 bt121.2.2.1 bt121.2.2.2.1)))) else (none)) else (none)))))) = some r := H
         have A24 := zq3 A240
         clear A240
         replace H := Option.bind_eq_some_iff.mp H
         obtain ⟨⟨t121, t122, t123, t124, t125⟩, A250, H⟩ := H
         replace H : ((bucket_Need.f ((rd_T28 l1 x8_2).f1)).bind fun bt127 => (if t121 > t102 then (none) else (if t122 > t103 then (none) else (if t123 = t115 then (if t124 = true then (if x108003_2 = true then (if t123 < x108002_2 then (none) else (if a0_1 = true then (if t125 < (mn ((rd_T28 l1 x8_2).f2) 2) then (none) else (if bt127.2 = true then (weighbridgelaw27_DoubleTakes.j2 k2 l1 x8_2 t125 bt127.1 false a0_0 a0_1 a0_2 a0_3 a0_4 a0_5 t102 t103 t104 t105 t113 t114 t115 t116 t121 t122 t123 t124) else (weighbridgelaw27_DoubleTakes.j2 k2 l1 x8_2 t125 bt127.1 (t125 != 2) a0_0 a0_1 a0_2 a0_3 a0_4 a0_5 t102 t103 t104 t105 t113 t114 t115 t116 t121 t122 t123 t124))) else (if bt127.2 = true then (weighbridgelaw27_DoubleTakes.j2 k2 l1 x8_2 t125 bt127.1 false a0_0 a0_1 a0_2 a0_3 a0_4 a0_5 t102 t103 t104 t105 t113 t114 t115 t116 t121 t122 t123 t124) else (weighbridgelaw27_DoubleTakes.j2 k2 l1 x8_2 t125 bt127.1 (t125 != 2) a0_0 a0_1 a0_2 a0_3 a0_4 a0_5 t102 t103 t104 t105 t113 t114 t115 t116 t121 t122 t123 t124)))) else (if a0_1 = true then (if t125 < (mn ((rd_T28 l1 x8_2).f2) 2) then (none) else (if bt127.2 = true then (weighbridgelaw27_DoubleTakes.j2 k2 l1 x8_2 t125 bt127.1 false a0_0 a0_1 a0_2 a0_3 a0_4 a0_5 t102 t103 t104 t105 t113 t114 t115 t116 t121 t122 t123 t124) else (weighbridgelaw27_DoubleTakes.j2 k2 l1 x8_2 t125 bt127.1 (t125 != 2) a0_0 a0_1 a0_2 a0_3 a0_4 a0_5 t102 t103 t104 t105 t113 t114 t115 t116 t121 t122 t123 t124))) else (if bt127.2 = true then (weighbridgelaw27_DoubleTakes.j2 k2 l1 x8_2 t125 bt127.1 false a0_0 a0_1 a0_2 a0_3 a0_4 a0_5 t102 t103 t104 t105 t113 t114 t115 t116 t121 t122 t123 t124) else (weighbridgelaw27_DoubleTakes.j2 k2 l1 x8_2 t125 bt127.1 (t125 != 2) a0_0 a0_1 a0_2 a0_3 a0_4 a0_5 t102 t103 t104 t105 t113 t114 t115 t116 t121 t122 t123 t124)))) else (none)) else (none))))) = some r := H
         have A25 := zq3 A250
         clear A250
         replace H := Option.bind_eq_some_iff.mp H
         obtain ⟨⟨t127, t128⟩, A260, H⟩ := H
         replace H : (if t121 > t102 then (none) else (if t122 > t103 then (none) else (if t123 = t115 then (if t124 = true then (if x108003_2 = true then (if t123 < x108002_2 then (none) else (if a0_1 = true then (if t125 < (mn ((rd_T28 l1 x8_2).f2) 2) then (none) else (if t128 = true then (weighbridgelaw27_DoubleTakes.j2 k2 l1 x8_2 t125 t127 false a0_0 a0_1 a0_2 a0_3 a0_4 a0_5 t102 t103 t104 t105 t113 t114 t115 t116 t121 t122 t123 t124) else (weighbridgelaw27_DoubleTakes.j2 k2 l1 x8_2 t125 t127 (t125 != 2) a0_0 a0_1 a0_2 a0_3 a0_4 a0_5 t102 t103 t104 t105 t113 t114 t115 t116 t121 t122 t123 t124))) else (if t128 = true then (weighbridgelaw27_DoubleTakes.j2 k2 l1 x8_2 t125 t127 false a0_0 a0_1 a0_2 a0_3 a0_4 a0_5 t102 t103 t104 t105 t113 t114 t115 t116 t121 t122 t123 t124) else (weighbridgelaw27_DoubleTakes.j2 k2 l1 x8_2 t125 t127 (t125 != 2) a0_0 a0_1 a0_2 a0_3 a0_4 a0_5 t102 t103 t104 t105 t113 t114 t115 t116 t121 t122 t123 t124)))) else (if a0_1 = true then (if t125 < (mn ((rd_T28 l1 x8_2).f2) 2) then (none) else (if t128 = true then (weighbridgelaw27_DoubleTakes.j2 k2 l1 x8_2 t125 t127 false a0_0 a0_1 a0_2 a0_3 a0_4 a0_5 t102 t103 t104 t105 t113 t114 t115 t116 t121 t122 t123 t124) else (weighbridgelaw27_DoubleTakes.j2 k2 l1 x8_2 t125 t127 (t125 != 2) a0_0 a0_1 a0_2 a0_3 a0_4 a0_5 t102 t103 t104 t105 t113 t114 t115 t116 t121 t122 t123 t124))) else (if t128 = true then (weighbridgelaw27_DoubleTakes.j2 k2 l1 x8_2 t125 t127 false a0_0 a0_1 a0_2 a0_3 a0_4 a0_5 t102 t103 t104 t105 t113 t114 t115 t116 t121 t122 t123 t124) else (weighbridgelaw27_DoubleTakes.j2 k2 l1 x8_2 t125 t127 (t125 != 2) a0_0 a0_1 a0_2 a0_3 a0_4 a0_5 t102 t103 t104 t105 t113 t114 t115 t116 t121 t122 t123 t124)))) else (none)) else (none)))) = some r := H
         have A26 := zq3 A260
         clear A260
         have HC27 := zq3 H
         clear H
         have p111 : 0 ≤ (x8_2 : Int) := of_decide_eq_true (by first | (with_reducible assumption) | assumption)
         have q111 : x8_2 < (l1.length : Int) := of_decide_eq_true (by first | (with_reducible assumption) | assumption)
         obtain ⟨ad111, e111, hx111_0, hx111_1, hx111_2⟩ := at_T28 HR1.out x8_2 p111 q111
         cases e111
         replace hx111_0 := (HB.out.cell (World.block_lt_of_cell? w _ hx111_0)).trans hx111_0
         replace hx111_1 := (HB.out.cell (World.block_lt_of_cell? w _ hx111_1)).trans hx111_1
         replace hx111_2 := (HB.out.cell (World.block_lt_of_cell? w _ hx111_2)).trans hx111_2
         replace p111 := eq_true p111
         replace q111 := eq_true q111
         try go_wp2
         have n0_ := zq3 (zq2 BK101.out)
         have n1_ := zq3 (zq2 BK107.out)
         have n2_ := zq3 (zq2 BK109.out)
         have n3_ := zq3 (zq8 HB.out)
         clear BK101
         clear BK107
         clear BK109
         clear HB
         have BK101 := n0_
         have BK107 := n1_
         have BK109 := n2_
         have HB := n3_
         clear n0_ n1_ n2_ n3_
         have p112 : 0 ≤ (x8_2 : Int) := of_decide_eq_true (by first | (with_reducible assumption) | assumption)
         have q112 : x8_2 < (l1.length : Int) := of_decide_eq_true (by first | (with_reducible assumption) | assumption)
         obtain ⟨ad112, e112, hx112_0, hx112_1, hx112_2⟩ := at_T28 HR1.out x8_2 p112 q112
         have hw112_2 := hx112_2
         have hw112_1 := hx112_1
         have hw112_0 := hx112_0
         obtain rfl : ad111 = ad112 := (by injection e112)
         replace hx112_0 := (HB.out.cell (World.block_lt_of_cell? w _ hx112_0)).trans hx112_0
         replace hx112_1 := (HB.out.cell (World.block_lt_of_cell? w _ hx112_1)).trans hx112_1
         replace hx112_2 := (HB.out.cell (World.block_lt_of_cell? w _ hx112_2)).trans hx112_2
         replace p112 := eq_true p112
         replace q112 := eq_true q112
         refine start_ (n := 14) (S := fun w' => w'.cell? ⟨gb101, 0, none⟩ = some (.int .i64 a0_0) ∧ w'.cell? ⟨gb101, 1, none⟩ = some (.bool a0_1) ∧ w'.cell? ⟨gb101, 2, none⟩ = some (.int .u64 a0_2) ∧ w'.cell? ⟨gb101, 3, none⟩ = some (.int .u64 a0_3) ∧ w'.cell? ⟨gb101, 4, none⟩ = some (.int .u64 a0_4) ∧ w'.cell? ⟨gb101, 5, none⟩ = some (.int .u64 a0_5) ∧ w'.cell? ⟨gb107, 0, none⟩ = some (.int .u64 x108000_2) ∧ w'.cell? ⟨gb107, 1, none⟩ = some (.int .u64 x108001_2) ∧ w'.cell? ⟨gb107, 2, none⟩ = some (.int .u64 x108002_2) ∧ w'.cell? ⟨gb107, 3, none⟩ = some (.bool x108003_2) ∧ w'.cell? (ad111.add ((x8_2).toNat * 3)) = some (.int .u64 ((rd_T28 l1 x8_2).f0)) ∧ w'.cell? ⟨(ad111.add ((x8_2).toNat * 3)).block, (ad111.add ((x8_2).toNat * 3)).off + 1, none⟩ = some (.int .i64 ((rd_T28 l1 x8_2).f1)) ∧ w'.cell? ⟨(ad111.add ((x8_2).toNat * 3)).block, (ad111.add ((x8_2).toNat * 3)).off + 2, none⟩ = some (.int .i64 ((rd_T28 l1 x8_2).f2))) (ds := []) #[false, false, false, false, false, false, false, false, false, false, false, false, false, false] (by kernel_rfl) rfl rfl ⟨(zq5 BK101.out 0).trans rfl, (zq5 BK101.out 1).trans rfl, (zq5 BK101.out 2).trans rfl, (zq5 BK101.out 3).trans rfl, (zq5 BK101.out 4).trans rfl, (zq5 BK101.out 5).trans rfl, (zq5 BK107.out 0).trans rfl, (zq5 BK107.out 1).trans rfl, (zq5 BK107.out 2).trans rfl, (zq5 BK107.out 3).trans rfl, ((HB.out.cell (World.block_lt_of_cell? w _ hw112_0)).trans hw112_0), ((HB.out.cell (World.block_lt_of_cell? w _ hw112_1)).trans hw112_1), ((HB.out.cell (World.block_lt_of_cell? w _ hw112_2)).trans hw112_2)⟩ (fun hHeld => ?_); refine with_tabW weighbridgelaw27_DoubleTakes.tab10 weighbridgelaw27_DoubleTakes.bits10 (fun HT_ HW_ => ?_)
         generalize wr.drew = w28 at BK101 BK107 BK109 HB hx112_0 hx112_1 hx112_2 hHeld ⊢
         refine pure_ (i := 2) (N := some 48) (v := ?_) (a' := ?_) #[false, false, true, false, false, false, false, false, false, false, false, false, false, false] rfl rfl (any_of HT_.out (by kernel_rfl)) (fun _ _ _ h => h) (Or.inl ⟨by rfl, ?_⟩) ?_ ?_
         rotate_left
         ·
          intro w'
          go_simp
          with_reducible rfl
         rotate_left
         ·
          simp only [Act.put, List.setIfInBounds_toArray, List.set_cons_zero, List.set_cons_succ, i64_w, i32_w]
          rfl
         refine pure_ (i := 3) (N := some 49) (v := ?_) (a' := ?_) #[false, false, true, true, false, false, false, false, false, false, false, false, false, false] rfl rfl (any_of HT_.out (by kernel_rfl)) (fun _ _ _ h => h) (Or.inl ⟨by rfl, ?_⟩) ?_ ?_
         rotate_left
         ·
          intro w'
          go_simp
          with_reducible rfl
         rotate_left
         ·
          simp only [Act.put, List.setIfInBounds_toArray, List.set_cons_zero, List.set_cons_succ, i64_w, i32_w]
          rfl
         refine pure_ (i := 4) (N := some 50) (v := ?_) (a' := ?_) #[false, false, true, true, true, false, false, false, false, false, false, false, false, false] rfl rfl (any_of HT_.out (by kernel_rfl)) (fun _ _ _ h => h) (Or.inl ⟨by rfl, ?_⟩) ?_ ?_
         rotate_left
         ·
          intro w'
          go_simp
          with_reducible rfl
         rotate_left
         ·
          simp only [Act.put, List.setIfInBounds_toArray, List.set_cons_zero, List.set_cons_succ, i64_w, i32_w]
          rfl
         refine pure_ (i := 5) (N := some 51) (v := ?_) (a' := ?_) #[false, false, true, true, true, true, false, false, false, false, false, false, false, false] rfl rfl (any_of HT_.out (by kernel_rfl)) (fun _ _ _ h => h) (Or.inl ⟨by rfl, ?_⟩) ?_ ?_
         rotate_left
         ·
          intro w'
          go_simp
          with_reducible rfl
         rotate_left
         ·
          simp only [Act.put, List.setIfInBounds_toArray, List.set_cons_zero, List.set_cons_succ, i64_w, i32_w]
          rfl
         refine take_ (i := 0) (N := some 46) (v := ?_) (a' := ?_) #[true, false, true, true, true, true, false, false, false, false, false, false, false, false] rfl rfl (take_ofW HT_.out HW_.out (by kernel_rfl)) (fun _ _ _ h => h) (Or.inl ⟨by rfl, ?_⟩) hHeld ?_ ?_
         rotate_left
         ·
          rintro w' ⟨s0, s1, s2, s3, s4, s5, s6, s7, s8, s9, s10, s11, s12⟩
          go_simp
          with_reducible rfl
         rotate_left
         ·
          simp only [Act.put, List.setIfInBounds_toArray, List.set_cons_zero, List.set_cons_succ, i64_w, i32_w]
          rfl
         refine take_ (i := 1) (N := some 47) (v := ?_) (a' := ?_) #[true, true, true, true, true, true, false, false, false, false, false, false, false, false] rfl rfl (take_ofW HT_.out HW_.out (by kernel_rfl)) (fun _ _ _ h => h) (Or.inl ⟨by rfl, ?_⟩) hHeld ?_ ?_
         rotate_left
         ·
          rintro w' ⟨s0, s1, s2, s3, s4, s5, s6, s7, s8, s9, s10, s11, s12⟩
          go_simp
          with_reducible rfl
         rotate_left
         ·
          simp only [Act.put, List.setIfInBounds_toArray, List.set_cons_zero, List.set_cons_succ, i64_w, i32_w]
          rfl
         refine take_ (i := 6) (N := some 52) (v := ?_) (a' := ?_) #[true, true, true, true, true, true, true, false, false, false, false, false, false, false] rfl rfl (take_ofW HT_.out HW_.out (by kernel_rfl)) (fun _ _ _ h => h) (Or.inl ⟨by rfl, ?_⟩) hHeld ?_ ?_
         rotate_left
         ·
          rintro w' ⟨s0, s1, s2, s3, s4, s5, s6, s7, s8, s9, s10, s11, s12⟩
          go_simp
          with_reducible rfl
         rotate_left
         ·
          simp only [Act.put, List.setIfInBounds_toArray, List.set_cons_zero, List.set_cons_succ, i64_w, i32_w]
          rfl
         refine join_ (σ := Nat) 2 #[true, true, true, true, true, true, true, true, true, true, true, true, false, false] (fun s_ => [(53, .tuple #[.agg #[.int .u64 t113, .int .u64 t114, .int .u64 t115, .bool t116], .int .i64 t117]), (10, .pointer (some ⟨s_, 0, none⟩)), (45, .tuple #[.agg #[.int .u64 t113, .int .u64 t114, .int .u64 t115, .bool t116], .int .i64 t117]), (54, .agg #[.int .u64 t113, .int .u64 t114, .int .u64 t115, .bool t116]), (55, .int .i64 t117)]) (fun s_ w' => (w'.cell? ⟨gb101, 0, none⟩ = some (.int .i64 a0_0) ∧ w'.cell? ⟨gb101, 1, none⟩ = some (.bool a0_1) ∧ w'.cell? ⟨gb101, 2, none⟩ = some (.int .u64 a0_2) ∧ w'.cell? ⟨gb101, 3, none⟩ = some (.int .u64 a0_3) ∧ w'.cell? ⟨gb101, 4, none⟩ = some (.int .u64 a0_4) ∧ w'.cell? ⟨gb101, 5, none⟩ = some (.int .u64 a0_5) ∧ w'.cell? ⟨gb107, 0, none⟩ = some (.int .u64 x108000_2) ∧ w'.cell? ⟨gb107, 1, none⟩ = some (.int .u64 x108001_2) ∧ w'.cell? ⟨gb107, 2, none⟩ = some (.int .u64 x108002_2) ∧ w'.cell? ⟨gb107, 3, none⟩ = some (.bool x108003_2) ∧ w'.cell? (ad111.add ((x8_2).toNat * 3)) = some (.int .u64 ((rd_T28 l1 x8_2).f0)) ∧ w'.cell? ⟨(ad111.add ((x8_2).toNat * 3)).block, (ad111.add ((x8_2).toNat * 3)).off + 1, none⟩ = some (.int .i64 ((rd_T28 l1 x8_2).f1)) ∧ w'.cell? ⟨(ad111.add ((x8_2).toNat * 3)).block, (ad111.add ((x8_2).toNat * 3)).off + 2, none⟩ = some (.int .i64 ((rd_T28 l1 x8_2).f2))) ∧ (w'.heap[gb101]? = some (.cells #[.int .i64 a0_0, .bool a0_1, .int .u64 a0_2, .int .u64 a0_3, .int .u64 a0_4, .int .u64 a0_5] 24 (0, 0))) ∧ (w'.heap[gb107]? = some (.cells #[.int .u64 x108000_2, .int .u64 x108001_2, .int .u64 x108002_2, .bool x108003_2] 26 (0, 0))) ∧ (w'.heap[gb109]? = some (.cells #[.int .u64 t102, .int .u64 t103, .int .u64 t104, .bool t105] 26 (0, 0))) ∧ (w'.heap[s_]? = some (.cells #[.int .u64 0, .int .u64 0, .int .u64 0, .bool false] 26 (0, 0))) ∧ (w.heap.size ≤ s_) ∧ (w.heap.size ≤ s_) ∧ (gb101 ≠ s_) ∧ (s_ ≠ gb101) ∧ (gb107 ≠ s_) ∧ (s_ ≠ gb107) ∧ (gb109 ≠ s_) ∧ (s_ ≠ gb109) ∧ (Below w.heap.size w w')) ?_ ?_
         rotate_left
         ·
          intro hCont
          refine two_ (i := 7) (j := 11) (Ni := some 53) (Nj := some 10) #[true, true, true, true, true, true, true, true, false, false, false, false, false, false] #[true, true, true, true, true, true, true, false, false, false, false, true, false, false] rfl rfl rfl rfl (two_of HT_.out (by kernel_rfl)) (by decide) (by decide) (fun K hK => ?_) (fun K hK => ?_)
          ·
           skip
           refine goes_ Try.func14 (by kernel_rfl) rfl #[.agg #[.int .i64 a0_0, .bool a0_1, .int .u64 a0_2, .int .u64 a0_3, .int .u64 a0_4, .int .u64 a0_5], .agg #[.int .u64 x108000_2, .int .u64 x108001_2, .int .u64 x108002_2, .bool x108003_2], .int .u64 ((rd_T28 l1 x8_2).f0), .int .i64 0, .int .i64 0] (by rfl) rfl rfl (by (try simp only [List.map_toArray, List.map_cons, List.map_nil]); first | done | rfl | (simp only [List.length_drop, List.length_take]; rfl)) ?_
           with_reducible refine (double_Stepd.calls a0_0 a0_1 a0_2 a0_3 a0_4 a0_5 x108000_2 x108001_2 x108002_2 x108003_2 ((rd_T28 l1 x8_2).f0) 0 0 t113 t114 t115 t116 t117 _ A24.out).mono ?_
           rintro e w29 ⟨rfl, hb⟩
           refine ⟨_, rfl, ?_⟩
           have n0_ := zq3 (zq10 (g := gb101) (o := .cells #[.int .i64 a0_0, .bool a0_1, .int .u64 a0_2, .int .u64 a0_3, .int .u64 a0_4, .int .u64 a0_5] 24 (0, 0)) (by (with_reducible repeat (first | refine zq0 ?_ _ | refine zq2 ?_ | refine zq1 ?_ _)); exact BK101.out) hb)
           have n1_ := zq3 (zq10 (g := gb107) (o := .cells #[.int .u64 x108000_2, .int .u64 x108001_2, .int .u64 x108002_2, .bool x108003_2] 26 (0, 0)) (by (with_reducible repeat (first | refine zq0 ?_ _ | refine zq2 ?_ | refine zq1 ?_ _)); exact BK107.out) hb)
           have n2_ := zq3 (zq10 (g := gb109) (o := .cells #[.int .u64 t102, .int .u64 t103, .int .u64 t104, .bool t105] 26 (0, 0)) (by (with_reducible repeat (first | refine zq0 ?_ _ | refine zq2 ?_ | refine zq1 ?_ _)); exact BK109.out) hb)
           have n3_ := zq3 (below_step (by repeat (first | (with_reducible first | exact HB.out | apply zq9 | apply zq7 | apply zq8 | refine zq6 ?_ GE101.out | refine zq6 ?_ GE107.out | refine zq6 ?_ GE109.out) | exact HB.out)) hb)
           clear BK101
           clear BK107
           clear BK109
           clear HB
           have BK101 := n0_
           have BK107 := n1_
           have BK109 := n2_
           have HB := n3_
           clear n0_ n1_ n2_ n3_
           (try clear hb)
           (try clear hb2)
           (try clear hk)
           (try clear hi)
           refine hK.out _ _ ⟨(zq5 BK101.out 0).trans rfl, (zq5 BK101.out 1).trans rfl, (zq5 BK101.out 2).trans rfl, (zq5 BK101.out 3).trans rfl, (zq5 BK101.out 4).trans rfl, (zq5 BK101.out 5).trans rfl, (zq5 BK107.out 0).trans rfl, (zq5 BK107.out 1).trans rfl, (zq5 BK107.out 2).trans rfl, (zq5 BK107.out 3).trans rfl, ((HB.out.cell (World.block_lt_of_cell? w _ hw112_0)).trans hw112_0), ((HB.out.cell (World.block_lt_of_cell? w _ hw112_1)).trans hw112_1), ((HB.out.cell (World.block_lt_of_cell? w _ hw112_2)).trans hw112_2)⟩ (fun hHeld => ?_)
           clear hK K
           refine norm_ (a' := ?_) ?_ ?_
           rotate_left
           ·
            show Act.put _ (some 53) _ = _
            simp only [Act.put, List.setIfInBounds_toArray, List.set_cons_zero, List.set_cons_succ, i64_w, i32_w]
            rfl
           refine pure_ (i := 8) (N := some 45) (v := ?_) (a' := ?_) #[true, true, true, true, true, true, true, true, true, false, false, false, false, false] rfl rfl (any_of HT_.out (by kernel_rfl)) (fun _ _ _ h => h) (Or.inl ⟨by rfl, ?_⟩) ?_ ?_
           rotate_left
           ·
            intro w'
            go_simp
            with_reducible rfl
           rotate_left
           ·
            simp only [Act.put, List.setIfInBounds_toArray, List.set_cons_zero, List.set_cons_succ, i64_w, i32_w]
            rfl
           refine pure_ (i := 9) (N := some 54) (v := ?_) (a' := ?_) #[true, true, true, true, true, true, true, true, true, true, false, false, false, false] rfl rfl (any_of HT_.out (by kernel_rfl)) (fun _ _ _ h => h) (Or.inl ⟨by rfl, ?_⟩) ?_ ?_
           rotate_left
           ·
            intro w'
            go_simp
            with_reducible rfl
           rotate_left
           ·
            simp only [Act.put, List.setIfInBounds_toArray, List.set_cons_zero, List.set_cons_succ, i64_w, i32_w]
            rfl
           refine pure_ (i := 10) (N := some 55) (v := ?_) (a' := ?_) #[true, true, true, true, true, true, true, true, true, true, true, false, false, false] rfl rfl (any_of HT_.out (by kernel_rfl)) (fun _ _ _ h => h) (Or.inl ⟨by rfl, ?_⟩) ?_ ?_
           rotate_left
           ·
            intro w'
            go_simp
            with_reducible rfl
           rotate_left
           ·
            simp only [Act.put, List.setIfInBounds_toArray, List.set_cons_zero, List.set_cons_succ, i64_w, i32_w]
            rfl
           refine one_ (i := 11) (N := some 10) #[true, true, true, true, true, true, true, true, true, true, true, true, false, false] rfl rfl (one_of HT_.out (by kernel_rfl)) (by decide) (fun K hK => ?_)
           refine box_step ?hg (N := 10) ?hd (cs := #[.int .u64 0, .int .u64 0, .int .u64 0, .bool false]) (t := 26) ?hr ?_; (case hd => rfl); (case hg => rfl); (case hr => first | (go_simp; done) | (go_simp; rfl))
           intro gb118 hg w30 hbox hb
           have n0_ := zq3 (zq10 (g := gb101) (o := .cells #[.int .i64 a0_0, .bool a0_1, .int .u64 a0_2, .int .u64 a0_3, .int .u64 a0_4, .int .u64 a0_5] 24 (0, 0)) (by (with_reducible repeat (first | refine zq0 ?_ _ | refine zq2 ?_ | refine zq1 ?_ _)); exact BK101.out) hb)
           have n1_ := zq3 (zq10 (g := gb107) (o := .cells #[.int .u64 x108000_2, .int .u64 x108001_2, .int .u64 x108002_2, .bool x108003_2] 26 (0, 0)) (by (with_reducible repeat (first | refine zq0 ?_ _ | refine zq2 ?_ | refine zq1 ?_ _)); exact BK107.out) hb)
           have n2_ := zq3 (zq10 (g := gb109) (o := .cells #[.int .u64 t102, .int .u64 t103, .int .u64 t104, .bool t105] 26 (0, 0)) (by (with_reducible repeat (first | refine zq0 ?_ _ | refine zq2 ?_ | refine zq1 ?_ _)); exact BK109.out) hb)
           have n3_ := zq3 (below_step (by repeat (first | (with_reducible first | exact HB.out | apply zq9 | apply zq7 | apply zq8 | refine zq6 ?_ GE101.out | refine zq6 ?_ GE107.out | refine zq6 ?_ GE109.out) | exact HB.out)) hb)
           have n4_ := zq3 (hbox)
           have n5_ := zq3 ((by rw [hg]; exact (below_size (by repeat (first | (with_reducible first | exact HB.out | apply zq9 | apply zq7 | apply zq8 | refine zq6 ?_ GE101.out | refine zq6 ?_ GE107.out | refine zq6 ?_ GE109.out) | exact HB.out))) : w.heap.size ≤ gb118))
           have n6_ := zq3 ((by rw [hg]; exact (below_size (by repeat (first | (with_reducible first | exact HB.out | apply zq9 | apply zq7 | apply zq8 | refine zq6 ?_ GE101.out | refine zq6 ?_ GE107.out | refine zq6 ?_ GE109.out) | exact HB.out))) : w.heap.size ≤ gb118))
           have n7_ := zq3 ((by rw [hg]; exact Nat.ne_of_lt (blk_lt (g := gb101) (o := .cells #[.int .i64 a0_0, .bool a0_1, .int .u64 a0_2, .int .u64 a0_3, .int .u64 a0_4, .int .u64 a0_5] 24 (0, 0)) (by (with_reducible repeat (first | refine zq0 ?_ _ | refine zq2 ?_ | refine zq1 ?_ _)); exact BK101.out)) : gb101 ≠ gb118))
           have n8_ := zq3 ((by rw [hg]; exact Nat.ne_of_gt (blk_lt (g := gb101) (o := .cells #[.int .i64 a0_0, .bool a0_1, .int .u64 a0_2, .int .u64 a0_3, .int .u64 a0_4, .int .u64 a0_5] 24 (0, 0)) (by (with_reducible repeat (first | refine zq0 ?_ _ | refine zq2 ?_ | refine zq1 ?_ _)); exact BK101.out)) : gb118 ≠ gb101))
           have n9_ := zq3 ((by rw [hg]; exact Nat.ne_of_lt (blk_lt (g := gb107) (o := .cells #[.int .u64 x108000_2, .int .u64 x108001_2, .int .u64 x108002_2, .bool x108003_2] 26 (0, 0)) (by (with_reducible repeat (first | refine zq0 ?_ _ | refine zq2 ?_ | refine zq1 ?_ _)); exact BK107.out)) : gb107 ≠ gb118))
           have n10_ := zq3 ((by rw [hg]; exact Nat.ne_of_gt (blk_lt (g := gb107) (o := .cells #[.int .u64 x108000_2, .int .u64 x108001_2, .int .u64 x108002_2, .bool x108003_2] 26 (0, 0)) (by (with_reducible repeat (first | refine zq0 ?_ _ | refine zq2 ?_ | refine zq1 ?_ _)); exact BK107.out)) : gb118 ≠ gb107))
           have n11_ := zq3 ((by rw [hg]; exact Nat.ne_of_lt (blk_lt (g := gb109) (o := .cells #[.int .u64 t102, .int .u64 t103, .int .u64 t104, .bool t105] 26 (0, 0)) (by (with_reducible repeat (first | refine zq0 ?_ _ | refine zq2 ?_ | refine zq1 ?_ _)); exact BK109.out)) : gb109 ≠ gb118))
           have n12_ := zq3 ((by rw [hg]; exact Nat.ne_of_gt (blk_lt (g := gb109) (o := .cells #[.int .u64 t102, .int .u64 t103, .int .u64 t104, .bool t105] 26 (0, 0)) (by (with_reducible repeat (first | refine zq0 ?_ _ | refine zq2 ?_ | refine zq1 ?_ _)); exact BK109.out)) : gb118 ≠ gb109))
           clear BK101
           clear BK107
           clear BK109
           clear HB
           have BK101 := n0_
           have BK107 := n1_
           have BK109 := n2_
           have HB := n3_
           have BK118 := n4_
           have GW118 := n5_
           have GE118 := n6_
           have NB101_118 := n7_
           have NB118_101 := n8_
           have NB107_118 := n9_
           have NB118_107 := n10_
           have NB109_118 := n11_
           have NB118_109 := n12_
           clear n0_ n1_ n2_ n3_ n4_ n5_ n6_ n7_ n8_ n9_ n10_ n11_ n12_
           clear hb hbox hg
           refine hK.out _ _ ⟨(zq5 BK101.out 0).trans rfl, (zq5 BK101.out 1).trans rfl, (zq5 BK101.out 2).trans rfl, (zq5 BK101.out 3).trans rfl, (zq5 BK101.out 4).trans rfl, (zq5 BK101.out 5).trans rfl, (zq5 BK107.out 0).trans rfl, (zq5 BK107.out 1).trans rfl, (zq5 BK107.out 2).trans rfl, (zq5 BK107.out 3).trans rfl, ((HB.out.cell (World.block_lt_of_cell? w _ hw112_0)).trans hw112_0), ((HB.out.cell (World.block_lt_of_cell? w _ hw112_1)).trans hw112_1), ((HB.out.cell (World.block_lt_of_cell? w _ hw112_2)).trans hw112_2)⟩ (fun hHeld => ?_)
           clear hK K
           refine norm_ (a' := ?_) ?_ ?_
           rotate_left
           ·
            show Act.put _ (some 10) _ = _
            simp only [Act.put, List.setIfInBounds_toArray, List.set_cons_zero, List.set_cons_succ, i64_w, i32_w]
            rfl
           exact norm_ (by simp only [putAll, Act.put, List.setIfInBounds_toArray, List.set_cons_zero, List.set_cons_succ]) (hCont (gb118) _ ⟨hHeld, (by (with_reducible repeat (first | refine zq0 ?_ _ | refine zq2 ?_ | refine zq1 ?_ _)); exact BK101.out), (by (with_reducible repeat (first | refine zq0 ?_ _ | refine zq2 ?_ | refine zq1 ?_ _)); exact BK107.out), (by (with_reducible repeat (first | refine zq0 ?_ _ | refine zq2 ?_ | refine zq1 ?_ _)); exact BK109.out), (by (with_reducible repeat (first | refine zq0 ?_ _ | refine zq2 ?_ | refine zq1 ?_ _)); exact BK118.out), GW118.out, GE118.out, NB101_118.out, NB118_101.out, NB107_118.out, NB118_107.out, NB109_118.out, NB118_109.out, (by repeat (first | (with_reducible first | exact HB.out | apply zq9 | apply zq7 | apply zq8 | refine zq6 ?_ GE101.out | refine zq6 ?_ GE107.out | refine zq6 ?_ GE109.out | refine zq6 ?_ GE118.out) | exact HB.out))⟩)
          ·
           skip
           refine box_step ?hg (N := 10) ?hd (cs := #[.int .u64 0, .int .u64 0, .int .u64 0, .bool false]) (t := 26) ?hr ?_; (case hd => rfl); (case hg => rfl); (case hr => first | (go_simp; done) | (go_simp; rfl))
           intro gb118 hg w29 hbox hb
           have n0_ := zq3 (zq10 (g := gb101) (o := .cells #[.int .i64 a0_0, .bool a0_1, .int .u64 a0_2, .int .u64 a0_3, .int .u64 a0_4, .int .u64 a0_5] 24 (0, 0)) (by (with_reducible repeat (first | refine zq0 ?_ _ | refine zq2 ?_ | refine zq1 ?_ _)); exact BK101.out) hb)
           have n1_ := zq3 (zq10 (g := gb107) (o := .cells #[.int .u64 x108000_2, .int .u64 x108001_2, .int .u64 x108002_2, .bool x108003_2] 26 (0, 0)) (by (with_reducible repeat (first | refine zq0 ?_ _ | refine zq2 ?_ | refine zq1 ?_ _)); exact BK107.out) hb)
           have n2_ := zq3 (zq10 (g := gb109) (o := .cells #[.int .u64 t102, .int .u64 t103, .int .u64 t104, .bool t105] 26 (0, 0)) (by (with_reducible repeat (first | refine zq0 ?_ _ | refine zq2 ?_ | refine zq1 ?_ _)); exact BK109.out) hb)
           have n3_ := zq3 (below_step (by repeat (first | (with_reducible first | exact HB.out | apply zq9 | apply zq7 | apply zq8 | refine zq6 ?_ GE101.out | refine zq6 ?_ GE107.out | refine zq6 ?_ GE109.out) | exact HB.out)) hb)
           have n4_ := zq3 (hbox)
           have n5_ := zq3 ((by rw [hg]; exact (below_size (by repeat (first | (with_reducible first | exact HB.out | apply zq9 | apply zq7 | apply zq8 | refine zq6 ?_ GE101.out | refine zq6 ?_ GE107.out | refine zq6 ?_ GE109.out) | exact HB.out))) : w.heap.size ≤ gb118))
           have n6_ := zq3 ((by rw [hg]; exact (below_size (by repeat (first | (with_reducible first | exact HB.out | apply zq9 | apply zq7 | apply zq8 | refine zq6 ?_ GE101.out | refine zq6 ?_ GE107.out | refine zq6 ?_ GE109.out) | exact HB.out))) : w.heap.size ≤ gb118))
           have n7_ := zq3 ((by rw [hg]; exact Nat.ne_of_lt (blk_lt (g := gb101) (o := .cells #[.int .i64 a0_0, .bool a0_1, .int .u64 a0_2, .int .u64 a0_3, .int .u64 a0_4, .int .u64 a0_5] 24 (0, 0)) (by (with_reducible repeat (first | refine zq0 ?_ _ | refine zq2 ?_ | refine zq1 ?_ _)); exact BK101.out)) : gb101 ≠ gb118))
           have n8_ := zq3 ((by rw [hg]; exact Nat.ne_of_gt (blk_lt (g := gb101) (o := .cells #[.int .i64 a0_0, .bool a0_1, .int .u64 a0_2, .int .u64 a0_3, .int .u64 a0_4, .int .u64 a0_5] 24 (0, 0)) (by (with_reducible repeat (first | refine zq0 ?_ _ | refine zq2 ?_ | refine zq1 ?_ _)); exact BK101.out)) : gb118 ≠ gb101))
           have n9_ := zq3 ((by rw [hg]; exact Nat.ne_of_lt (blk_lt (g := gb107) (o := .cells #[.int .u64 x108000_2, .int .u64 x108001_2, .int .u64 x108002_2, .bool x108003_2] 26 (0, 0)) (by (with_reducible repeat (first | refine zq0 ?_ _ | refine zq2 ?_ | refine zq1 ?_ _)); exact BK107.out)) : gb107 ≠ gb118))
           have n10_ := zq3 ((by rw [hg]; exact Nat.ne_of_gt (blk_lt (g := gb107) (o := .cells #[.int .u64 x108000_2, .int .u64 x108001_2, .int .u64 x108002_2, .bool x108003_2] 26 (0, 0)) (by (with_reducible repeat (first | refine zq0 ?_ _ | refine zq2 ?_ | refine zq1 ?_ _)); exact BK107.out)) : gb118 ≠ gb107))
           have n11_ := zq3 ((by rw [hg]; exact Nat.ne_of_lt (blk_lt (g := gb109) (o := .cells #[.int .u64 t102, .int .u64 t103, .int .u64 t104, .bool t105] 26 (0, 0)) (by (with_reducible repeat (first | refine zq0 ?_ _ | refine zq2 ?_ | refine zq1 ?_ _)); exact BK109.out)) : gb109 ≠ gb118))
           have n12_ := zq3 ((by rw [hg]; exact Nat.ne_of_gt (blk_lt (g := gb109) (o := .cells #[.int .u64 t102, .int .u64 t103, .int .u64 t104, .bool t105] 26 (0, 0)) (by (with_reducible repeat (first | refine zq0 ?_ _ | refine zq2 ?_ | refine zq1 ?_ _)); exact BK109.out)) : gb118 ≠ gb109))
           clear BK101
           clear BK107
           clear BK109
           clear HB
           have BK101 := n0_
           have BK107 := n1_
           have BK109 := n2_
           have HB := n3_
           have BK118 := n4_
           have GW118 := n5_
           have GE118 := n6_
           have NB101_118 := n7_
           have NB118_101 := n8_
           have NB107_118 := n9_
           have NB118_107 := n10_
           have NB109_118 := n11_
           have NB118_109 := n12_
           clear n0_ n1_ n2_ n3_ n4_ n5_ n6_ n7_ n8_ n9_ n10_ n11_ n12_
           clear hb hbox hg
           refine hK.out _ _ ⟨(zq5 BK101.out 0).trans rfl, (zq5 BK101.out 1).trans rfl, (zq5 BK101.out 2).trans rfl, (zq5 BK101.out 3).trans rfl, (zq5 BK101.out 4).trans rfl, (zq5 BK101.out 5).trans rfl, (zq5 BK107.out 0).trans rfl, (zq5 BK107.out 1).trans rfl, (zq5 BK107.out 2).trans rfl, (zq5 BK107.out 3).trans rfl, ((HB.out.cell (World.block_lt_of_cell? w _ hw112_0)).trans hw112_0), ((HB.out.cell (World.block_lt_of_cell? w _ hw112_1)).trans hw112_1), ((HB.out.cell (World.block_lt_of_cell? w _ hw112_2)).trans hw112_2)⟩ (fun hHeld => ?_)
           clear hK K
           refine norm_ (a' := ?_) ?_ ?_
           rotate_left
           ·
            show Act.put _ (some 10) _ = _
            simp only [Act.put, List.setIfInBounds_toArray, List.set_cons_zero, List.set_cons_succ, i64_w, i32_w]
            rfl
           refine one_ (i := 7) (N := some 53) #[true, true, true, true, true, true, true, true, false, false, false, true, false, false] rfl rfl (one_of HT_.out (by kernel_rfl)) (by decide) (fun K hK => ?_)
           refine goes_ Try.func14 (by kernel_rfl) rfl #[.agg #[.int .i64 a0_0, .bool a0_1, .int .u64 a0_2, .int .u64 a0_3, .int .u64 a0_4, .int .u64 a0_5], .agg #[.int .u64 x108000_2, .int .u64 x108001_2, .int .u64 x108002_2, .bool x108003_2], .int .u64 ((rd_T28 l1 x8_2).f0), .int .i64 0, .int .i64 0] (by rfl) rfl rfl (by (try simp only [List.map_toArray, List.map_cons, List.map_nil]); first | done | rfl | (simp only [List.length_drop, List.length_take]; rfl)) ?_
           with_reducible refine (double_Stepd.calls a0_0 a0_1 a0_2 a0_3 a0_4 a0_5 x108000_2 x108001_2 x108002_2 x108003_2 ((rd_T28 l1 x8_2).f0) 0 0 t113 t114 t115 t116 t117 _ A24.out).mono ?_
           rintro e w30 ⟨rfl, hb⟩
           refine ⟨_, rfl, ?_⟩
           have n0_ := zq3 (zq10 (g := gb101) (o := .cells #[.int .i64 a0_0, .bool a0_1, .int .u64 a0_2, .int .u64 a0_3, .int .u64 a0_4, .int .u64 a0_5] 24 (0, 0)) (by (with_reducible repeat (first | refine zq0 ?_ _ | refine zq2 ?_ | refine zq1 ?_ _)); exact BK101.out) hb)
           have n1_ := zq3 (zq10 (g := gb107) (o := .cells #[.int .u64 x108000_2, .int .u64 x108001_2, .int .u64 x108002_2, .bool x108003_2] 26 (0, 0)) (by (with_reducible repeat (first | refine zq0 ?_ _ | refine zq2 ?_ | refine zq1 ?_ _)); exact BK107.out) hb)
           have n2_ := zq3 (zq10 (g := gb109) (o := .cells #[.int .u64 t102, .int .u64 t103, .int .u64 t104, .bool t105] 26 (0, 0)) (by (with_reducible repeat (first | refine zq0 ?_ _ | refine zq2 ?_ | refine zq1 ?_ _)); exact BK109.out) hb)
           have n3_ := zq3 (zq10 (g := gb118) (o := .cells #[.int .u64 0, .int .u64 0, .int .u64 0, .bool false] 26 (0, 0)) (by (with_reducible repeat (first | refine zq0 ?_ _ | refine zq2 ?_ | refine zq1 ?_ _)); exact BK118.out) hb)
           have n4_ := zq3 (below_step (by repeat (first | (with_reducible first | exact HB.out | apply zq9 | apply zq7 | apply zq8 | refine zq6 ?_ GE101.out | refine zq6 ?_ GE107.out | refine zq6 ?_ GE109.out | refine zq6 ?_ GE118.out) | exact HB.out)) hb)
           clear BK101
           clear BK107
           clear BK109
           clear BK118
           clear HB
           have BK101 := n0_
           have BK107 := n1_
           have BK109 := n2_
           have BK118 := n3_
           have HB := n4_
           clear n0_ n1_ n2_ n3_ n4_
           (try clear hb)
           (try clear hb2)
           (try clear hk)
           (try clear hi)
           refine hK.out _ _ ⟨(zq5 BK101.out 0).trans rfl, (zq5 BK101.out 1).trans rfl, (zq5 BK101.out 2).trans rfl, (zq5 BK101.out 3).trans rfl, (zq5 BK101.out 4).trans rfl, (zq5 BK101.out 5).trans rfl, (zq5 BK107.out 0).trans rfl, (zq5 BK107.out 1).trans rfl, (zq5 BK107.out 2).trans rfl, (zq5 BK107.out 3).trans rfl, ((HB.out.cell (World.block_lt_of_cell? w _ hw112_0)).trans hw112_0), ((HB.out.cell (World.block_lt_of_cell? w _ hw112_1)).trans hw112_1), ((HB.out.cell (World.block_lt_of_cell? w _ hw112_2)).trans hw112_2)⟩ (fun hHeld => ?_)
           clear hK K
           refine norm_ (a' := ?_) ?_ ?_
           rotate_left
           ·
            show Act.put _ (some 53) _ = _
            simp only [Act.put, List.setIfInBounds_toArray, List.set_cons_zero, List.set_cons_succ, i64_w, i32_w]
            rfl
           refine pure_ (i := 8) (N := some 45) (v := ?_) (a' := ?_) #[true, true, true, true, true, true, true, true, true, false, false, true, false, false] rfl rfl (any_of HT_.out (by kernel_rfl)) (fun _ _ _ h => h) (Or.inl ⟨by rfl, ?_⟩) ?_ ?_
           rotate_left
           ·
            intro w'
            go_simp
            with_reducible rfl
           rotate_left
           ·
            simp only [Act.put, List.setIfInBounds_toArray, List.set_cons_zero, List.set_cons_succ, i64_w, i32_w]
            rfl
           refine pure_ (i := 9) (N := some 54) (v := ?_) (a' := ?_) #[true, true, true, true, true, true, true, true, true, true, false, true, false, false] rfl rfl (any_of HT_.out (by kernel_rfl)) (fun _ _ _ h => h) (Or.inl ⟨by rfl, ?_⟩) ?_ ?_
           rotate_left
           ·
            intro w'
            go_simp
            with_reducible rfl
           rotate_left
           ·
            simp only [Act.put, List.setIfInBounds_toArray, List.set_cons_zero, List.set_cons_succ, i64_w, i32_w]
            rfl
           refine pure_ (i := 10) (N := some 55) (v := ?_) (a' := ?_) #[true, true, true, true, true, true, true, true, true, true, true, true, false, false] rfl rfl (any_of HT_.out (by kernel_rfl)) (fun _ _ _ h => h) (Or.inl ⟨by rfl, ?_⟩) ?_ ?_
           rotate_left
           ·
            intro w'
            go_simp
            with_reducible rfl
           rotate_left
           ·
            simp only [Act.put, List.setIfInBounds_toArray, List.set_cons_zero, List.set_cons_succ, i64_w, i32_w]
            rfl
           exact norm_ (by simp only [putAll, Act.put, List.setIfInBounds_toArray, List.set_cons_zero, List.set_cons_succ]) (hCont (gb118) _ ⟨hHeld, (by (with_reducible repeat (first | refine zq0 ?_ _ | refine zq2 ?_ | refine zq1 ?_ _)); exact BK101.out), (by (with_reducible repeat (first | refine zq0 ?_ _ | refine zq2 ?_ | refine zq1 ?_ _)); exact BK107.out), (by (with_reducible repeat (first | refine zq0 ?_ _ | refine zq2 ?_ | refine zq1 ?_ _)); exact BK109.out), (by (with_reducible repeat (first | refine zq0 ?_ _ | refine zq2 ?_ | refine zq1 ?_ _)); exact BK118.out), GW118.out, GE118.out, NB101_118.out, NB118_101.out, NB107_118.out, NB118_107.out, NB109_118.out, NB118_109.out, (by repeat (first | (with_reducible first | exact HB.out | apply zq9 | apply zq7 | apply zq8 | refine zq6 ?_ GE101.out | refine zq6 ?_ GE107.out | refine zq6 ?_ GE109.out | refine zq6 ?_ GE118.out) | exact HB.out))⟩)
         rintro gb118 w31 ⟨hS_, h0_, h1_, h2_, h3_, h4_, h5_, h6_, h7_, h8_, h9_, h10_, h11_, h12_⟩
         have n0_ : Aside0 (w31.heap[gb101]? = some (.cells #[.int .i64 a0_0, .bool a0_1, .int .u64 a0_2, .int .u64 a0_3, .int .u64 a0_4, .int .u64 a0_5] 24 (0, 0))) := ⟨h0_⟩
         have n1_ : Aside0 (w31.heap[gb107]? = some (.cells #[.int .u64 x108000_2, .int .u64 x108001_2, .int .u64 x108002_2, .bool x108003_2] 26 (0, 0))) := ⟨h1_⟩
         have n2_ : Aside0 (w31.heap[gb109]? = some (.cells #[.int .u64 t102, .int .u64 t103, .int .u64 t104, .bool t105] 26 (0, 0))) := ⟨h2_⟩
         have n3_ : Aside0 (w31.heap[gb118]? = some (.cells #[.int .u64 0, .int .u64 0, .int .u64 0, .bool false] 26 (0, 0))) := ⟨h3_⟩
         have n4_ : Aside0 (w.heap.size ≤ gb118) := ⟨h4_⟩
         have n5_ : Aside0 (w.heap.size ≤ gb118) := ⟨h5_⟩
         have n6_ : Aside0 (gb101 ≠ gb118) := ⟨h6_⟩
         have n7_ : Aside0 (gb118 ≠ gb101) := ⟨h7_⟩
         have n8_ : Aside0 (gb107 ≠ gb118) := ⟨h8_⟩
         have n9_ : Aside0 (gb118 ≠ gb107) := ⟨h9_⟩
         have n10_ : Aside0 (gb109 ≠ gb118) := ⟨h10_⟩
         have n11_ : Aside0 (gb118 ≠ gb109) := ⟨h11_⟩
         have n12_ : Aside0 (Below w.heap.size w w31) := ⟨h12_⟩
         clear BK101
         clear BK107
         clear BK109
         clear HB
         clear h0_ h1_ h2_ h3_ h4_ h5_ h6_ h7_ h8_ h9_ h10_ h11_ h12_
         have BK101 := n0_
         have BK107 := n1_
         have BK109 := n2_
         have BK118 := n3_
         have GW118 := n4_
         have GE118 := n5_
         have NB101_118 := n6_
         have NB118_101 := n7_
         have NB107_118 := n8_
         have NB118_107 := n9_
         have NB109_118 := n10_
         have NB118_109 := n11_
         have HB := n12_
         clear n0_ n1_ n2_ n3_ n4_ n5_ n6_ n7_ n8_ n9_ n10_ n11_ n12_
         have hHeld : w31.cell? ⟨gb101, 0, none⟩ = some (.int .i64 a0_0) ∧ w31.cell? ⟨gb101, 1, none⟩ = some (.bool a0_1) ∧ w31.cell? ⟨gb101, 2, none⟩ = some (.int .u64 a0_2) ∧ w31.cell? ⟨gb101, 3, none⟩ = some (.int .u64 a0_3) ∧ w31.cell? ⟨gb101, 4, none⟩ = some (.int .u64 a0_4) ∧ w31.cell? ⟨gb101, 5, none⟩ = some (.int .u64 a0_5) ∧ w31.cell? ⟨gb107, 0, none⟩ = some (.int .u64 x108000_2) ∧ w31.cell? ⟨gb107, 1, none⟩ = some (.int .u64 x108001_2) ∧ w31.cell? ⟨gb107, 2, none⟩ = some (.int .u64 x108002_2) ∧ w31.cell? ⟨gb107, 3, none⟩ = some (.bool x108003_2) ∧ w31.cell? (ad111.add ((x8_2).toNat * 3)) = some (.int .u64 ((rd_T28 l1 x8_2).f0)) ∧ w31.cell? ⟨(ad111.add ((x8_2).toNat * 3)).block, (ad111.add ((x8_2).toNat * 3)).off + 1, none⟩ = some (.int .i64 ((rd_T28 l1 x8_2).f1)) ∧ w31.cell? ⟨(ad111.add ((x8_2).toNat * 3)).block, (ad111.add ((x8_2).toNat * 3)).off + 2, none⟩ = some (.int .i64 ((rd_T28 l1 x8_2).f2)) := hS_
         refine norm_ (a' := ?_) ?_ ?_
         rotate_left
         ·
          simp only [putAll, Act.put, List.setIfInBounds_toArray, List.set_cons_zero, List.set_cons_succ]
          rfl
         refine one_ (i := 12) (N := none) #[true, true, true, true, true, true, true, true, true, true, true, true, true, false] rfl rfl (one_of HT_.out (by kernel_rfl)) (by decide) (fun K hK => ?_)
         have hs32 : w31.cell? ⟨gb118, 0, none⟩ = some (.int .u64 0) := (zq5 BK118.out 0).trans rfl
         have hfs32 := zq4 BK118.out 0
         have hns32_0 := NB101_118.out
         have hns32_1 := NB107_118.out
         have hns32_2 := NB109_118.out
         have hms32_0 := NB118_101.out
         have hms32_1 := NB118_107.out
         have hms32_2 := NB118_109.out
         have hs33 : w31.cell? ⟨gb118, 1, none⟩ = some (.int .u64 0) := (zq5 BK118.out 1).trans rfl
         have hfs33 := zq4 BK118.out 1
         have hns33_0 := NB101_118.out
         have hns33_1 := NB107_118.out
         have hns33_2 := NB109_118.out
         have hms33_0 := NB118_101.out
         have hms33_1 := NB118_107.out
         have hms33_2 := NB118_109.out
         have hs34 : w31.cell? ⟨gb118, 2, none⟩ = some (.int .u64 0) := (zq5 BK118.out 2).trans rfl
         have hfs34 := zq4 BK118.out 2
         have hns34_0 := NB101_118.out
         have hns34_1 := NB107_118.out
         have hns34_2 := NB109_118.out
         have hms34_0 := NB118_101.out
         have hms34_1 := NB118_107.out
         have hms34_2 := NB118_109.out
         have hs35 : w31.cell? ⟨gb118, 3, none⟩ = some (.bool false) := (zq5 BK118.out 3).trans rfl
         have hfs35 := zq4 BK118.out 3
         have hns35_0 := NB101_118.out
         have hns35_1 := NB107_118.out
         have hns35_2 := NB109_118.out
         have hms35_0 := NB118_101.out
         have hms35_1 := NB118_107.out
         have hms35_2 := NB118_109.out
         refine skip_ (w1 := ?_) (by rfl) rfl ?_ ?_
         rotate_left
         ·
          go_simp
          rfl
         refine hK.out _ _ ⟨((cell_far (p := ⟨gb118, _, none⟩) NB101_118.out _).trans (((cell_far (p := ⟨gb118, _, none⟩) NB101_118.out _).trans (((cell_far (p := ⟨gb118, _, none⟩) NB101_118.out _).trans (((cell_far (p := ⟨gb118, _, none⟩) NB101_118.out _).trans (hHeld.1)))))))), ((cell_far (p := ⟨gb118, _, none⟩) NB101_118.out _).trans (((cell_far (p := ⟨gb118, _, none⟩) NB101_118.out _).trans (((cell_far (p := ⟨gb118, _, none⟩) NB101_118.out _).trans (((cell_far (p := ⟨gb118, _, none⟩) NB101_118.out _).trans (hHeld.2.1)))))))), ((cell_far (p := ⟨gb118, _, none⟩) NB101_118.out _).trans (((cell_far (p := ⟨gb118, _, none⟩) NB101_118.out _).trans (((cell_far (p := ⟨gb118, _, none⟩) NB101_118.out _).trans (((cell_far (p := ⟨gb118, _, none⟩) NB101_118.out _).trans (hHeld.2.2.1)))))))), ((cell_far (p := ⟨gb118, _, none⟩) NB101_118.out _).trans (((cell_far (p := ⟨gb118, _, none⟩) NB101_118.out _).trans (((cell_far (p := ⟨gb118, _, none⟩) NB101_118.out _).trans (((cell_far (p := ⟨gb118, _, none⟩) NB101_118.out _).trans (hHeld.2.2.2.1)))))))), ((cell_far (p := ⟨gb118, _, none⟩) NB101_118.out _).trans (((cell_far (p := ⟨gb118, _, none⟩) NB101_118.out _).trans (((cell_far (p := ⟨gb118, _, none⟩) NB101_118.out _).trans (((cell_far (p := ⟨gb118, _, none⟩) NB101_118.out _).trans (hHeld.2.2.2.2.1)))))))), ((cell_far (p := ⟨gb118, _, none⟩) NB101_118.out _).trans (((cell_far (p := ⟨gb118, _, none⟩) NB101_118.out _).trans (((cell_far (p := ⟨gb118, _, none⟩) NB101_118.out _).trans (((cell_far (p := ⟨gb118, _, none⟩) NB101_118.out _).trans (hHeld.2.2.2.2.2.1)))))))), ((cell_far (p := ⟨gb118, _, none⟩) NB107_118.out _).trans (((cell_far (p := ⟨gb118, _, none⟩) NB107_118.out _).trans (((cell_far (p := ⟨gb118, _, none⟩) NB107_118.out _).trans (((cell_far (p := ⟨gb118, _, none⟩) NB107_118.out _).trans (hHeld.2.2.2.2.2.2.1)))))))), ((cell_far (p := ⟨gb118, _, none⟩) NB107_118.out _).trans (((cell_far (p := ⟨gb118, _, none⟩) NB107_118.out _).trans (((cell_far (p := ⟨gb118, _, none⟩) NB107_118.out _).trans (((cell_far (p := ⟨gb118, _, none⟩) NB107_118.out _).trans (hHeld.2.2.2.2.2.2.2.1)))))))), ((cell_far (p := ⟨gb118, _, none⟩) NB107_118.out _).trans (((cell_far (p := ⟨gb118, _, none⟩) NB107_118.out _).trans (((cell_far (p := ⟨gb118, _, none⟩) NB107_118.out _).trans (((cell_far (p := ⟨gb118, _, none⟩) NB107_118.out _).trans (hHeld.2.2.2.2.2.2.2.2.1)))))))), ((cell_far (p := ⟨gb118, _, none⟩) NB107_118.out _).trans (((cell_far (p := ⟨gb118, _, none⟩) NB107_118.out _).trans (((cell_far (p := ⟨gb118, _, none⟩) NB107_118.out _).trans (((cell_far (p := ⟨gb118, _, none⟩) NB107_118.out _).trans (hHeld.2.2.2.2.2.2.2.2.2.1)))))))), ((cell_far (p := ⟨gb118, _, none⟩) (by first | exact Nat.ne_of_lt (Nat.lt_of_lt_of_le (by have := World.block_lt_of_cell? _ _ hw112_0; first | rwa [add_block] at this | exact this) GW118.out) | (rw [add_block]; exact Nat.ne_of_lt (Nat.lt_of_lt_of_le (by have := World.block_lt_of_cell? _ _ hw112_0; first | rwa [add_block] at this | exact this) GW118.out)) | (show (Addr.add _ _).block ≠ _; rw [add_block]; exact Nat.ne_of_lt (Nat.lt_of_lt_of_le (by have := World.block_lt_of_cell? _ _ hw112_0; first | rwa [add_block] at this | exact this) GW118.out)) | (dsimp only; exact Nat.ne_of_lt (Nat.lt_of_lt_of_le (by have := World.block_lt_of_cell? _ _ hw112_0; first | rwa [add_block] at this | exact this) GW118.out))) _).trans (((cell_far (p := ⟨gb118, _, none⟩) (by first | exact Nat.ne_of_lt (Nat.lt_of_lt_of_le (by have := World.block_lt_of_cell? _ _ hw112_0; first | rwa [add_block] at this | exact this) GW118.out) | (rw [add_block]; exact Nat.ne_of_lt (Nat.lt_of_lt_of_le (by have := World.block_lt_of_cell? _ _ hw112_0; first | rwa [add_block] at this | exact this) GW118.out)) | (show (Addr.add _ _).block ≠ _; rw [add_block]; exact Nat.ne_of_lt (Nat.lt_of_lt_of_le (by have := World.block_lt_of_cell? _ _ hw112_0; first | rwa [add_block] at this | exact this) GW118.out)) | (dsimp only; exact Nat.ne_of_lt (Nat.lt_of_lt_of_le (by have := World.block_lt_of_cell? _ _ hw112_0; first | rwa [add_block] at this | exact this) GW118.out))) _).trans (((cell_far (p := ⟨gb118, _, none⟩) (by first | exact Nat.ne_of_lt (Nat.lt_of_lt_of_le (by have := World.block_lt_of_cell? _ _ hw112_0; first | rwa [add_block] at this | exact this) GW118.out) | (rw [add_block]; exact Nat.ne_of_lt (Nat.lt_of_lt_of_le (by have := World.block_lt_of_cell? _ _ hw112_0; first | rwa [add_block] at this | exact this) GW118.out)) | (show (Addr.add _ _).block ≠ _; rw [add_block]; exact Nat.ne_of_lt (Nat.lt_of_lt_of_le (by have := World.block_lt_of_cell? _ _ hw112_0; first | rwa [add_block] at this | exact this) GW118.out)) | (dsimp only; exact Nat.ne_of_lt (Nat.lt_of_lt_of_le (by have := World.block_lt_of_cell? _ _ hw112_0; first | rwa [add_block] at this | exact this) GW118.out))) _).trans (((cell_far (p := ⟨gb118, _, none⟩) (by first | exact Nat.ne_of_lt (Nat.lt_of_lt_of_le (by have := World.block_lt_of_cell? _ _ hw112_0; first | rwa [add_block] at this | exact this) GW118.out) | (rw [add_block]; exact Nat.ne_of_lt (Nat.lt_of_lt_of_le (by have := World.block_lt_of_cell? _ _ hw112_0; first | rwa [add_block] at this | exact this) GW118.out)) | (show (Addr.add _ _).block ≠ _; rw [add_block]; exact Nat.ne_of_lt (Nat.lt_of_lt_of_le (by have := World.block_lt_of_cell? _ _ hw112_0; first | rwa [add_block] at this | exact this) GW118.out)) | (dsimp only; exact Nat.ne_of_lt (Nat.lt_of_lt_of_le (by have := World.block_lt_of_cell? _ _ hw112_0; first | rwa [add_block] at this | exact this) GW118.out))) _).trans (hHeld.2.2.2.2.2.2.2.2.2.2.1)))))))), ((cell_far (p := ⟨gb118, _, none⟩) (by first | exact Nat.ne_of_lt (Nat.lt_of_lt_of_le (by have := World.block_lt_of_cell? _ _ hw112_1; first | rwa [add_block] at this | exact this) GW118.out) | (rw [add_block]; exact Nat.ne_of_lt (Nat.lt_of_lt_of_le (by have := World.block_lt_of_cell? _ _ hw112_1; first | rwa [add_block] at this | exact this) GW118.out)) | (show (Addr.add _ _).block ≠ _; rw [add_block]; exact Nat.ne_of_lt (Nat.lt_of_lt_of_le (by have := World.block_lt_of_cell? _ _ hw112_1; first | rwa [add_block] at this | exact this) GW118.out)) | (dsimp only; exact Nat.ne_of_lt (Nat.lt_of_lt_of_le (by have := World.block_lt_of_cell? _ _ hw112_1; first | rwa [add_block] at this | exact this) GW118.out))) _).trans (((cell_far (p := ⟨gb118, _, none⟩) (by first | exact Nat.ne_of_lt (Nat.lt_of_lt_of_le (by have := World.block_lt_of_cell? _ _ hw112_1; first | rwa [add_block] at this | exact this) GW118.out) | (rw [add_block]; exact Nat.ne_of_lt (Nat.lt_of_lt_of_le (by have := World.block_lt_of_cell? _ _ hw112_1; first | rwa [add_block] at this | exact this) GW118.out)) | (show (Addr.add _ _).block ≠ _; rw [add_block]; exact Nat.ne_of_lt (Nat.lt_of_lt_of_le (by have := World.block_lt_of_cell? _ _ hw112_1; first | rwa [add_block] at this | exact this) GW118.out)) | (dsimp only; exact Nat.ne_of_lt (Nat.lt_of_lt_of_le (by have := World.block_lt_of_cell? _ _ hw112_1; first | rwa [add_block] at this | exact this) GW118.out))) _).trans (((cell_far (p := ⟨gb118, _, none⟩) (by first | exact Nat.ne_of_lt (Nat.lt_of_lt_of_le (by have := World.block_lt_of_cell? _ _ hw112_1; first | rwa [add_block] at this | exact this) GW118.out) | (rw [add_block]; exact Nat.ne_of_lt (Nat.lt_of_lt_of_le (by have := World.block_lt_of_cell? _ _ hw112_1; first | rwa [add_block] at this | exact this) GW118.out)) | (show (Addr.add _ _).block ≠ _; rw [add_block]; exact Nat.ne_of_lt (Nat.lt_of_lt_of_le (by have := World.block_lt_of_cell? _ _ hw112_1; first | rwa [add_block] at this | exact this) GW118.out)) | (dsimp only; exact Nat.ne_of_lt (Nat.lt_of_lt_of_le (by have := World.block_lt_of_cell? _ _ hw112_1; first | rwa [add_block] at this | exact this) GW118.out))) _).trans (((cell_far (p := ⟨gb118, _, none⟩) (by first | exact Nat.ne_of_lt (Nat.lt_of_lt_of_le (by have := World.block_lt_of_cell? _ _ hw112_1; first | rwa [add_block] at this | exact this) GW118.out) | (rw [add_block]; exact Nat.ne_of_lt (Nat.lt_of_lt_of_le (by have := World.block_lt_of_cell? _ _ hw112_1; first | rwa [add_block] at this | exact this) GW118.out)) | (show (Addr.add _ _).block ≠ _; rw [add_block]; exact Nat.ne_of_lt (Nat.lt_of_lt_of_le (by have := World.block_lt_of_cell? _ _ hw112_1; first | rwa [add_block] at this | exact this) GW118.out)) | (dsimp only; exact Nat.ne_of_lt (Nat.lt_of_lt_of_le (by have := World.block_lt_of_cell? _ _ hw112_1; first | rwa [add_block] at this | exact this) GW118.out))) _).trans (hHeld.2.2.2.2.2.2.2.2.2.2.2.1)))))))), ((cell_far (p := ⟨gb118, _, none⟩) (by first | exact Nat.ne_of_lt (Nat.lt_of_lt_of_le (by have := World.block_lt_of_cell? _ _ hw112_2; first | rwa [add_block] at this | exact this) GW118.out) | (rw [add_block]; exact Nat.ne_of_lt (Nat.lt_of_lt_of_le (by have := World.block_lt_of_cell? _ _ hw112_2; first | rwa [add_block] at this | exact this) GW118.out)) | (show (Addr.add _ _).block ≠ _; rw [add_block]; exact Nat.ne_of_lt (Nat.lt_of_lt_of_le (by have := World.block_lt_of_cell? _ _ hw112_2; first | rwa [add_block] at this | exact this) GW118.out)) | (dsimp only; exact Nat.ne_of_lt (Nat.lt_of_lt_of_le (by have := World.block_lt_of_cell? _ _ hw112_2; first | rwa [add_block] at this | exact this) GW118.out))) _).trans (((cell_far (p := ⟨gb118, _, none⟩) (by first | exact Nat.ne_of_lt (Nat.lt_of_lt_of_le (by have := World.block_lt_of_cell? _ _ hw112_2; first | rwa [add_block] at this | exact this) GW118.out) | (rw [add_block]; exact Nat.ne_of_lt (Nat.lt_of_lt_of_le (by have := World.block_lt_of_cell? _ _ hw112_2; first | rwa [add_block] at this | exact this) GW118.out)) | (show (Addr.add _ _).block ≠ _; rw [add_block]; exact Nat.ne_of_lt (Nat.lt_of_lt_of_le (by have := World.block_lt_of_cell? _ _ hw112_2; first | rwa [add_block] at this | exact this) GW118.out)) | (dsimp only; exact Nat.ne_of_lt (Nat.lt_of_lt_of_le (by have := World.block_lt_of_cell? _ _ hw112_2; first | rwa [add_block] at this | exact this) GW118.out))) _).trans (((cell_far (p := ⟨gb118, _, none⟩) (by first | exact Nat.ne_of_lt (Nat.lt_of_lt_of_le (by have := World.block_lt_of_cell? _ _ hw112_2; first | rwa [add_block] at this | exact this) GW118.out) | (rw [add_block]; exact Nat.ne_of_lt (Nat.lt_of_lt_of_le (by have := World.block_lt_of_cell? _ _ hw112_2; first | rwa [add_block] at this | exact this) GW118.out)) | (show (Addr.add _ _).block ≠ _; rw [add_block]; exact Nat.ne_of_lt (Nat.lt_of_lt_of_le (by have := World.block_lt_of_cell? _ _ hw112_2; first | rwa [add_block] at this | exact this) GW118.out)) | (dsimp only; exact Nat.ne_of_lt (Nat.lt_of_lt_of_le (by have := World.block_lt_of_cell? _ _ hw112_2; first | rwa [add_block] at this | exact this) GW118.out))) _).trans (((cell_far (p := ⟨gb118, _, none⟩) (by first | exact Nat.ne_of_lt (Nat.lt_of_lt_of_le (by have := World.block_lt_of_cell? _ _ hw112_2; first | rwa [add_block] at this | exact this) GW118.out) | (rw [add_block]; exact Nat.ne_of_lt (Nat.lt_of_lt_of_le (by have := World.block_lt_of_cell? _ _ hw112_2; first | rwa [add_block] at this | exact this) GW118.out)) | (show (Addr.add _ _).block ≠ _; rw [add_block]; exact Nat.ne_of_lt (Nat.lt_of_lt_of_le (by have := World.block_lt_of_cell? _ _ hw112_2; first | rwa [add_block] at this | exact this) GW118.out)) | (dsimp only; exact Nat.ne_of_lt (Nat.lt_of_lt_of_le (by have := World.block_lt_of_cell? _ _ hw112_2; first | rwa [add_block] at this | exact this) GW118.out))) _).trans (hHeld.2.2.2.2.2.2.2.2.2.2.2.2))))))))⟩ (fun hHeld => ?_)
         clear hK K
         refine pure_ (i := 13) (N := some 11) (v := ?_) (a' := ?_) #[true, true, true, true, true, true, true, true, true, true, true, true, true, true] rfl rfl (any_of HT_.out (by kernel_rfl)) (fun _ _ _ h => h) (Or.inl ⟨by rfl, ?_⟩) ?_ ?_
         rotate_left
         ·
          intro w'
          go_simp
          with_reducible rfl
         rotate_left
         ·
          simp only [Act.put, List.setIfInBounds_toArray, List.set_cons_zero, List.set_cons_succ, i64_w, i32_w]
          rfl
         refine done_ (done_of HT_.out (by kernel_rfl)) ?_
         try go_wp2
         have n0_ : Aside0 (((((w31.setCell ⟨gb118, 0, none⟩ (.int .u64 t113)).setCell ⟨gb118, 1, none⟩ (.int .u64 t114)).setCell ⟨gb118, 2, none⟩ (.int .u64 t115)).setCell ⟨gb118, 3, none⟩ (.bool t116)).heap[gb101]? = some (.cells #[.int .i64 a0_0, .bool a0_1, .int .u64 a0_2, .int .u64 a0_3, .int .u64 a0_4, .int .u64 a0_5] 24 (0, 0))) := ⟨by (with_reducible repeat (first | refine zq0 ?_ _ | refine zq2 ?_ | refine zq1 ?_ _)); refine zq11 ?_ NB101_118.out _; (with_reducible repeat (first | refine zq0 ?_ _ | refine zq2 ?_ | refine zq1 ?_ _)); refine zq11 ?_ NB101_118.out _; (with_reducible repeat (first | refine zq0 ?_ _ | refine zq2 ?_ | refine zq1 ?_ _)); refine zq11 ?_ NB101_118.out _; (with_reducible repeat (first | refine zq0 ?_ _ | refine zq2 ?_ | refine zq1 ?_ _)); refine zq11 ?_ NB101_118.out _; (with_reducible repeat (first | refine zq0 ?_ _ | refine zq2 ?_ | refine zq1 ?_ _)); exact BK101.out⟩
         have n1_ : Aside0 (((((w31.setCell ⟨gb118, 0, none⟩ (.int .u64 t113)).setCell ⟨gb118, 1, none⟩ (.int .u64 t114)).setCell ⟨gb118, 2, none⟩ (.int .u64 t115)).setCell ⟨gb118, 3, none⟩ (.bool t116)).heap[gb107]? = some (.cells #[.int .u64 x108000_2, .int .u64 x108001_2, .int .u64 x108002_2, .bool x108003_2] 26 (0, 0))) := ⟨by (with_reducible repeat (first | refine zq0 ?_ _ | refine zq2 ?_ | refine zq1 ?_ _)); refine zq11 ?_ NB107_118.out _; (with_reducible repeat (first | refine zq0 ?_ _ | refine zq2 ?_ | refine zq1 ?_ _)); refine zq11 ?_ NB107_118.out _; (with_reducible repeat (first | refine zq0 ?_ _ | refine zq2 ?_ | refine zq1 ?_ _)); refine zq11 ?_ NB107_118.out _; (with_reducible repeat (first | refine zq0 ?_ _ | refine zq2 ?_ | refine zq1 ?_ _)); refine zq11 ?_ NB107_118.out _; (with_reducible repeat (first | refine zq0 ?_ _ | refine zq2 ?_ | refine zq1 ?_ _)); exact BK107.out⟩
         have n2_ : Aside0 (((((w31.setCell ⟨gb118, 0, none⟩ (.int .u64 t113)).setCell ⟨gb118, 1, none⟩ (.int .u64 t114)).setCell ⟨gb118, 2, none⟩ (.int .u64 t115)).setCell ⟨gb118, 3, none⟩ (.bool t116)).heap[gb109]? = some (.cells #[.int .u64 t102, .int .u64 t103, .int .u64 t104, .bool t105] 26 (0, 0))) := ⟨by (with_reducible repeat (first | refine zq0 ?_ _ | refine zq2 ?_ | refine zq1 ?_ _)); refine zq11 ?_ NB109_118.out _; (with_reducible repeat (first | refine zq0 ?_ _ | refine zq2 ?_ | refine zq1 ?_ _)); refine zq11 ?_ NB109_118.out _; (with_reducible repeat (first | refine zq0 ?_ _ | refine zq2 ?_ | refine zq1 ?_ _)); refine zq11 ?_ NB109_118.out _; (with_reducible repeat (first | refine zq0 ?_ _ | refine zq2 ?_ | refine zq1 ?_ _)); refine zq11 ?_ NB109_118.out _; (with_reducible repeat (first | refine zq0 ?_ _ | refine zq2 ?_ | refine zq1 ?_ _)); exact BK109.out⟩
         have n3_ : Aside0 (((((w31.setCell ⟨gb118, 0, none⟩ (.int .u64 t113)).setCell ⟨gb118, 1, none⟩ (.int .u64 t114)).setCell ⟨gb118, 2, none⟩ (.int .u64 t115)).setCell ⟨gb118, 3, none⟩ (.bool t116)).heap[gb118]? = some (.cells #[.int .u64 t113, .int .u64 t114, .int .u64 t115, .bool t116] 26 (0, 0))) := ⟨by (with_reducible repeat (first | refine zq0 ?_ _ | refine zq2 ?_ | refine zq1 ?_ _)); refine blk_put (cs := #[.int .u64 t113, .int .u64 t114, .int .u64 t115, .bool false]) ?_ 3 _ rfl; (with_reducible repeat (first | refine zq0 ?_ _ | refine zq2 ?_ | refine zq1 ?_ _)); refine blk_put (cs := #[.int .u64 t113, .int .u64 t114, .int .u64 0, .bool false]) ?_ 2 _ rfl; (with_reducible repeat (first | refine zq0 ?_ _ | refine zq2 ?_ | refine zq1 ?_ _)); refine blk_put (cs := #[.int .u64 t113, .int .u64 0, .int .u64 0, .bool false]) ?_ 1 _ rfl; (with_reducible repeat (first | refine zq0 ?_ _ | refine zq2 ?_ | refine zq1 ?_ _)); refine blk_put (cs := #[.int .u64 0, .int .u64 0, .int .u64 0, .bool false]) ?_ 0 _ rfl; (with_reducible repeat (first | refine zq0 ?_ _ | refine zq2 ?_ | refine zq1 ?_ _)); exact BK118.out⟩
         have n4_ : Aside0 (Below w.heap.size w ((((w31.setCell ⟨gb118, 0, none⟩ (.int .u64 t113)).setCell ⟨gb118, 1, none⟩ (.int .u64 t114)).setCell ⟨gb118, 2, none⟩ (.int .u64 t115)).setCell ⟨gb118, 3, none⟩ (.bool t116))) := ⟨by repeat (first | (with_reducible first | exact HB.out | apply zq9 | apply zq7 | apply zq8 | refine zq6 ?_ GE101.out | refine zq6 ?_ GE107.out | refine zq6 ?_ GE109.out | refine zq6 ?_ GE118.out) | exact HB.out)⟩
         (try clear BK101)
         (try clear BK107)
         (try clear BK109)
         (try clear BK118)
         (try clear HB)
         generalize ((((w31.setCell ⟨gb118, 0, none⟩ (.int .u64 t113)).setCell ⟨gb118, 1, none⟩ (.int .u64 t114)).setCell ⟨gb118, 2, none⟩ (.int .u64 t115)).setCell ⟨gb118, 3, none⟩ (.bool t116)) = w36 at n0_ n1_ n2_ n3_ n4_ ⊢
         have BK101 := n0_
         have BK107 := n1_
         have BK109 := n2_
         have BK118 := n3_
         have HB := n4_
         clear n0_ n1_ n2_ n3_ n4_
         have n0_ := zq3 (zq2 BK101.out)
         have n1_ := zq3 (zq2 BK107.out)
         have n2_ := zq3 (zq2 BK109.out)
         have n3_ := zq3 (zq2 BK118.out)
         have n4_ := zq3 (zq8 HB.out)
         clear BK101
         clear BK107
         clear BK109
         clear BK118
         clear HB
         have BK101 := n0_
         have BK107 := n1_
         have BK109 := n2_
         have BK118 := n3_
         have HB := n4_
         clear n0_ n1_ n2_ n3_ n4_
         have p119 : 0 ≤ (x8_2 : Int) := of_decide_eq_true (by first | (with_reducible assumption) | assumption)
         have q119 : x8_2 < (l1.length : Int) := of_decide_eq_true (by first | (with_reducible assumption) | assumption)
         obtain ⟨ad119, e119, hx119_0, hx119_1, hx119_2⟩ := at_T28 HR1.out x8_2 p119 q119
         have hw119_2 := hx119_2
         have hw119_1 := hx119_1
         have hw119_0 := hx119_0
         obtain rfl : ad111 = ad119 := (by injection e119)
         replace hx119_0 := (HB.out.cell (World.block_lt_of_cell? w _ hx119_0)).trans hx119_0
         replace hx119_1 := (HB.out.cell (World.block_lt_of_cell? w _ hx119_1)).trans hx119_1
         replace hx119_2 := (HB.out.cell (World.block_lt_of_cell? w _ hx119_2)).trans hx119_2
         replace p119 := eq_true p119
         replace q119 := eq_true q119
         have p120 : 0 ≤ (x8_2 : Int) := of_decide_eq_true (by first | (with_reducible assumption) | assumption)
         have q120 : x8_2 < (l1.length : Int) := of_decide_eq_true (by first | (with_reducible assumption) | assumption)
         obtain ⟨ad120, e120, hx120_0, hx120_1, hx120_2⟩ := at_T28 HR1.out x8_2 p120 q120
         have hw120_2 := hx120_2
         have hw120_1 := hx120_1
         have hw120_0 := hx120_0
         obtain rfl : ad111 = ad120 := (by injection e120)
         replace hx120_0 := (HB.out.cell (World.block_lt_of_cell? w _ hx120_0)).trans hx120_0
         replace hx120_1 := (HB.out.cell (World.block_lt_of_cell? w _ hx120_1)).trans hx120_1
         replace hx120_2 := (HB.out.cell (World.block_lt_of_cell? w _ hx120_2)).trans hx120_2
         replace p120 := eq_true p120
         replace q120 := eq_true q120
         refine start_ (n := 20) (S := fun w' => w'.cell? ⟨gb101, 0, none⟩ = some (.int .i64 a0_0) ∧ w'.cell? ⟨gb101, 1, none⟩ = some (.bool a0_1) ∧ w'.cell? ⟨gb101, 2, none⟩ = some (.int .u64 a0_2) ∧ w'.cell? ⟨gb101, 3, none⟩ = some (.int .u64 a0_3) ∧ w'.cell? ⟨gb101, 4, none⟩ = some (.int .u64 a0_4) ∧ w'.cell? ⟨gb101, 5, none⟩ = some (.int .u64 a0_5) ∧ w'.cell? ⟨gb107, 0, none⟩ = some (.int .u64 x108000_2) ∧ w'.cell? ⟨gb107, 1, none⟩ = some (.int .u64 x108001_2) ∧ w'.cell? ⟨gb107, 2, none⟩ = some (.int .u64 x108002_2) ∧ w'.cell? ⟨gb107, 3, none⟩ = some (.bool x108003_2) ∧ w'.cell? (ad111.add ((x8_2).toNat * 3)) = some (.int .u64 ((rd_T28 l1 x8_2).f0)) ∧ w'.cell? ⟨(ad111.add ((x8_2).toNat * 3)).block, (ad111.add ((x8_2).toNat * 3)).off + 1, none⟩ = some (.int .i64 ((rd_T28 l1 x8_2).f1)) ∧ w'.cell? ⟨(ad111.add ((x8_2).toNat * 3)).block, (ad111.add ((x8_2).toNat * 3)).off + 2, none⟩ = some (.int .i64 ((rd_T28 l1 x8_2).f2)) ∧ w'.cell? (ad111.add ((x8_2).toNat * 3)) = some (.int .u64 ((rd_T28 l1 x8_2).f0)) ∧ w'.cell? ⟨(ad111.add ((x8_2).toNat * 3)).block, (ad111.add ((x8_2).toNat * 3)).off + 1, none⟩ = some (.int .i64 ((rd_T28 l1 x8_2).f1)) ∧ w'.cell? ⟨(ad111.add ((x8_2).toNat * 3)).block, (ad111.add ((x8_2).toNat * 3)).off + 2, none⟩ = some (.int .i64 ((rd_T28 l1 x8_2).f2))) (ds := []) #[false, false, false, false, false, false, false, false, false, false, false, false, false, false, false, false, false, false, false, false] (by kernel_rfl) rfl rfl ⟨(zq5 BK101.out 0).trans rfl, (zq5 BK101.out 1).trans rfl, (zq5 BK101.out 2).trans rfl, (zq5 BK101.out 3).trans rfl, (zq5 BK101.out 4).trans rfl, (zq5 BK101.out 5).trans rfl, (zq5 BK107.out 0).trans rfl, (zq5 BK107.out 1).trans rfl, (zq5 BK107.out 2).trans rfl, (zq5 BK107.out 3).trans rfl, ((HB.out.cell (World.block_lt_of_cell? w _ hw119_0)).trans hw119_0), ((HB.out.cell (World.block_lt_of_cell? w _ hw119_1)).trans hw119_1), ((HB.out.cell (World.block_lt_of_cell? w _ hw119_2)).trans hw119_2), ((HB.out.cell (World.block_lt_of_cell? w _ hw120_0)).trans hw120_0), ((HB.out.cell (World.block_lt_of_cell? w _ hw120_1)).trans hw120_1), ((HB.out.cell (World.block_lt_of_cell? w _ hw120_2)).trans hw120_2)⟩ (fun hHeld => ?_); refine with_tabW weighbridgelaw27_DoubleTakes.tab11 weighbridgelaw27_DoubleTakes.bits11 (fun HT_ HW_ => ?_)
         generalize w36.drew = w37 at BK101 BK107 BK109 BK118 HB hx119_0 hx119_1 hx119_2 hx120_0 hx120_1 hx120_2 hHeld ⊢
         refine pure_ (i := 2) (N := some 59) (v := ?_) (a' := ?_) #[false, false, true, false, false, false, false, false, false, false, false, false, false, false, false, false, false, false, false, false] rfl rfl (any_of HT_.out (by kernel_rfl)) (fun _ _ _ h => h) (Or.inl ⟨by rfl, ?_⟩) ?_ ?_
         rotate_left
         ·
          intro w'
          go_simp
          with_reducible rfl
         rotate_left
         ·
          simp only [Act.put, List.setIfInBounds_toArray, List.set_cons_zero, List.set_cons_succ, i64_w, i32_w]
          rfl
         refine pure_ (i := 3) (N := some 60) (v := ?_) (a' := ?_) #[false, false, true, true, false, false, false, false, false, false, false, false, false, false, false, false, false, false, false, false] rfl rfl (any_of HT_.out (by kernel_rfl)) (fun _ _ _ h => h) (Or.inl ⟨by rfl, ?_⟩) ?_ ?_
         rotate_left
         ·
          intro w'
          go_simp
          with_reducible rfl
         rotate_left
         ·
          simp only [Act.put, List.setIfInBounds_toArray, List.set_cons_zero, List.set_cons_succ, i64_w, i32_w]
          rfl
         refine pure_ (i := 4) (N := some 61) (v := ?_) (a' := ?_) #[false, false, true, true, true, false, false, false, false, false, false, false, false, false, false, false, false, false, false, false] rfl rfl (any_of HT_.out (by kernel_rfl)) (fun _ _ _ h => h) (Or.inl ⟨by rfl, ?_⟩) ?_ ?_
         rotate_left
         ·
          intro w'
          go_simp
          with_reducible rfl
         rotate_left
         ·
          simp only [Act.put, List.setIfInBounds_toArray, List.set_cons_zero, List.set_cons_succ, i64_w, i32_w]
          rfl
         refine pure_ (i := 5) (N := some 62) (v := ?_) (a' := ?_) #[false, false, true, true, true, true, false, false, false, false, false, false, false, false, false, false, false, false, false, false] rfl rfl (any_of HT_.out (by kernel_rfl)) (fun _ _ _ h => h) (Or.inl ⟨by rfl, ?_⟩) ?_ ?_
         rotate_left
         ·
          intro w'
          go_simp
          with_reducible rfl
         rotate_left
         ·
          simp only [Act.put, List.setIfInBounds_toArray, List.set_cons_zero, List.set_cons_succ, i64_w, i32_w]
          rfl
         refine pure_ (i := 7) (N := some 64) (v := ?_) (a' := ?_) #[false, false, true, true, true, true, false, true, false, false, false, false, false, false, false, false, false, false, false, false] rfl rfl (any_of HT_.out (by kernel_rfl)) (fun _ _ _ h => h) (Or.inl ⟨by rfl, ?_⟩) ?_ ?_
         rotate_left
         ·
          intro w'
          go_simp
          with_reducible rfl
         rotate_left
         ·
          simp only [Act.put, List.setIfInBounds_toArray, List.set_cons_zero, List.set_cons_succ, i64_w, i32_w]
          rfl
         refine pure_ (i := 8) (N := some 65) (v := ?_) (a' := ?_) #[false, false, true, true, true, true, false, true, true, false, false, false, false, false, false, false, false, false, false, false] rfl rfl (any_of HT_.out (by kernel_rfl)) (fun _ _ _ h => h) (Or.inl ⟨by rfl, ?_⟩) ?_ ?_
         rotate_left
         ·
          intro w'
          go_simp
          with_reducible rfl
         rotate_left
         ·
          simp only [Act.put, List.setIfInBounds_toArray, List.set_cons_zero, List.set_cons_succ, i64_w, i32_w]
          rfl
         refine pure_ (i := 9) (N := some 66) (v := ?_) (a' := ?_) #[false, false, true, true, true, true, false, true, true, true, false, false, false, false, false, false, false, false, false, false] rfl rfl (any_of HT_.out (by kernel_rfl)) (fun _ _ _ h => h) (Or.inl ⟨by rfl, ?_⟩) ?_ ?_
         rotate_left
         ·
          intro w'
          go_simp
          with_reducible rfl
         rotate_left
         ·
          simp only [Act.put, List.setIfInBounds_toArray, List.set_cons_zero, List.set_cons_succ, i64_w, i32_w]
          rfl
         refine pure_ (i := 10) (N := some 67) (v := ?_) (a' := ?_) #[false, false, true, true, true, true, false, true, true, true, true, false, false, false, false, false, false, false, false, false] rfl rfl (any_of HT_.out (by kernel_rfl)) (fun _ _ _ h => h) (Or.inl ⟨by rfl, ?_⟩) ?_ ?_
         rotate_left
         ·
          intro w'
          go_simp
          with_reducible rfl
         rotate_left
         ·
          simp only [Act.put, List.setIfInBounds_toArray, List.set_cons_zero, List.set_cons_succ, i64_w, i32_w]
          rfl
         refine pure_ (i := 11) (N := some 68) (v := ?_) (a' := ?_) #[false, false, true, true, true, true, false, true, true, true, true, true, false, false, false, false, false, false, false, false] rfl rfl (any_of HT_.out (by kernel_rfl)) (fun _ _ _ h => h) (Or.inl ⟨by rfl, ?_⟩) ?_ ?_
         rotate_left
         ·
          intro w'
          go_simp
          with_reducible rfl
         rotate_left
         ·
          simp only [Act.put, List.setIfInBounds_toArray, List.set_cons_zero, List.set_cons_succ, i64_w, i32_w]
          rfl
         refine take_ (i := 0) (N := some 57) (v := ?_) (a' := ?_) #[true, false, true, true, true, true, false, true, true, true, true, true, false, false, false, false, false, false, false, false] rfl rfl (take_ofW HT_.out HW_.out (by kernel_rfl)) (fun _ _ _ h => h) (Or.inl ⟨by rfl, ?_⟩) hHeld ?_ ?_
         rotate_left
         ·
          rintro w' ⟨s0, s1, s2, s3, s4, s5, s6, s7, s8, s9, s10, s11, s12, s13, s14, s15⟩
          go_simp
          with_reducible rfl
         rotate_left
         ·
          simp only [Act.put, List.setIfInBounds_toArray, List.set_cons_zero, List.set_cons_succ, i64_w, i32_w]
          rfl
         refine take_ (i := 1) (N := some 58) (v := ?_) (a' := ?_) #[true, true, true, true, true, true, false, true, true, true, true, true, false, false, false, false, false, false, false, false] rfl rfl (take_ofW HT_.out HW_.out (by kernel_rfl)) (fun _ _ _ h => h) (Or.inl ⟨by rfl, ?_⟩) hHeld ?_ ?_
         rotate_left
         ·
          rintro w' ⟨s0, s1, s2, s3, s4, s5, s6, s7, s8, s9, s10, s11, s12, s13, s14, s15⟩
          go_simp
          with_reducible rfl
         rotate_left
         ·
          simp only [Act.put, List.setIfInBounds_toArray, List.set_cons_zero, List.set_cons_succ, i64_w, i32_w]
          rfl
         refine take_ (i := 6) (N := some 63) (v := ?_) (a' := ?_) #[true, true, true, true, true, true, true, true, true, true, true, true, false, false, false, false, false, false, false, false] rfl rfl (take_ofW HT_.out HW_.out (by kernel_rfl)) (fun _ _ _ h => h) (Or.inl ⟨by rfl, ?_⟩) hHeld ?_ ?_
         rotate_left
         ·
          rintro w' ⟨s0, s1, s2, s3, s4, s5, s6, s7, s8, s9, s10, s11, s12, s13, s14, s15⟩
          go_simp
          with_reducible rfl
         rotate_left
         ·
          simp only [Act.put, List.setIfInBounds_toArray, List.set_cons_zero, List.set_cons_succ, i64_w, i32_w]
          rfl
         refine take_ (i := 12) (N := some 69) (v := ?_) (a' := ?_) #[true, true, true, true, true, true, true, true, true, true, true, true, true, false, false, false, false, false, false, false] rfl rfl (take_ofW HT_.out HW_.out (by kernel_rfl)) (fun _ _ _ h => h) (Or.inl ⟨by rfl, ?_⟩) hHeld ?_ ?_
         rotate_left
         ·
          rintro w' ⟨s0, s1, s2, s3, s4, s5, s6, s7, s8, s9, s10, s11, s12, s13, s14, s15⟩
          go_simp
          with_reducible rfl
         rotate_left
         ·
          simp only [Act.put, List.setIfInBounds_toArray, List.set_cons_zero, List.set_cons_succ, i64_w, i32_w]
          rfl
         refine join_ (σ := Nat) 2 #[true, true, true, true, true, true, true, true, true, true, true, true, true, true, true, true, true, true, false, false] (fun s_ => [(70, .tuple #[.agg #[.int .u64 t121, .int .u64 t122, .int .u64 t123, .bool t124], .int .i64 t125]), (12, .pointer (some ⟨s_, 0, none⟩)), (56, .tuple #[.agg #[.int .u64 t121, .int .u64 t122, .int .u64 t123, .bool t124], .int .i64 t125]), (71, .agg #[.int .u64 t121, .int .u64 t122, .int .u64 t123, .bool t124]), (72, .int .i64 t125)]) (fun s_ w' => (w'.cell? ⟨gb101, 0, none⟩ = some (.int .i64 a0_0) ∧ w'.cell? ⟨gb101, 1, none⟩ = some (.bool a0_1) ∧ w'.cell? ⟨gb101, 2, none⟩ = some (.int .u64 a0_2) ∧ w'.cell? ⟨gb101, 3, none⟩ = some (.int .u64 a0_3) ∧ w'.cell? ⟨gb101, 4, none⟩ = some (.int .u64 a0_4) ∧ w'.cell? ⟨gb101, 5, none⟩ = some (.int .u64 a0_5) ∧ w'.cell? ⟨gb107, 0, none⟩ = some (.int .u64 x108000_2) ∧ w'.cell? ⟨gb107, 1, none⟩ = some (.int .u64 x108001_2) ∧ w'.cell? ⟨gb107, 2, none⟩ = some (.int .u64 x108002_2) ∧ w'.cell? ⟨gb107, 3, none⟩ = some (.bool x108003_2) ∧ w'.cell? (ad111.add ((x8_2).toNat * 3)) = some (.int .u64 ((rd_T28 l1 x8_2).f0)) ∧ w'.cell? ⟨(ad111.add ((x8_2).toNat * 3)).block, (ad111.add ((x8_2).toNat * 3)).off + 1, none⟩ = some (.int .i64 ((rd_T28 l1 x8_2).f1)) ∧ w'.cell? ⟨(ad111.add ((x8_2).toNat * 3)).block, (ad111.add ((x8_2).toNat * 3)).off + 2, none⟩ = some (.int .i64 ((rd_T28 l1 x8_2).f2)) ∧ w'.cell? (ad111.add ((x8_2).toNat * 3)) = some (.int .u64 ((rd_T28 l1 x8_2).f0)) ∧ w'.cell? ⟨(ad111.add ((x8_2).toNat * 3)).block, (ad111.add ((x8_2).toNat * 3)).off + 1, none⟩ = some (.int .i64 ((rd_T28 l1 x8_2).f1)) ∧ w'.cell? ⟨(ad111.add ((x8_2).toNat * 3)).block, (ad111.add ((x8_2).toNat * 3)).off + 2, none⟩ = some (.int .i64 ((rd_T28 l1 x8_2).f2))) ∧ (w'.heap[gb101]? = some (.cells #[.int .i64 a0_0, .bool a0_1, .int .u64 a0_2, .int .u64 a0_3, .int .u64 a0_4, .int .u64 a0_5] 24 (0, 0))) ∧ (w'.heap[gb107]? = some (.cells #[.int .u64 x108000_2, .int .u64 x108001_2, .int .u64 x108002_2, .bool x108003_2] 26 (0, 0))) ∧ (w'.heap[gb109]? = some (.cells #[.int .u64 t102, .int .u64 t103, .int .u64 t104, .bool t105] 26 (0, 0))) ∧ (w'.heap[gb118]? = some (.cells #[.int .u64 t113, .int .u64 t114, .int .u64 t115, .bool t116] 26 (0, 0))) ∧ (w'.heap[s_]? = some (.cells #[.int .u64 0, .int .u64 0, .int .u64 0, .bool false] 26 (0, 0))) ∧ (w.heap.size ≤ s_) ∧ (w.heap.size ≤ s_) ∧ (gb101 ≠ s_) ∧ (s_ ≠ gb101) ∧ (gb107 ≠ s_) ∧ (s_ ≠ gb107) ∧ (gb109 ≠ s_) ∧ (s_ ≠ gb109) ∧ (gb118 ≠ s_) ∧ (s_ ≠ gb118) ∧ (Below w.heap.size w w')) ?_ ?_
         rotate_left
         ·
          intro hCont
          refine two_ (i := 13) (j := 17) (Ni := some 70) (Nj := some 12) #[true, true, true, true, true, true, true, true, true, true, true, true, true, true, false, false, false, false, false, false] #[true, true, true, true, true, true, true, true, true, true, true, true, true, false, false, false, false, true, false, false] rfl rfl rfl rfl (two_of HT_.out (by kernel_rfl)) (by decide) (by decide) (fun K hK => ?_) (fun K hK => ?_)
          ·
           skip
           refine goes_ Try.func14 (by kernel_rfl) rfl #[.agg #[.int .i64 a0_0, .bool a0_1, .int .u64 a0_2, .int .u64 a0_3, .int .u64 a0_4, .int .u64 a0_5], .agg #[.int .u64 x108000_2, .int .u64 x108001_2, .int .u64 x108002_2, .bool x108003_2], .int .u64 ((rd_T28 l1 x8_2).f0), .int .i64 ((rd_T28 l1 x8_2).f1), .int .i64 ((rd_T28 l1 x8_2).f2)] (by rfl) rfl rfl (by (try simp only [List.map_toArray, List.map_cons, List.map_nil]); first | done | rfl | (simp only [List.length_drop, List.length_take]; rfl)) ?_
           with_reducible refine (double_Stepd.calls a0_0 a0_1 a0_2 a0_3 a0_4 a0_5 x108000_2 x108001_2 x108002_2 x108003_2 ((rd_T28 l1 x8_2).f0) ((rd_T28 l1 x8_2).f1) ((rd_T28 l1 x8_2).f2) t121 t122 t123 t124 t125 _ A25.out).mono ?_
           rintro e w38 ⟨rfl, hb⟩
           refine ⟨_, rfl, ?_⟩
           have n0_ := zq3 (zq10 (g := gb101) (o := .cells #[.int .i64 a0_0, .bool a0_1, .int .u64 a0_2, .int .u64 a0_3, .int .u64 a0_4, .int .u64 a0_5] 24 (0, 0)) (by (with_reducible repeat (first | refine zq0 ?_ _ | refine zq2 ?_ | refine zq1 ?_ _)); exact BK101.out) hb)
           have n1_ := zq3 (zq10 (g := gb107) (o := .cells #[.int .u64 x108000_2, .int .u64 x108001_2, .int .u64 x108002_2, .bool x108003_2] 26 (0, 0)) (by (with_reducible repeat (first | refine zq0 ?_ _ | refine zq2 ?_ | refine zq1 ?_ _)); exact BK107.out) hb)
           have n2_ := zq3 (zq10 (g := gb109) (o := .cells #[.int .u64 t102, .int .u64 t103, .int .u64 t104, .bool t105] 26 (0, 0)) (by (with_reducible repeat (first | refine zq0 ?_ _ | refine zq2 ?_ | refine zq1 ?_ _)); exact BK109.out) hb)
           have n3_ := zq3 (zq10 (g := gb118) (o := .cells #[.int .u64 t113, .int .u64 t114, .int .u64 t115, .bool t116] 26 (0, 0)) (by (with_reducible repeat (first | refine zq0 ?_ _ | refine zq2 ?_ | refine zq1 ?_ _)); exact BK118.out) hb)
           have n4_ := zq3 (below_step (by repeat (first | (with_reducible first | exact HB.out | apply zq9 | apply zq7 | apply zq8 | refine zq6 ?_ GE101.out | refine zq6 ?_ GE107.out | refine zq6 ?_ GE109.out | refine zq6 ?_ GE118.out) | exact HB.out)) hb)
           clear BK101
           clear BK107
           clear BK109
           clear BK118
           clear HB
           have BK101 := n0_
           have BK107 := n1_
           have BK109 := n2_
           have BK118 := n3_
           have HB := n4_
           clear n0_ n1_ n2_ n3_ n4_
           (try clear hb)
           (try clear hb2)
           (try clear hk)
           (try clear hi)
           refine hK.out _ _ ⟨(zq5 BK101.out 0).trans rfl, (zq5 BK101.out 1).trans rfl, (zq5 BK101.out 2).trans rfl, (zq5 BK101.out 3).trans rfl, (zq5 BK101.out 4).trans rfl, (zq5 BK101.out 5).trans rfl, (zq5 BK107.out 0).trans rfl, (zq5 BK107.out 1).trans rfl, (zq5 BK107.out 2).trans rfl, (zq5 BK107.out 3).trans rfl, ((HB.out.cell (World.block_lt_of_cell? w _ hw119_0)).trans hw119_0), ((HB.out.cell (World.block_lt_of_cell? w _ hw119_1)).trans hw119_1), ((HB.out.cell (World.block_lt_of_cell? w _ hw119_2)).trans hw119_2), ((HB.out.cell (World.block_lt_of_cell? w _ hw120_0)).trans hw120_0), ((HB.out.cell (World.block_lt_of_cell? w _ hw120_1)).trans hw120_1), ((HB.out.cell (World.block_lt_of_cell? w _ hw120_2)).trans hw120_2)⟩ (fun hHeld => ?_)
           clear hK K
           refine norm_ (a' := ?_) ?_ ?_
           rotate_left
           ·
            show Act.put _ (some 70) _ = _
            simp only [Act.put, List.setIfInBounds_toArray, List.set_cons_zero, List.set_cons_succ, i64_w, i32_w]
            rfl
           refine pure_ (i := 14) (N := some 56) (v := ?_) (a' := ?_) #[true, true, true, true, true, true, true, true, true, true, true, true, true, true, true, false, false, false, false, false] rfl rfl (any_of HT_.out (by kernel_rfl)) (fun _ _ _ h => h) (Or.inl ⟨by rfl, ?_⟩) ?_ ?_
           rotate_left
           ·
            intro w'
            go_simp
            with_reducible rfl
           rotate_left
           ·
            simp only [Act.put, List.setIfInBounds_toArray, List.set_cons_zero, List.set_cons_succ, i64_w, i32_w]
            rfl
           refine pure_ (i := 15) (N := some 71) (v := ?_) (a' := ?_) #[true, true, true, true, true, true, true, true, true, true, true, true, true, true, true, true, false, false, false, false] rfl rfl (any_of HT_.out (by kernel_rfl)) (fun _ _ _ h => h) (Or.inl ⟨by rfl, ?_⟩) ?_ ?_
           rotate_left
           ·
            intro w'
            go_simp
            with_reducible rfl
           rotate_left
           ·
            simp only [Act.put, List.setIfInBounds_toArray, List.set_cons_zero, List.set_cons_succ, i64_w, i32_w]
            rfl
           refine pure_ (i := 16) (N := some 72) (v := ?_) (a' := ?_) #[true, true, true, true, true, true, true, true, true, true, true, true, true, true, true, true, true, false, false, false] rfl rfl (any_of HT_.out (by kernel_rfl)) (fun _ _ _ h => h) (Or.inl ⟨by rfl, ?_⟩) ?_ ?_
           rotate_left
           ·
            intro w'
            go_simp
            with_reducible rfl
           rotate_left
           ·
            simp only [Act.put, List.setIfInBounds_toArray, List.set_cons_zero, List.set_cons_succ, i64_w, i32_w]
            rfl
           refine one_ (i := 17) (N := some 12) #[true, true, true, true, true, true, true, true, true, true, true, true, true, true, true, true, true, true, false, false] rfl rfl (one_of HT_.out (by kernel_rfl)) (by decide) (fun K hK => ?_)
           refine box_step ?hg (N := 12) ?hd (cs := #[.int .u64 0, .int .u64 0, .int .u64 0, .bool false]) (t := 26) ?hr ?_; (case hd => rfl); (case hg => rfl); (case hr => first | (go_simp; done) | (go_simp; rfl))
           intro gb126 hg w39 hbox hb
           have n0_ := zq3 (zq10 (g := gb101) (o := .cells #[.int .i64 a0_0, .bool a0_1, .int .u64 a0_2, .int .u64 a0_3, .int .u64 a0_4, .int .u64 a0_5] 24 (0, 0)) (by (with_reducible repeat (first | refine zq0 ?_ _ | refine zq2 ?_ | refine zq1 ?_ _)); exact BK101.out) hb)
           have n1_ := zq3 (zq10 (g := gb107) (o := .cells #[.int .u64 x108000_2, .int .u64 x108001_2, .int .u64 x108002_2, .bool x108003_2] 26 (0, 0)) (by (with_reducible repeat (first | refine zq0 ?_ _ | refine zq2 ?_ | refine zq1 ?_ _)); exact BK107.out) hb)
           have n2_ := zq3 (zq10 (g := gb109) (o := .cells #[.int .u64 t102, .int .u64 t103, .int .u64 t104, .bool t105] 26 (0, 0)) (by (with_reducible repeat (first | refine zq0 ?_ _ | refine zq2 ?_ | refine zq1 ?_ _)); exact BK109.out) hb)
           have n3_ := zq3 (zq10 (g := gb118) (o := .cells #[.int .u64 t113, .int .u64 t114, .int .u64 t115, .bool t116] 26 (0, 0)) (by (with_reducible repeat (first | refine zq0 ?_ _ | refine zq2 ?_ | refine zq1 ?_ _)); exact BK118.out) hb)
           have n4_ := zq3 (below_step (by repeat (first | (with_reducible first | exact HB.out | apply zq9 | apply zq7 | apply zq8 | refine zq6 ?_ GE101.out | refine zq6 ?_ GE107.out | refine zq6 ?_ GE109.out | refine zq6 ?_ GE118.out) | exact HB.out)) hb)
           have n5_ := zq3 (hbox)
           have n6_ := zq3 ((by rw [hg]; exact (below_size (by repeat (first | (with_reducible first | exact HB.out | apply zq9 | apply zq7 | apply zq8 | refine zq6 ?_ GE101.out | refine zq6 ?_ GE107.out | refine zq6 ?_ GE109.out | refine zq6 ?_ GE118.out) | exact HB.out))) : w.heap.size ≤ gb126))
           have n7_ := zq3 ((by rw [hg]; exact (below_size (by repeat (first | (with_reducible first | exact HB.out | apply zq9 | apply zq7 | apply zq8 | refine zq6 ?_ GE101.out | refine zq6 ?_ GE107.out | refine zq6 ?_ GE109.out | refine zq6 ?_ GE118.out) | exact HB.out))) : w.heap.size ≤ gb126))
           have n8_ := zq3 ((by rw [hg]; exact Nat.ne_of_lt (blk_lt (g := gb101) (o := .cells #[.int .i64 a0_0, .bool a0_1, .int .u64 a0_2, .int .u64 a0_3, .int .u64 a0_4, .int .u64 a0_5] 24 (0, 0)) (by (with_reducible repeat (first | refine zq0 ?_ _ | refine zq2 ?_ | refine zq1 ?_ _)); exact BK101.out)) : gb101 ≠ gb126))
           have n9_ := zq3 ((by rw [hg]; exact Nat.ne_of_gt (blk_lt (g := gb101) (o := .cells #[.int .i64 a0_0, .bool a0_1, .int .u64 a0_2, .int .u64 a0_3, .int .u64 a0_4, .int .u64 a0_5] 24 (0, 0)) (by (with_reducible repeat (first | refine zq0 ?_ _ | refine zq2 ?_ | refine zq1 ?_ _)); exact BK101.out)) : gb126 ≠ gb101))
           have n10_ := zq3 ((by rw [hg]; exact Nat.ne_of_lt (blk_lt (g := gb107) (o := .cells #[.int .u64 x108000_2, .int .u64 x108001_2, .int .u64 x108002_2, .bool x108003_2] 26 (0, 0)) (by (with_reducible repeat (first | refine zq0 ?_ _ | refine zq2 ?_ | refine zq1 ?_ _)); exact BK107.out)) : gb107 ≠ gb126))
           have n11_ := zq3 ((by rw [hg]; exact Nat.ne_of_gt (blk_lt (g := gb107) (o := .cells #[.int .u64 x108000_2, .int .u64 x108001_2, .int .u64 x108002_2, .bool x108003_2] 26 (0, 0)) (by (with_reducible repeat (first | refine zq0 ?_ _ | refine zq2 ?_ | refine zq1 ?_ _)); exact BK107.out)) : gb126 ≠ gb107))
           have n12_ := zq3 ((by rw [hg]; exact Nat.ne_of_lt (blk_lt (g := gb109) (o := .cells #[.int .u64 t102, .int .u64 t103, .int .u64 t104, .bool t105] 26 (0, 0)) (by (with_reducible repeat (first | refine zq0 ?_ _ | refine zq2 ?_ | refine zq1 ?_ _)); exact BK109.out)) : gb109 ≠ gb126))
           have n13_ := zq3 ((by rw [hg]; exact Nat.ne_of_gt (blk_lt (g := gb109) (o := .cells #[.int .u64 t102, .int .u64 t103, .int .u64 t104, .bool t105] 26 (0, 0)) (by (with_reducible repeat (first | refine zq0 ?_ _ | refine zq2 ?_ | refine zq1 ?_ _)); exact BK109.out)) : gb126 ≠ gb109))
           have n14_ := zq3 ((by rw [hg]; exact Nat.ne_of_lt (blk_lt (g := gb118) (o := .cells #[.int .u64 t113, .int .u64 t114, .int .u64 t115, .bool t116] 26 (0, 0)) (by (with_reducible repeat (first | refine zq0 ?_ _ | refine zq2 ?_ | refine zq1 ?_ _)); exact BK118.out)) : gb118 ≠ gb126))
           have n15_ := zq3 ((by rw [hg]; exact Nat.ne_of_gt (blk_lt (g := gb118) (o := .cells #[.int .u64 t113, .int .u64 t114, .int .u64 t115, .bool t116] 26 (0, 0)) (by (with_reducible repeat (first | refine zq0 ?_ _ | refine zq2 ?_ | refine zq1 ?_ _)); exact BK118.out)) : gb126 ≠ gb118))
           clear BK101
           clear BK107
           clear BK109
           clear BK118
           clear HB
           have BK101 := n0_
           have BK107 := n1_
           have BK109 := n2_
           have BK118 := n3_
           have HB := n4_
           have BK126 := n5_
           have GW126 := n6_
           have GE126 := n7_
           have NB101_126 := n8_
           have NB126_101 := n9_
           have NB107_126 := n10_
           have NB126_107 := n11_
           have NB109_126 := n12_
           have NB126_109 := n13_
           have NB118_126 := n14_
           have NB126_118 := n15_
           clear n0_ n1_ n2_ n3_ n4_ n5_ n6_ n7_ n8_ n9_ n10_ n11_ n12_ n13_ n14_ n15_
           clear hb hbox hg
           refine hK.out _ _ ⟨(zq5 BK101.out 0).trans rfl, (zq5 BK101.out 1).trans rfl, (zq5 BK101.out 2).trans rfl, (zq5 BK101.out 3).trans rfl, (zq5 BK101.out 4).trans rfl, (zq5 BK101.out 5).trans rfl, (zq5 BK107.out 0).trans rfl, (zq5 BK107.out 1).trans rfl, (zq5 BK107.out 2).trans rfl, (zq5 BK107.out 3).trans rfl, ((HB.out.cell (World.block_lt_of_cell? w _ hw119_0)).trans hw119_0), ((HB.out.cell (World.block_lt_of_cell? w _ hw119_1)).trans hw119_1), ((HB.out.cell (World.block_lt_of_cell? w _ hw119_2)).trans hw119_2), ((HB.out.cell (World.block_lt_of_cell? w _ hw120_0)).trans hw120_0), ((HB.out.cell (World.block_lt_of_cell? w _ hw120_1)).trans hw120_1), ((HB.out.cell (World.block_lt_of_cell? w _ hw120_2)).trans hw120_2)⟩ (fun hHeld => ?_)
           clear hK K
           refine norm_ (a' := ?_) ?_ ?_
           rotate_left
           ·
            show Act.put _ (some 12) _ = _
            simp only [Act.put, List.setIfInBounds_toArray, List.set_cons_zero, List.set_cons_succ, i64_w, i32_w]
            rfl
           exact norm_ (by simp only [putAll, Act.put, List.setIfInBounds_toArray, List.set_cons_zero, List.set_cons_succ]) (hCont (gb126) _ ⟨hHeld, (by (with_reducible repeat (first | refine zq0 ?_ _ | refine zq2 ?_ | refine zq1 ?_ _)); exact BK101.out), (by (with_reducible repeat (first | refine zq0 ?_ _ | refine zq2 ?_ | refine zq1 ?_ _)); exact BK107.out), (by (with_reducible repeat (first | refine zq0 ?_ _ | refine zq2 ?_ | refine zq1 ?_ _)); exact BK109.out), (by (with_reducible repeat (first | refine zq0 ?_ _ | refine zq2 ?_ | refine zq1 ?_ _)); exact BK118.out), (by (with_reducible repeat (first | refine zq0 ?_ _ | refine zq2 ?_ | refine zq1 ?_ _)); exact BK126.out), GW126.out, GE126.out, NB101_126.out, NB126_101.out, NB107_126.out, NB126_107.out, NB109_126.out, NB126_109.out, NB118_126.out, NB126_118.out, (by repeat (first | (with_reducible first | exact HB.out | apply zq9 | apply zq7 | apply zq8 | refine zq6 ?_ GE101.out | refine zq6 ?_ GE107.out | refine zq6 ?_ GE109.out | refine zq6 ?_ GE118.out | refine zq6 ?_ GE126.out) | exact HB.out))⟩)
          ·
           skip
           refine box_step ?hg (N := 12) ?hd (cs := #[.int .u64 0, .int .u64 0, .int .u64 0, .bool false]) (t := 26) ?hr ?_; (case hd => rfl); (case hg => rfl); (case hr => first | (go_simp; done) | (go_simp; rfl))
           intro gb126 hg w38 hbox hb
           have n0_ := zq3 (zq10 (g := gb101) (o := .cells #[.int .i64 a0_0, .bool a0_1, .int .u64 a0_2, .int .u64 a0_3, .int .u64 a0_4, .int .u64 a0_5] 24 (0, 0)) (by (with_reducible repeat (first | refine zq0 ?_ _ | refine zq2 ?_ | refine zq1 ?_ _)); exact BK101.out) hb)
           have n1_ := zq3 (zq10 (g := gb107) (o := .cells #[.int .u64 x108000_2, .int .u64 x108001_2, .int .u64 x108002_2, .bool x108003_2] 26 (0, 0)) (by (with_reducible repeat (first | refine zq0 ?_ _ | refine zq2 ?_ | refine zq1 ?_ _)); exact BK107.out) hb)
           have n2_ := zq3 (zq10 (g := gb109) (o := .cells #[.int .u64 t102, .int .u64 t103, .int .u64 t104, .bool t105] 26 (0, 0)) (by (with_reducible repeat (first | refine zq0 ?_ _ | refine zq2 ?_ | refine zq1 ?_ _)); exact BK109.out) hb)
           have n3_ := zq3 (zq10 (g := gb118) (o := .cells #[.int .u64 t113, .int .u64 t114, .int .u64 t115, .bool t116] 26 (0, 0)) (by (with_reducible repeat (first | refine zq0 ?_ _ | refine zq2 ?_ | refine zq1 ?_ _)); exact BK118.out) hb)
           have n4_ := zq3 (below_step (by repeat (first | (with_reducible first | exact HB.out | apply zq9 | apply zq7 | apply zq8 | refine zq6 ?_ GE101.out | refine zq6 ?_ GE107.out | refine zq6 ?_ GE109.out | refine zq6 ?_ GE118.out) | exact HB.out)) hb)
           have n5_ := zq3 (hbox)
           have n6_ := zq3 ((by rw [hg]; exact (below_size (by repeat (first | (with_reducible first | exact HB.out | apply zq9 | apply zq7 | apply zq8 | refine zq6 ?_ GE101.out | refine zq6 ?_ GE107.out | refine zq6 ?_ GE109.out | refine zq6 ?_ GE118.out) | exact HB.out))) : w.heap.size ≤ gb126))
           have n7_ := zq3 ((by rw [hg]; exact (below_size (by repeat (first | (with_reducible first | exact HB.out | apply zq9 | apply zq7 | apply zq8 | refine zq6 ?_ GE101.out | refine zq6 ?_ GE107.out | refine zq6 ?_ GE109.out | refine zq6 ?_ GE118.out) | exact HB.out))) : w.heap.size ≤ gb126))
           have n8_ := zq3 ((by rw [hg]; exact Nat.ne_of_lt (blk_lt (g := gb101) (o := .cells #[.int .i64 a0_0, .bool a0_1, .int .u64 a0_2, .int .u64 a0_3, .int .u64 a0_4, .int .u64 a0_5] 24 (0, 0)) (by (with_reducible repeat (first | refine zq0 ?_ _ | refine zq2 ?_ | refine zq1 ?_ _)); exact BK101.out)) : gb101 ≠ gb126))
           have n9_ := zq3 ((by rw [hg]; exact Nat.ne_of_gt (blk_lt (g := gb101) (o := .cells #[.int .i64 a0_0, .bool a0_1, .int .u64 a0_2, .int .u64 a0_3, .int .u64 a0_4, .int .u64 a0_5] 24 (0, 0)) (by (with_reducible repeat (first | refine zq0 ?_ _ | refine zq2 ?_ | refine zq1 ?_ _)); exact BK101.out)) : gb126 ≠ gb101))
           have n10_ := zq3 ((by rw [hg]; exact Nat.ne_of_lt (blk_lt (g := gb107) (o := .cells #[.int .u64 x108000_2, .int .u64 x108001_2, .int .u64 x108002_2, .bool x108003_2] 26 (0, 0)) (by (with_reducible repeat (first | refine zq0 ?_ _ | refine zq2 ?_ | refine zq1 ?_ _)); exact BK107.out)) : gb107 ≠ gb126))
           have n11_ := zq3 ((by rw [hg]; exact Nat.ne_of_gt (blk_lt (g := gb107) (o := .cells #[.int .u64 x108000_2, .int .u64 x108001_2, .int .u64 x108002_2, .bool x108003_2] 26 (0, 0)) (by (with_reducible repeat (first | refine zq0 ?_ _ | refine zq2 ?_ | refine zq1 ?_ _)); exact BK107.out)) : gb126 ≠ gb107))
           have n12_ := zq3 ((by rw [hg]; exact Nat.ne_of_lt (blk_lt (g := gb109) (o := .cells #[.int .u64 t102, .int .u64 t103, .int .u64 t104, .bool t105] 26 (0, 0)) (by (with_reducible repeat (first | refine zq0 ?_ _ | refine zq2 ?_ | refine zq1 ?_ _)); exact BK109.out)) : gb109 ≠ gb126))
           have n13_ := zq3 ((by rw [hg]; exact Nat.ne_of_gt (blk_lt (g := gb109) (o := .cells #[.int .u64 t102, .int .u64 t103, .int .u64 t104, .bool t105] 26 (0, 0)) (by (with_reducible repeat (first | refine zq0 ?_ _ | refine zq2 ?_ | refine zq1 ?_ _)); exact BK109.out)) : gb126 ≠ gb109))
           have n14_ := zq3 ((by rw [hg]; exact Nat.ne_of_lt (blk_lt (g := gb118) (o := .cells #[.int .u64 t113, .int .u64 t114, .int .u64 t115, .bool t116] 26 (0, 0)) (by (with_reducible repeat (first | refine zq0 ?_ _ | refine zq2 ?_ | refine zq1 ?_ _)); exact BK118.out)) : gb118 ≠ gb126))
           have n15_ := zq3 ((by rw [hg]; exact Nat.ne_of_gt (blk_lt (g := gb118) (o := .cells #[.int .u64 t113, .int .u64 t114, .int .u64 t115, .bool t116] 26 (0, 0)) (by (with_reducible repeat (first | refine zq0 ?_ _ | refine zq2 ?_ | refine zq1 ?_ _)); exact BK118.out)) : gb126 ≠ gb118))
           clear BK101
           clear BK107
           clear BK109
           clear BK118
           clear HB
           have BK101 := n0_
           have BK107 := n1_
           have BK109 := n2_
           have BK118 := n3_
           have HB := n4_
           have BK126 := n5_
           have GW126 := n6_
           have GE126 := n7_
           have NB101_126 := n8_
           have NB126_101 := n9_
           have NB107_126 := n10_
           have NB126_107 := n11_
           have NB109_126 := n12_
           have NB126_109 := n13_
           have NB118_126 := n14_
           have NB126_118 := n15_
           clear n0_ n1_ n2_ n3_ n4_ n5_ n6_ n7_ n8_ n9_ n10_ n11_ n12_ n13_ n14_ n15_
           clear hb hbox hg
           refine hK.out _ _ ⟨(zq5 BK101.out 0).trans rfl, (zq5 BK101.out 1).trans rfl, (zq5 BK101.out 2).trans rfl, (zq5 BK101.out 3).trans rfl, (zq5 BK101.out 4).trans rfl, (zq5 BK101.out 5).trans rfl, (zq5 BK107.out 0).trans rfl, (zq5 BK107.out 1).trans rfl, (zq5 BK107.out 2).trans rfl, (zq5 BK107.out 3).trans rfl, ((HB.out.cell (World.block_lt_of_cell? w _ hw119_0)).trans hw119_0), ((HB.out.cell (World.block_lt_of_cell? w _ hw119_1)).trans hw119_1), ((HB.out.cell (World.block_lt_of_cell? w _ hw119_2)).trans hw119_2), ((HB.out.cell (World.block_lt_of_cell? w _ hw120_0)).trans hw120_0), ((HB.out.cell (World.block_lt_of_cell? w _ hw120_1)).trans hw120_1), ((HB.out.cell (World.block_lt_of_cell? w _ hw120_2)).trans hw120_2)⟩ (fun hHeld => ?_)
           clear hK K
           refine norm_ (a' := ?_) ?_ ?_
           rotate_left
           ·
            show Act.put _ (some 12) _ = _
            simp only [Act.put, List.setIfInBounds_toArray, List.set_cons_zero, List.set_cons_succ, i64_w, i32_w]
            rfl
           refine one_ (i := 13) (N := some 70) #[true, true, true, true, true, true, true, true, true, true, true, true, true, true, false, false, false, true, false, false] rfl rfl (one_of HT_.out (by kernel_rfl)) (by decide) (fun K hK => ?_)
           refine goes_ Try.func14 (by kernel_rfl) rfl #[.agg #[.int .i64 a0_0, .bool a0_1, .int .u64 a0_2, .int .u64 a0_3, .int .u64 a0_4, .int .u64 a0_5], .agg #[.int .u64 x108000_2, .int .u64 x108001_2, .int .u64 x108002_2, .bool x108003_2], .int .u64 ((rd_T28 l1 x8_2).f0), .int .i64 ((rd_T28 l1 x8_2).f1), .int .i64 ((rd_T28 l1 x8_2).f2)] (by rfl) rfl rfl (by (try simp only [List.map_toArray, List.map_cons, List.map_nil]); first | done | rfl | (simp only [List.length_drop, List.length_take]; rfl)) ?_
           with_reducible refine (double_Stepd.calls a0_0 a0_1 a0_2 a0_3 a0_4 a0_5 x108000_2 x108001_2 x108002_2 x108003_2 ((rd_T28 l1 x8_2).f0) ((rd_T28 l1 x8_2).f1) ((rd_T28 l1 x8_2).f2) t121 t122 t123 t124 t125 _ A25.out).mono ?_
           rintro e w39 ⟨rfl, hb⟩
           refine ⟨_, rfl, ?_⟩
           have n0_ := zq3 (zq10 (g := gb101) (o := .cells #[.int .i64 a0_0, .bool a0_1, .int .u64 a0_2, .int .u64 a0_3, .int .u64 a0_4, .int .u64 a0_5] 24 (0, 0)) (by (with_reducible repeat (first | refine zq0 ?_ _ | refine zq2 ?_ | refine zq1 ?_ _)); exact BK101.out) hb)
           have n1_ := zq3 (zq10 (g := gb107) (o := .cells #[.int .u64 x108000_2, .int .u64 x108001_2, .int .u64 x108002_2, .bool x108003_2] 26 (0, 0)) (by (with_reducible repeat (first | refine zq0 ?_ _ | refine zq2 ?_ | refine zq1 ?_ _)); exact BK107.out) hb)
           have n2_ := zq3 (zq10 (g := gb109) (o := .cells #[.int .u64 t102, .int .u64 t103, .int .u64 t104, .bool t105] 26 (0, 0)) (by (with_reducible repeat (first | refine zq0 ?_ _ | refine zq2 ?_ | refine zq1 ?_ _)); exact BK109.out) hb)
           have n3_ := zq3 (zq10 (g := gb118) (o := .cells #[.int .u64 t113, .int .u64 t114, .int .u64 t115, .bool t116] 26 (0, 0)) (by (with_reducible repeat (first | refine zq0 ?_ _ | refine zq2 ?_ | refine zq1 ?_ _)); exact BK118.out) hb)
           have n4_ := zq3 (zq10 (g := gb126) (o := .cells #[.int .u64 0, .int .u64 0, .int .u64 0, .bool false] 26 (0, 0)) (by (with_reducible repeat (first | refine zq0 ?_ _ | refine zq2 ?_ | refine zq1 ?_ _)); exact BK126.out) hb)
           have n5_ := zq3 (below_step (by repeat (first | (with_reducible first | exact HB.out | apply zq9 | apply zq7 | apply zq8 | refine zq6 ?_ GE101.out | refine zq6 ?_ GE107.out | refine zq6 ?_ GE109.out | refine zq6 ?_ GE118.out | refine zq6 ?_ GE126.out) | exact HB.out)) hb)
           clear BK101
           clear BK107
           clear BK109
           clear BK118
           clear BK126
           clear HB
           have BK101 := n0_
           have BK107 := n1_
           have BK109 := n2_
           have BK118 := n3_
           have BK126 := n4_
           have HB := n5_
           clear n0_ n1_ n2_ n3_ n4_ n5_
           (try clear hb)
           (try clear hb2)
           (try clear hk)
           (try clear hi)
           refine hK.out _ _ ⟨(zq5 BK101.out 0).trans rfl, (zq5 BK101.out 1).trans rfl, (zq5 BK101.out 2).trans rfl, (zq5 BK101.out 3).trans rfl, (zq5 BK101.out 4).trans rfl, (zq5 BK101.out 5).trans rfl, (zq5 BK107.out 0).trans rfl, (zq5 BK107.out 1).trans rfl, (zq5 BK107.out 2).trans rfl, (zq5 BK107.out 3).trans rfl, ((HB.out.cell (World.block_lt_of_cell? w _ hw119_0)).trans hw119_0), ((HB.out.cell (World.block_lt_of_cell? w _ hw119_1)).trans hw119_1), ((HB.out.cell (World.block_lt_of_cell? w _ hw119_2)).trans hw119_2), ((HB.out.cell (World.block_lt_of_cell? w _ hw120_0)).trans hw120_0), ((HB.out.cell (World.block_lt_of_cell? w _ hw120_1)).trans hw120_1), ((HB.out.cell (World.block_lt_of_cell? w _ hw120_2)).trans hw120_2)⟩ (fun hHeld => ?_)
           clear hK K
           refine norm_ (a' := ?_) ?_ ?_
           rotate_left
           ·
            show Act.put _ (some 70) _ = _
            simp only [Act.put, List.setIfInBounds_toArray, List.set_cons_zero, List.set_cons_succ, i64_w, i32_w]
            rfl
           refine pure_ (i := 14) (N := some 56) (v := ?_) (a' := ?_) #[true, true, true, true, true, true, true, true, true, true, true, true, true, true, true, false, false, true, false, false] rfl rfl (any_of HT_.out (by kernel_rfl)) (fun _ _ _ h => h) (Or.inl ⟨by rfl, ?_⟩) ?_ ?_
           rotate_left
           ·
            intro w'
            go_simp
            with_reducible rfl
           rotate_left
           ·
            simp only [Act.put, List.setIfInBounds_toArray, List.set_cons_zero, List.set_cons_succ, i64_w, i32_w]
            rfl
           refine pure_ (i := 15) (N := some 71) (v := ?_) (a' := ?_) #[true, true, true, true, true, true, true, true, true, true, true, true, true, true, true, true, false, true, false, false] rfl rfl (any_of HT_.out (by kernel_rfl)) (fun _ _ _ h => h) (Or.inl ⟨by rfl, ?_⟩) ?_ ?_
           rotate_left
           ·
            intro w'
            go_simp
            with_reducible rfl
           rotate_left
           ·
            simp only [Act.put, List.setIfInBounds_toArray, List.set_cons_zero, List.set_cons_succ, i64_w, i32_w]
            rfl
           refine pure_ (i := 16) (N := some 72) (v := ?_) (a' := ?_) #[true, true, true, true, true, true, true, true, true, true, true, true, true, true, true, true, true, true, false, false] rfl rfl (any_of HT_.out (by kernel_rfl)) (fun _ _ _ h => h) (Or.inl ⟨by rfl, ?_⟩) ?_ ?_
           rotate_left
           ·
            intro w'
            go_simp
            with_reducible rfl
           rotate_left
           ·
            simp only [Act.put, List.setIfInBounds_toArray, List.set_cons_zero, List.set_cons_succ, i64_w, i32_w]
            rfl
           exact norm_ (by simp only [putAll, Act.put, List.setIfInBounds_toArray, List.set_cons_zero, List.set_cons_succ]) (hCont (gb126) _ ⟨hHeld, (by (with_reducible repeat (first | refine zq0 ?_ _ | refine zq2 ?_ | refine zq1 ?_ _)); exact BK101.out), (by (with_reducible repeat (first | refine zq0 ?_ _ | refine zq2 ?_ | refine zq1 ?_ _)); exact BK107.out), (by (with_reducible repeat (first | refine zq0 ?_ _ | refine zq2 ?_ | refine zq1 ?_ _)); exact BK109.out), (by (with_reducible repeat (first | refine zq0 ?_ _ | refine zq2 ?_ | refine zq1 ?_ _)); exact BK118.out), (by (with_reducible repeat (first | refine zq0 ?_ _ | refine zq2 ?_ | refine zq1 ?_ _)); exact BK126.out), GW126.out, GE126.out, NB101_126.out, NB126_101.out, NB107_126.out, NB126_107.out, NB109_126.out, NB126_109.out, NB118_126.out, NB126_118.out, (by repeat (first | (with_reducible first | exact HB.out | apply zq9 | apply zq7 | apply zq8 | refine zq6 ?_ GE101.out | refine zq6 ?_ GE107.out | refine zq6 ?_ GE109.out | refine zq6 ?_ GE118.out | refine zq6 ?_ GE126.out) | exact HB.out))⟩)
         rintro gb126 w40 ⟨hS_, h0_, h1_, h2_, h3_, h4_, h5_, h6_, h7_, h8_, h9_, h10_, h11_, h12_, h13_, h14_, h15_⟩
         have n0_ : Aside0 (w40.heap[gb101]? = some (.cells #[.int .i64 a0_0, .bool a0_1, .int .u64 a0_2, .int .u64 a0_3, .int .u64 a0_4, .int .u64 a0_5] 24 (0, 0))) := ⟨h0_⟩
         have n1_ : Aside0 (w40.heap[gb107]? = some (.cells #[.int .u64 x108000_2, .int .u64 x108001_2, .int .u64 x108002_2, .bool x108003_2] 26 (0, 0))) := ⟨h1_⟩
         have n2_ : Aside0 (w40.heap[gb109]? = some (.cells #[.int .u64 t102, .int .u64 t103, .int .u64 t104, .bool t105] 26 (0, 0))) := ⟨h2_⟩
         have n3_ : Aside0 (w40.heap[gb118]? = some (.cells #[.int .u64 t113, .int .u64 t114, .int .u64 t115, .bool t116] 26 (0, 0))) := ⟨h3_⟩
         have n4_ : Aside0 (w40.heap[gb126]? = some (.cells #[.int .u64 0, .int .u64 0, .int .u64 0, .bool false] 26 (0, 0))) := ⟨h4_⟩
         have n5_ : Aside0 (w.heap.size ≤ gb126) := ⟨h5_⟩
         have n6_ : Aside0 (w.heap.size ≤ gb126) := ⟨h6_⟩
         have n7_ : Aside0 (gb101 ≠ gb126) := ⟨h7_⟩
         have n8_ : Aside0 (gb126 ≠ gb101) := ⟨h8_⟩
         have n9_ : Aside0 (gb107 ≠ gb126) := ⟨h9_⟩
         have n10_ : Aside0 (gb126 ≠ gb107) := ⟨h10_⟩
         have n11_ : Aside0 (gb109 ≠ gb126) := ⟨h11_⟩
         have n12_ : Aside0 (gb126 ≠ gb109) := ⟨h12_⟩
         have n13_ : Aside0 (gb118 ≠ gb126) := ⟨h13_⟩
         have n14_ : Aside0 (gb126 ≠ gb118) := ⟨h14_⟩
         have n15_ : Aside0 (Below w.heap.size w w40) := ⟨h15_⟩
         clear BK101
         clear BK107
         clear BK109
         clear BK118
         clear HB
         clear h0_ h1_ h2_ h3_ h4_ h5_ h6_ h7_ h8_ h9_ h10_ h11_ h12_ h13_ h14_ h15_
         have BK101 := n0_
         have BK107 := n1_
         have BK109 := n2_
         have BK118 := n3_
         have BK126 := n4_
         have GW126 := n5_
         have GE126 := n6_
         have NB101_126 := n7_
         have NB126_101 := n8_
         have NB107_126 := n9_
         have NB126_107 := n10_
         have NB109_126 := n11_
         have NB126_109 := n12_
         have NB118_126 := n13_
         have NB126_118 := n14_
         have HB := n15_
         clear n0_ n1_ n2_ n3_ n4_ n5_ n6_ n7_ n8_ n9_ n10_ n11_ n12_ n13_ n14_ n15_
         have hHeld : w40.cell? ⟨gb101, 0, none⟩ = some (.int .i64 a0_0) ∧ w40.cell? ⟨gb101, 1, none⟩ = some (.bool a0_1) ∧ w40.cell? ⟨gb101, 2, none⟩ = some (.int .u64 a0_2) ∧ w40.cell? ⟨gb101, 3, none⟩ = some (.int .u64 a0_3) ∧ w40.cell? ⟨gb101, 4, none⟩ = some (.int .u64 a0_4) ∧ w40.cell? ⟨gb101, 5, none⟩ = some (.int .u64 a0_5) ∧ w40.cell? ⟨gb107, 0, none⟩ = some (.int .u64 x108000_2) ∧ w40.cell? ⟨gb107, 1, none⟩ = some (.int .u64 x108001_2) ∧ w40.cell? ⟨gb107, 2, none⟩ = some (.int .u64 x108002_2) ∧ w40.cell? ⟨gb107, 3, none⟩ = some (.bool x108003_2) ∧ w40.cell? (ad111.add ((x8_2).toNat * 3)) = some (.int .u64 ((rd_T28 l1 x8_2).f0)) ∧ w40.cell? ⟨(ad111.add ((x8_2).toNat * 3)).block, (ad111.add ((x8_2).toNat * 3)).off + 1, none⟩ = some (.int .i64 ((rd_T28 l1 x8_2).f1)) ∧ w40.cell? ⟨(ad111.add ((x8_2).toNat * 3)).block, (ad111.add ((x8_2).toNat * 3)).off + 2, none⟩ = some (.int .i64 ((rd_T28 l1 x8_2).f2)) ∧ w40.cell? (ad111.add ((x8_2).toNat * 3)) = some (.int .u64 ((rd_T28 l1 x8_2).f0)) ∧ w40.cell? ⟨(ad111.add ((x8_2).toNat * 3)).block, (ad111.add ((x8_2).toNat * 3)).off + 1, none⟩ = some (.int .i64 ((rd_T28 l1 x8_2).f1)) ∧ w40.cell? ⟨(ad111.add ((x8_2).toNat * 3)).block, (ad111.add ((x8_2).toNat * 3)).off + 2, none⟩ = some (.int .i64 ((rd_T28 l1 x8_2).f2)) := hS_
         refine norm_ (a' := ?_) ?_ ?_
         rotate_left
         ·
          simp only [putAll, Act.put, List.setIfInBounds_toArray, List.set_cons_zero, List.set_cons_succ]
          rfl
         refine one_ (i := 18) (N := none) #[true, true, true, true, true, true, true, true, true, true, true, true, true, true, true, true, true, true, true, false] rfl rfl (one_of HT_.out (by kernel_rfl)) (by decide) (fun K hK => ?_)
         have hs41 : w40.cell? ⟨gb126, 0, none⟩ = some (.int .u64 0) := (zq5 BK126.out 0).trans rfl
         have hfs41 := zq4 BK126.out 0
         have hns41_0 := NB101_126.out
         have hns41_1 := NB107_126.out
         have hns41_2 := NB109_126.out
         have hns41_3 := NB118_126.out
         have hms41_0 := NB126_101.out
         have hms41_1 := NB126_107.out
         have hms41_2 := NB126_109.out
         have hms41_3 := NB126_118.out
         have hs42 : w40.cell? ⟨gb126, 1, none⟩ = some (.int .u64 0) := (zq5 BK126.out 1).trans rfl
         have hfs42 := zq4 BK126.out 1
         have hns42_0 := NB101_126.out
         have hns42_1 := NB107_126.out
         have hns42_2 := NB109_126.out
         have hns42_3 := NB118_126.out
         have hms42_0 := NB126_101.out
         have hms42_1 := NB126_107.out
         have hms42_2 := NB126_109.out
         have hms42_3 := NB126_118.out
         have hs43 : w40.cell? ⟨gb126, 2, none⟩ = some (.int .u64 0) := (zq5 BK126.out 2).trans rfl
         have hfs43 := zq4 BK126.out 2
         have hns43_0 := NB101_126.out
         have hns43_1 := NB107_126.out
         have hns43_2 := NB109_126.out
         have hns43_3 := NB118_126.out
         have hms43_0 := NB126_101.out
         have hms43_1 := NB126_107.out
         have hms43_2 := NB126_109.out
         have hms43_3 := NB126_118.out
         have hs44 : w40.cell? ⟨gb126, 3, none⟩ = some (.bool false) := (zq5 BK126.out 3).trans rfl
         have hfs44 := zq4 BK126.out 3
         have hns44_0 := NB101_126.out
         have hns44_1 := NB107_126.out
         have hns44_2 := NB109_126.out
         have hns44_3 := NB118_126.out
         have hms44_0 := NB126_101.out
         have hms44_1 := NB126_107.out
         have hms44_2 := NB126_109.out
         have hms44_3 := NB126_118.out
         refine skip_ (w1 := ?_) (by rfl) rfl ?_ ?_
         rotate_left
         ·
          go_simp
          rfl
         refine hK.out _ _ ⟨((cell_far (p := ⟨gb126, _, none⟩) NB101_126.out _).trans (((cell_far (p := ⟨gb126, _, none⟩) NB101_126.out _).trans (((cell_far (p := ⟨gb126, _, none⟩) NB101_126.out _).trans (((cell_far (p := ⟨gb126, _, none⟩) NB101_126.out _).trans (hHeld.1)))))))), ((cell_far (p := ⟨gb126, _, none⟩) NB101_126.out _).trans (((cell_far (p := ⟨gb126, _, none⟩) NB101_126.out _).trans (((cell_far (p := ⟨gb126, _, none⟩) NB101_126.out _).trans (((cell_far (p := ⟨gb126, _, none⟩) NB101_126.out _).trans (hHeld.2.1)))))))), ((cell_far (p := ⟨gb126, _, none⟩) NB101_126.out _).trans (((cell_far (p := ⟨gb126, _, none⟩) NB101_126.out _).trans (((cell_far (p := ⟨gb126, _, none⟩) NB101_126.out _).trans (((cell_far (p := ⟨gb126, _, none⟩) NB101_126.out _).trans (hHeld.2.2.1)))))))), ((cell_far (p := ⟨gb126, _, none⟩) NB101_126.out _).trans (((cell_far (p := ⟨gb126, _, none⟩) NB101_126.out _).trans (((cell_far (p := ⟨gb126, _, none⟩) NB101_126.out _).trans (((cell_far (p := ⟨gb126, _, none⟩) NB101_126.out _).trans (hHeld.2.2.2.1)))))))), ((cell_far (p := ⟨gb126, _, none⟩) NB101_126.out _).trans (((cell_far (p := ⟨gb126, _, none⟩) NB101_126.out _).trans (((cell_far (p := ⟨gb126, _, none⟩) NB101_126.out _).trans (((cell_far (p := ⟨gb126, _, none⟩) NB101_126.out _).trans (hHeld.2.2.2.2.1)))))))), ((cell_far (p := ⟨gb126, _, none⟩) NB101_126.out _).trans (((cell_far (p := ⟨gb126, _, none⟩) NB101_126.out _).trans (((cell_far (p := ⟨gb126, _, none⟩) NB101_126.out _).trans (((cell_far (p := ⟨gb126, _, none⟩) NB101_126.out _).trans (hHeld.2.2.2.2.2.1)))))))), ((cell_far (p := ⟨gb126, _, none⟩) NB107_126.out _).trans (((cell_far (p := ⟨gb126, _, none⟩) NB107_126.out _).trans (((cell_far (p := ⟨gb126, _, none⟩) NB107_126.out _).trans (((cell_far (p := ⟨gb126, _, none⟩) NB107_126.out _).trans (hHeld.2.2.2.2.2.2.1)))))))), ((cell_far (p := ⟨gb126, _, none⟩) NB107_126.out _).trans (((cell_far (p := ⟨gb126, _, none⟩) NB107_126.out _).trans (((cell_far (p := ⟨gb126, _, none⟩) NB107_126.out _).trans (((cell_far (p := ⟨gb126, _, none⟩) NB107_126.out _).trans (hHeld.2.2.2.2.2.2.2.1)))))))), ((cell_far (p := ⟨gb126, _, none⟩) NB107_126.out _).trans (((cell_far (p := ⟨gb126, _, none⟩) NB107_126.out _).trans (((cell_far (p := ⟨gb126, _, none⟩) NB107_126.out _).trans (((cell_far (p := ⟨gb126, _, none⟩) NB107_126.out _).trans (hHeld.2.2.2.2.2.2.2.2.1)))))))), ((cell_far (p := ⟨gb126, _, none⟩) NB107_126.out _).trans (((cell_far (p := ⟨gb126, _, none⟩) NB107_126.out _).trans (((cell_far (p := ⟨gb126, _, none⟩) NB107_126.out _).trans (((cell_far (p := ⟨gb126, _, none⟩) NB107_126.out _).trans (hHeld.2.2.2.2.2.2.2.2.2.1)))))))), ((cell_far (p := ⟨gb126, _, none⟩) (by first | exact Nat.ne_of_lt (Nat.lt_of_lt_of_le (by have := World.block_lt_of_cell? _ _ hw119_0; first | rwa [add_block] at this | exact this) GW126.out) | (rw [add_block]; exact Nat.ne_of_lt (Nat.lt_of_lt_of_le (by have := World.block_lt_of_cell? _ _ hw119_0; first | rwa [add_block] at this | exact this) GW126.out)) | (show (Addr.add _ _).block ≠ _; rw [add_block]; exact Nat.ne_of_lt (Nat.lt_of_lt_of_le (by have := World.block_lt_of_cell? _ _ hw119_0; first | rwa [add_block] at this | exact this) GW126.out)) | (dsimp only; exact Nat.ne_of_lt (Nat.lt_of_lt_of_le (by have := World.block_lt_of_cell? _ _ hw119_0; first | rwa [add_block] at this | exact this) GW126.out))) _).trans (((cell_far (p := ⟨gb126, _, none⟩) (by first | exact Nat.ne_of_lt (Nat.lt_of_lt_of_le (by have := World.block_lt_of_cell? _ _ hw119_0; first | rwa [add_block] at this | exact this) GW126.out) | (rw [add_block]; exact Nat.ne_of_lt (Nat.lt_of_lt_of_le (by have := World.block_lt_of_cell? _ _ hw119_0; first | rwa [add_block] at this | exact this) GW126.out)) | (show (Addr.add _ _).block ≠ _; rw [add_block]; exact Nat.ne_of_lt (Nat.lt_of_lt_of_le (by have := World.block_lt_of_cell? _ _ hw119_0; first | rwa [add_block] at this | exact this) GW126.out)) | (dsimp only; exact Nat.ne_of_lt (Nat.lt_of_lt_of_le (by have := World.block_lt_of_cell? _ _ hw119_0; first | rwa [add_block] at this | exact this) GW126.out))) _).trans (((cell_far (p := ⟨gb126, _, none⟩) (by first | exact Nat.ne_of_lt (Nat.lt_of_lt_of_le (by have := World.block_lt_of_cell? _ _ hw119_0; first | rwa [add_block] at this | exact this) GW126.out) | (rw [add_block]; exact Nat.ne_of_lt (Nat.lt_of_lt_of_le (by have := World.block_lt_of_cell? _ _ hw119_0; first | rwa [add_block] at this | exact this) GW126.out)) | (show (Addr.add _ _).block ≠ _; rw [add_block]; exact Nat.ne_of_lt (Nat.lt_of_lt_of_le (by have := World.block_lt_of_cell? _ _ hw119_0; first | rwa [add_block] at this | exact this) GW126.out)) | (dsimp only; exact Nat.ne_of_lt (Nat.lt_of_lt_of_le (by have := World.block_lt_of_cell? _ _ hw119_0; first | rwa [add_block] at this | exact this) GW126.out))) _).trans (((cell_far (p := ⟨gb126, _, none⟩) (by first | exact Nat.ne_of_lt (Nat.lt_of_lt_of_le (by have := World.block_lt_of_cell? _ _ hw119_0; first | rwa [add_block] at this | exact this) GW126.out) | (rw [add_block]; exact Nat.ne_of_lt (Nat.lt_of_lt_of_le (by have := World.block_lt_of_cell? _ _ hw119_0; first | rwa [add_block] at this | exact this) GW126.out)) | (show (Addr.add _ _).block ≠ _; rw [add_block]; exact Nat.ne_of_lt (Nat.lt_of_lt_of_le (by have := World.block_lt_of_cell? _ _ hw119_0; first | rwa [add_block] at this | exact this) GW126.out)) | (dsimp only; exact Nat.ne_of_lt (Nat.lt_of_lt_of_le (by have := World.block_lt_of_cell? _ _ hw119_0; first | rwa [add_block] at this | exact this) GW126.out))) _).trans (hHeld.2.2.2.2.2.2.2.2.2.2.1)))))))), ((cell_far (p := ⟨gb126, _, none⟩) (by first | exact Nat.ne_of_lt (Nat.lt_of_lt_of_le (by have := World.block_lt_of_cell? _ _ hw119_1; first | rwa [add_block] at this | exact this) GW126.out) | (rw [add_block]; exact Nat.ne_of_lt (Nat.lt_of_lt_of_le (by have := World.block_lt_of_cell? _ _ hw119_1; first | rwa [add_block] at this | exact this) GW126.out)) | (show (Addr.add _ _).block ≠ _; rw [add_block]; exact Nat.ne_of_lt (Nat.lt_of_lt_of_le (by have := World.block_lt_of_cell? _ _ hw119_1; first | rwa [add_block] at this | exact this) GW126.out)) | (dsimp only; exact Nat.ne_of_lt (Nat.lt_of_lt_of_le (by have := World.block_lt_of_cell? _ _ hw119_1; first | rwa [add_block] at this | exact this) GW126.out))) _).trans (((cell_far (p := ⟨gb126, _, none⟩) (by first | exact Nat.ne_of_lt (Nat.lt_of_lt_of_le (by have := World.block_lt_of_cell? _ _ hw119_1; first | rwa [add_block] at this | exact this) GW126.out) | (rw [add_block]; exact Nat.ne_of_lt (Nat.lt_of_lt_of_le (by have := World.block_lt_of_cell? _ _ hw119_1; first | rwa [add_block] at this | exact this) GW126.out)) | (show (Addr.add _ _).block ≠ _; rw [add_block]; exact Nat.ne_of_lt (Nat.lt_of_lt_of_le (by have := World.block_lt_of_cell? _ _ hw119_1; first | rwa [add_block] at this | exact this) GW126.out)) | (dsimp only; exact Nat.ne_of_lt (Nat.lt_of_lt_of_le (by have := World.block_lt_of_cell? _ _ hw119_1; first | rwa [add_block] at this | exact this) GW126.out))) _).trans (((cell_far (p := ⟨gb126, _, none⟩) (by first | exact Nat.ne_of_lt (Nat.lt_of_lt_of_le (by have := World.block_lt_of_cell? _ _ hw119_1; first | rwa [add_block] at this | exact this) GW126.out) | (rw [add_block]; exact Nat.ne_of_lt (Nat.lt_of_lt_of_le (by have := World.block_lt_of_cell? _ _ hw119_1; first | rwa [add_block] at this | exact this) GW126.out)) | (show (Addr.add _ _).block ≠ _; rw [add_block]; exact Nat.ne_of_lt (Nat.lt_of_lt_of_le (by have := World.block_lt_of_cell? _ _ hw119_1; first | rwa [add_block] at this | exact this) GW126.out)) | (dsimp only; exact Nat.ne_of_lt (Nat.lt_of_lt_of_le (by have := World.block_lt_of_cell? _ _ hw119_1; first | rwa [add_block] at this | exact this) GW126.out))) _).trans (((cell_far (p := ⟨gb126, _, none⟩) (by first | exact Nat.ne_of_lt (Nat.lt_of_lt_of_le (by have := World.block_lt_of_cell? _ _ hw119_1; first | rwa [add_block] at this | exact this) GW126.out) | (rw [add_block]; exact Nat.ne_of_lt (Nat.lt_of_lt_of_le (by have := World.block_lt_of_cell? _ _ hw119_1; first | rwa [add_block] at this | exact this) GW126.out)) | (show (Addr.add _ _).block ≠ _; rw [add_block]; exact Nat.ne_of_lt (Nat.lt_of_lt_of_le (by have := World.block_lt_of_cell? _ _ hw119_1; first | rwa [add_block] at this | exact this) GW126.out)) | (dsimp only; exact Nat.ne_of_lt (Nat.lt_of_lt_of_le (by have := World.block_lt_of_cell? _ _ hw119_1; first | rwa [add_block] at this | exact this) GW126.out))) _).trans (hHeld.2.2.2.2.2.2.2.2.2.2.2.1)))))))), ((cell_far (p := ⟨gb126, _, none⟩) (by first | exact Nat.ne_of_lt (Nat.lt_of_lt_of_le (by have := World.block_lt_of_cell? _ _ hw119_2; first | rwa [add_block] at this | exact this) GW126.out) | (rw [add_block]; exact Nat.ne_of_lt (Nat.lt_of_lt_of_le (by have := World.block_lt_of_cell? _ _ hw119_2; first | rwa [add_block] at this | exact this) GW126.out)) | (show (Addr.add _ _).block ≠ _; rw [add_block]; exact Nat.ne_of_lt (Nat.lt_of_lt_of_le (by have := World.block_lt_of_cell? _ _ hw119_2; first | rwa [add_block] at this | exact this) GW126.out)) | (dsimp only; exact Nat.ne_of_lt (Nat.lt_of_lt_of_le (by have := World.block_lt_of_cell? _ _ hw119_2; first | rwa [add_block] at this | exact this) GW126.out))) _).trans (((cell_far (p := ⟨gb126, _, none⟩) (by first | exact Nat.ne_of_lt (Nat.lt_of_lt_of_le (by have := World.block_lt_of_cell? _ _ hw119_2; first | rwa [add_block] at this | exact this) GW126.out) | (rw [add_block]; exact Nat.ne_of_lt (Nat.lt_of_lt_of_le (by have := World.block_lt_of_cell? _ _ hw119_2; first | rwa [add_block] at this | exact this) GW126.out)) | (show (Addr.add _ _).block ≠ _; rw [add_block]; exact Nat.ne_of_lt (Nat.lt_of_lt_of_le (by have := World.block_lt_of_cell? _ _ hw119_2; first | rwa [add_block] at this | exact this) GW126.out)) | (dsimp only; exact Nat.ne_of_lt (Nat.lt_of_lt_of_le (by have := World.block_lt_of_cell? _ _ hw119_2; first | rwa [add_block] at this | exact this) GW126.out))) _).trans (((cell_far (p := ⟨gb126, _, none⟩) (by first | exact Nat.ne_of_lt (Nat.lt_of_lt_of_le (by have := World.block_lt_of_cell? _ _ hw119_2; first | rwa [add_block] at this | exact this) GW126.out) | (rw [add_block]; exact Nat.ne_of_lt (Nat.lt_of_lt_of_le (by have := World.block_lt_of_cell? _ _ hw119_2; first | rwa [add_block] at this | exact this) GW126.out)) | (show (Addr.add _ _).block ≠ _; rw [add_block]; exact Nat.ne_of_lt (Nat.lt_of_lt_of_le (by have := World.block_lt_of_cell? _ _ hw119_2; first | rwa [add_block] at this | exact this) GW126.out)) | (dsimp only; exact Nat.ne_of_lt (Nat.lt_of_lt_of_le (by have := World.block_lt_of_cell? _ _ hw119_2; first | rwa [add_block] at this | exact this) GW126.out))) _).trans (((cell_far (p := ⟨gb126, _, none⟩) (by first | exact Nat.ne_of_lt (Nat.lt_of_lt_of_le (by have := World.block_lt_of_cell? _ _ hw119_2; first | rwa [add_block] at this | exact this) GW126.out) | (rw [add_block]; exact Nat.ne_of_lt (Nat.lt_of_lt_of_le (by have := World.block_lt_of_cell? _ _ hw119_2; first | rwa [add_block] at this | exact this) GW126.out)) | (show (Addr.add _ _).block ≠ _; rw [add_block]; exact Nat.ne_of_lt (Nat.lt_of_lt_of_le (by have := World.block_lt_of_cell? _ _ hw119_2; first | rwa [add_block] at this | exact this) GW126.out)) | (dsimp only; exact Nat.ne_of_lt (Nat.lt_of_lt_of_le (by have := World.block_lt_of_cell? _ _ hw119_2; first | rwa [add_block] at this | exact this) GW126.out))) _).trans (hHeld.2.2.2.2.2.2.2.2.2.2.2.2.1)))))))), ((cell_far (p := ⟨gb126, _, none⟩) (by first | exact Nat.ne_of_lt (Nat.lt_of_lt_of_le (by have := World.block_lt_of_cell? _ _ hw120_0; first | rwa [add_block] at this | exact this) GW126.out) | (rw [add_block]; exact Nat.ne_of_lt (Nat.lt_of_lt_of_le (by have := World.block_lt_of_cell? _ _ hw120_0; first | rwa [add_block] at this | exact this) GW126.out)) | (show (Addr.add _ _).block ≠ _; rw [add_block]; exact Nat.ne_of_lt (Nat.lt_of_lt_of_le (by have := World.block_lt_of_cell? _ _ hw120_0; first | rwa [add_block] at this | exact this) GW126.out)) | (dsimp only; exact Nat.ne_of_lt (Nat.lt_of_lt_of_le (by have := World.block_lt_of_cell? _ _ hw120_0; first | rwa [add_block] at this | exact this) GW126.out))) _).trans (((cell_far (p := ⟨gb126, _, none⟩) (by first | exact Nat.ne_of_lt (Nat.lt_of_lt_of_le (by have := World.block_lt_of_cell? _ _ hw120_0; first | rwa [add_block] at this | exact this) GW126.out) | (rw [add_block]; exact Nat.ne_of_lt (Nat.lt_of_lt_of_le (by have := World.block_lt_of_cell? _ _ hw120_0; first | rwa [add_block] at this | exact this) GW126.out)) | (show (Addr.add _ _).block ≠ _; rw [add_block]; exact Nat.ne_of_lt (Nat.lt_of_lt_of_le (by have := World.block_lt_of_cell? _ _ hw120_0; first | rwa [add_block] at this | exact this) GW126.out)) | (dsimp only; exact Nat.ne_of_lt (Nat.lt_of_lt_of_le (by have := World.block_lt_of_cell? _ _ hw120_0; first | rwa [add_block] at this | exact this) GW126.out))) _).trans (((cell_far (p := ⟨gb126, _, none⟩) (by first | exact Nat.ne_of_lt (Nat.lt_of_lt_of_le (by have := World.block_lt_of_cell? _ _ hw120_0; first | rwa [add_block] at this | exact this) GW126.out) | (rw [add_block]; exact Nat.ne_of_lt (Nat.lt_of_lt_of_le (by have := World.block_lt_of_cell? _ _ hw120_0; first | rwa [add_block] at this | exact this) GW126.out)) | (show (Addr.add _ _).block ≠ _; rw [add_block]; exact Nat.ne_of_lt (Nat.lt_of_lt_of_le (by have := World.block_lt_of_cell? _ _ hw120_0; first | rwa [add_block] at this | exact this) GW126.out)) | (dsimp only; exact Nat.ne_of_lt (Nat.lt_of_lt_of_le (by have := World.block_lt_of_cell? _ _ hw120_0; first | rwa [add_block] at this | exact this) GW126.out))) _).trans (((cell_far (p := ⟨gb126, _, none⟩) (by first | exact Nat.ne_of_lt (Nat.lt_of_lt_of_le (by have := World.block_lt_of_cell? _ _ hw120_0; first | rwa [add_block] at this | exact this) GW126.out) | (rw [add_block]; exact Nat.ne_of_lt (Nat.lt_of_lt_of_le (by have := World.block_lt_of_cell? _ _ hw120_0; first | rwa [add_block] at this | exact this) GW126.out)) | (show (Addr.add _ _).block ≠ _; rw [add_block]; exact Nat.ne_of_lt (Nat.lt_of_lt_of_le (by have := World.block_lt_of_cell? _ _ hw120_0; first | rwa [add_block] at this | exact this) GW126.out)) | (dsimp only; exact Nat.ne_of_lt (Nat.lt_of_lt_of_le (by have := World.block_lt_of_cell? _ _ hw120_0; first | rwa [add_block] at this | exact this) GW126.out))) _).trans (hHeld.2.2.2.2.2.2.2.2.2.2.2.2.2.1)))))))), ((cell_far (p := ⟨gb126, _, none⟩) (by first | exact Nat.ne_of_lt (Nat.lt_of_lt_of_le (by have := World.block_lt_of_cell? _ _ hw120_1; first | rwa [add_block] at this | exact this) GW126.out) | (rw [add_block]; exact Nat.ne_of_lt (Nat.lt_of_lt_of_le (by have := World.block_lt_of_cell? _ _ hw120_1; first | rwa [add_block] at this | exact this) GW126.out)) | (show (Addr.add _ _).block ≠ _; rw [add_block]; exact Nat.ne_of_lt (Nat.lt_of_lt_of_le (by have := World.block_lt_of_cell? _ _ hw120_1; first | rwa [add_block] at this | exact this) GW126.out)) | (dsimp only; exact Nat.ne_of_lt (Nat.lt_of_lt_of_le (by have := World.block_lt_of_cell? _ _ hw120_1; first | rwa [add_block] at this | exact this) GW126.out))) _).trans (((cell_far (p := ⟨gb126, _, none⟩) (by first | exact Nat.ne_of_lt (Nat.lt_of_lt_of_le (by have := World.block_lt_of_cell? _ _ hw120_1; first | rwa [add_block] at this | exact this) GW126.out) | (rw [add_block]; exact Nat.ne_of_lt (Nat.lt_of_lt_of_le (by have := World.block_lt_of_cell? _ _ hw120_1; first | rwa [add_block] at this | exact this) GW126.out)) | (show (Addr.add _ _).block ≠ _; rw [add_block]; exact Nat.ne_of_lt (Nat.lt_of_lt_of_le (by have := World.block_lt_of_cell? _ _ hw120_1; first | rwa [add_block] at this | exact this) GW126.out)) | (dsimp only; exact Nat.ne_of_lt (Nat.lt_of_lt_of_le (by have := World.block_lt_of_cell? _ _ hw120_1; first | rwa [add_block] at this | exact this) GW126.out))) _).trans (((cell_far (p := ⟨gb126, _, none⟩) (by first | exact Nat.ne_of_lt (Nat.lt_of_lt_of_le (by have := World.block_lt_of_cell? _ _ hw120_1; first | rwa [add_block] at this | exact this) GW126.out) | (rw [add_block]; exact Nat.ne_of_lt (Nat.lt_of_lt_of_le (by have := World.block_lt_of_cell? _ _ hw120_1; first | rwa [add_block] at this | exact this) GW126.out)) | (show (Addr.add _ _).block ≠ _; rw [add_block]; exact Nat.ne_of_lt (Nat.lt_of_lt_of_le (by have := World.block_lt_of_cell? _ _ hw120_1; first | rwa [add_block] at this | exact this) GW126.out)) | (dsimp only; exact Nat.ne_of_lt (Nat.lt_of_lt_of_le (by have := World.block_lt_of_cell? _ _ hw120_1; first | rwa [add_block] at this | exact this) GW126.out))) _).trans (((cell_far (p := ⟨gb126, _, none⟩) (by first | exact Nat.ne_of_lt (Nat.lt_of_lt_of_le (by have := World.block_lt_of_cell? _ _ hw120_1; first | rwa [add_block] at this | exact this) GW126.out) | (rw [add_block]; exact Nat.ne_of_lt (Nat.lt_of_lt_of_le (by have := World.block_lt_of_cell? _ _ hw120_1; first | rwa [add_block] at this | exact this) GW126.out)) | (show (Addr.add _ _).block ≠ _; rw [add_block]; exact Nat.ne_of_lt (Nat.lt_of_lt_of_le (by have := World.block_lt_of_cell? _ _ hw120_1; first | rwa [add_block] at this | exact this) GW126.out)) | (dsimp only; exact Nat.ne_of_lt (Nat.lt_of_lt_of_le (by have := World.block_lt_of_cell? _ _ hw120_1; first | rwa [add_block] at this | exact this) GW126.out))) _).trans (hHeld.2.2.2.2.2.2.2.2.2.2.2.2.2.2.1)))))))), ((cell_far (p := ⟨gb126, _, none⟩) (by first | exact Nat.ne_of_lt (Nat.lt_of_lt_of_le (by have := World.block_lt_of_cell? _ _ hw120_2; first | rwa [add_block] at this | exact this) GW126.out) | (rw [add_block]; exact Nat.ne_of_lt (Nat.lt_of_lt_of_le (by have := World.block_lt_of_cell? _ _ hw120_2; first | rwa [add_block] at this | exact this) GW126.out)) | (show (Addr.add _ _).block ≠ _; rw [add_block]; exact Nat.ne_of_lt (Nat.lt_of_lt_of_le (by have := World.block_lt_of_cell? _ _ hw120_2; first | rwa [add_block] at this | exact this) GW126.out)) | (dsimp only; exact Nat.ne_of_lt (Nat.lt_of_lt_of_le (by have := World.block_lt_of_cell? _ _ hw120_2; first | rwa [add_block] at this | exact this) GW126.out))) _).trans (((cell_far (p := ⟨gb126, _, none⟩) (by first | exact Nat.ne_of_lt (Nat.lt_of_lt_of_le (by have := World.block_lt_of_cell? _ _ hw120_2; first | rwa [add_block] at this | exact this) GW126.out) | (rw [add_block]; exact Nat.ne_of_lt (Nat.lt_of_lt_of_le (by have := World.block_lt_of_cell? _ _ hw120_2; first | rwa [add_block] at this | exact this) GW126.out)) | (show (Addr.add _ _).block ≠ _; rw [add_block]; exact Nat.ne_of_lt (Nat.lt_of_lt_of_le (by have := World.block_lt_of_cell? _ _ hw120_2; first | rwa [add_block] at this | exact this) GW126.out)) | (dsimp only; exact Nat.ne_of_lt (Nat.lt_of_lt_of_le (by have := World.block_lt_of_cell? _ _ hw120_2; first | rwa [add_block] at this | exact this) GW126.out))) _).trans (((cell_far (p := ⟨gb126, _, none⟩) (by first | exact Nat.ne_of_lt (Nat.lt_of_lt_of_le (by have := World.block_lt_of_cell? _ _ hw120_2; first | rwa [add_block] at this | exact this) GW126.out) | (rw [add_block]; exact Nat.ne_of_lt (Nat.lt_of_lt_of_le (by have := World.block_lt_of_cell? _ _ hw120_2; first | rwa [add_block] at this | exact this) GW126.out)) | (show (Addr.add _ _).block ≠ _; rw [add_block]; exact Nat.ne_of_lt (Nat.lt_of_lt_of_le (by have := World.block_lt_of_cell? _ _ hw120_2; first | rwa [add_block] at this | exact this) GW126.out)) | (dsimp only; exact Nat.ne_of_lt (Nat.lt_of_lt_of_le (by have := World.block_lt_of_cell? _ _ hw120_2; first | rwa [add_block] at this | exact this) GW126.out))) _).trans (((cell_far (p := ⟨gb126, _, none⟩) (by first | exact Nat.ne_of_lt (Nat.lt_of_lt_of_le (by have := World.block_lt_of_cell? _ _ hw120_2; first | rwa [add_block] at this | exact this) GW126.out) | (rw [add_block]; exact Nat.ne_of_lt (Nat.lt_of_lt_of_le (by have := World.block_lt_of_cell? _ _ hw120_2; first | rwa [add_block] at this | exact this) GW126.out)) | (show (Addr.add _ _).block ≠ _; rw [add_block]; exact Nat.ne_of_lt (Nat.lt_of_lt_of_le (by have := World.block_lt_of_cell? _ _ hw120_2; first | rwa [add_block] at this | exact this) GW126.out)) | (dsimp only; exact Nat.ne_of_lt (Nat.lt_of_lt_of_le (by have := World.block_lt_of_cell? _ _ hw120_2; first | rwa [add_block] at this | exact this) GW126.out))) _).trans (hHeld.2.2.2.2.2.2.2.2.2.2.2.2.2.2.2))))))))⟩ (fun hHeld => ?_)
         clear hK K
         refine pure_ (i := 19) (N := some 13) (v := ?_) (a' := ?_) #[true, true, true, true, true, true, true, true, true, true, true, true, true, true, true, true, true, true, true, true] rfl rfl (any_of HT_.out (by kernel_rfl)) (fun _ _ _ h => h) (Or.inl ⟨by rfl, ?_⟩) ?_ ?_
         rotate_left
         ·
          intro w'
          go_simp
          with_reducible rfl
         rotate_left
         ·
          simp only [Act.put, List.setIfInBounds_toArray, List.set_cons_zero, List.set_cons_succ, i64_w, i32_w]
          rfl
         refine done_ (done_of HT_.out (by kernel_rfl)) ?_
         go_upto_region 13 with (first | ((with_reducible refine gate_callee (f := 19) rfl ?_); refine goesL_ (some 75) rfl rfl Try.func19 (by kernel_rfl) rfl #[.int .i64 ((rd_T28 l1 x8_2).f1)] rfl (by (try simp only [List.map_toArray, List.map_cons, List.map_nil]); first | done | rfl | (simp only [List.length_drop, List.length_take]; rfl)) ?_; (with_reducible refine (bucket_Need.calls ((rd_T28 l1 x8_2).f1) t127 t128 _ A26.out).mono ?_); rintro e w45 ⟨rfl, hb⟩; refine ⟨_, rfl, ?_⟩; have n0_ := zq3 (zq10 (g := gb101) (o := .cells #[.int .i64 a0_0, .bool a0_1, .int .u64 a0_2, .int .u64 a0_3, .int .u64 a0_4, .int .u64 a0_5] 24 (0, 0)) (by (with_reducible repeat (first | refine zq0 ?_ _ | refine zq2 ?_ | refine zq1 ?_ _)); refine zq11 ?_ NB101_126.out _; (with_reducible repeat (first | refine zq0 ?_ _ | refine zq2 ?_ | refine zq1 ?_ _)); refine zq11 ?_ NB101_126.out _; (with_reducible repeat (first | refine zq0 ?_ _ | refine zq2 ?_ | refine zq1 ?_ _)); refine zq11 ?_ NB101_126.out _; (with_reducible repeat (first | refine zq0 ?_ _ | refine zq2 ?_ | refine zq1 ?_ _)); refine zq11 ?_ NB101_126.out _; (with_reducible repeat (first | refine zq0 ?_ _ | refine zq2 ?_ | refine zq1 ?_ _)); exact BK101.out) hb); have n1_ := zq3 (zq10 (g := gb107) (o := .cells #[.int .u64 x108000_2, .int .u64 x108001_2, .int .u64 x108002_2, .bool x108003_2] 26 (0, 0)) (by (with_reducible repeat (first | refine zq0 ?_ _ | refine zq2 ?_ | refine zq1 ?_ _)); refine zq11 ?_ NB107_126.out _; (with_reducible repeat (first | refine zq0 ?_ _ | refine zq2 ?_ | refine zq1 ?_ _)); refine zq11 ?_ NB107_126.out _; (with_reducible repeat (first | refine zq0 ?_ _ | refine zq2 ?_ | refine zq1 ?_ _)); refine zq11 ?_ NB107_126.out _; (with_reducible repeat (first | refine zq0 ?_ _ | refine zq2 ?_ | refine zq1 ?_ _)); refine zq11 ?_ NB107_126.out _; (with_reducible repeat (first | refine zq0 ?_ _ | refine zq2 ?_ | refine zq1 ?_ _)); exact BK107.out) hb); have n2_ := zq3 (zq10 (g := gb109) (o := .cells #[.int .u64 t102, .int .u64 t103, .int .u64 t104, .bool t105] 26 (0, 0)) (by (with_reducible repeat (first | refine zq0 ?_ _ | refine zq2 ?_ | refine zq1 ?_ _)); refine zq11 ?_ NB109_126.out _; (with_reducible repeat (first | refine zq0 ?_ _ | refine zq2 ?_ | refine zq1 ?_ _)); refine zq11 ?_ NB109_126.out _; (with_reducible repeat (first | refine zq0 ?_ _ | refine zq2 ?_ | refine zq1 ?_ _)); refine zq11 ?_ NB109_126.out _; (with_reducible repeat (first | refine zq0 ?_ _ | refine zq2 ?_ | refine zq1 ?_ _)); refine zq11 ?_ NB109_126.out _; (with_reducible repeat (first | refine zq0 ?_ _ | refine zq2 ?_ | refine zq1 ?_ _)); exact BK109.out) hb); have n3_ := zq3 (zq10 (g := gb118) (o := .cells #[.int .u64 t113, .int .u64 t114, .int .u64 t115, .bool t116] 26 (0, 0)) (by (with_reducible repeat (first | refine zq0 ?_ _ | refine zq2 ?_ | refine zq1 ?_ _)); refine zq11 ?_ NB118_126.out _; (with_reducible repeat (first | refine zq0 ?_ _ | refine zq2 ?_ | refine zq1 ?_ _)); refine zq11 ?_ NB118_126.out _; (with_reducible repeat (first | refine zq0 ?_ _ | refine zq2 ?_ | refine zq1 ?_ _)); refine zq11 ?_ NB118_126.out _; (with_reducible repeat (first | refine zq0 ?_ _ | refine zq2 ?_ | refine zq1 ?_ _)); refine zq11 ?_ NB118_126.out _; (with_reducible repeat (first | refine zq0 ?_ _ | refine zq2 ?_ | refine zq1 ?_ _)); exact BK118.out) hb); have n4_ := zq3 (zq10 (g := gb126) (o := .cells #[.int .u64 t121, .int .u64 t122, .int .u64 t123, .bool t124] 26 (0, 0)) (by (with_reducible repeat (first | refine zq0 ?_ _ | refine zq2 ?_ | refine zq1 ?_ _)); refine blk_put (cs := #[.int .u64 t121, .int .u64 t122, .int .u64 t123, .bool false]) ?_ 3 _ rfl; (with_reducible repeat (first | refine zq0 ?_ _ | refine zq2 ?_ | refine zq1 ?_ _)); refine blk_put (cs := #[.int .u64 t121, .int .u64 t122, .int .u64 0, .bool false]) ?_ 2 _ rfl; (with_reducible repeat (first | refine zq0 ?_ _ | refine zq2 ?_ | refine zq1 ?_ _)); refine blk_put (cs := #[.int .u64 t121, .int .u64 0, .int .u64 0, .bool false]) ?_ 1 _ rfl; (with_reducible repeat (first | refine zq0 ?_ _ | refine zq2 ?_ | refine zq1 ?_ _)); refine blk_put (cs := #[.int .u64 0, .int .u64 0, .int .u64 0, .bool false]) ?_ 0 _ rfl; (with_reducible repeat (first | refine zq0 ?_ _ | refine zq2 ?_ | refine zq1 ?_ _)); exact BK126.out) hb); have n5_ := zq3 (below_step (by repeat (first | (with_reducible first | exact HB.out | apply zq9 | apply zq7 | apply zq8 | refine zq6 ?_ GE101.out | refine zq6 ?_ GE107.out | refine zq6 ?_ GE109.out | refine zq6 ?_ GE118.out | refine zq6 ?_ GE126.out) | exact HB.out)) hb); clear BK101; clear BK107; clear BK109; clear BK118; clear BK126; clear HB; have BK101 := n0_; have BK107 := n1_; have BK109 := n2_; have BK118 := n3_; have BK126 := n4_; have HB := n5_; clear n0_ n1_ n2_ n3_ n4_ n5_; (try clear hb); (try clear hb2); (try clear hk); (try clear hi)))
         (try simp only [Act.put, List.setIfInBounds_toArray, List.set_cons_zero, List.set_cons_succ])
         go_cut [134] (fun v134 wc => ∃ (kq : Nat) (x134_26 : Bool), v134 = .bool x134_26 ∧ Aside0 (weighbridgelaw27_DoubleTakes.j2 kq l1 x8_2 t125 t127 x134_26 a0_0 a0_1 a0_2 a0_3 a0_4 a0_5 t102 t103 t104 t105 t113 t114 t115 t116 t121 t122 t123 t124 = some r) ∧ Aside0 (kq ≤ k2) ∧ Aside0 (wc.heap[gb101]? = some (.cells #[.int .i64 a0_0, .bool a0_1, .int .u64 a0_2, .int .u64 a0_3, .int .u64 a0_4, .int .u64 a0_5] 24 (0, 0))) ∧ Aside0 (wc.heap[gb107]? = some (.cells #[.int .u64 x108000_2, .int .u64 x108001_2, .int .u64 x108002_2, .bool x108003_2] 26 (0, 0))) ∧ Aside0 (wc.heap[gb109]? = some (.cells #[.int .u64 t102, .int .u64 t103, .int .u64 t104, .bool t105] 26 (0, 0))) ∧ Aside0 (wc.heap[gb118]? = some (.cells #[.int .u64 t113, .int .u64 t114, .int .u64 t115, .bool t116] 26 (0, 0))) ∧ Aside0 (wc.heap[gb126]? = some (.cells #[.int .u64 t121, .int .u64 t122, .int .u64 t123, .bool t124] 26 (0, 0))) ∧ Aside0 (Below w.heap.size w wc))
         case first =>
          have H := HC27.out
          clear HC27
          by_cases c46 : t121 > t102
          ·
           rw [if_pos c46] at H
           exact absurd H (by simp)
          ·
           rw [if_neg c46] at H
           have c46b0 : decide (t102 < t121) = false := decide_eq_false c46
           clear c46
           (first | rw [c46b0] | (simp only [i64_w, i32_w]; rw [c46b0]) | skip)
           by_cases c47 : t122 > t103
           ·
            rw [if_pos c47] at H
            exact absurd H (by simp)
           ·
            rw [if_neg c47] at H
            have c47b0 : decide (t103 < t122) = false := decide_eq_false c47
            clear c47
            by_cases c48 : t123 = t115
            ·
             rw [if_pos c48] at H
             have c48b0 : (t123 == t115) = true := beq_iff_eq.mpr c48
             have c48b1 : (t123 != t115) = false := bne_eq_false_iff_eq.mpr c48
             clear c48
             by_cases c49 : t124 = true
             ·
              subst c49
              have H1 : (if x108003_2 = true then (if t123 < x108002_2 then (none) else (if a0_1 = true then (if t125 < (mn ((rd_T28 l1 x8_2).f2) 2) then (none) else (if t128 = true then (weighbridgelaw27_DoubleTakes.j2 k2 l1 x8_2 t125 t127 false a0_0 a0_1 a0_2 a0_3 a0_4 a0_5 t102 t103 t104 t105 t113 t114 t115 t116 t121 t122 t123 true) else (weighbridgelaw27_DoubleTakes.j2 k2 l1 x8_2 t125 t127 (t125 != 2) a0_0 a0_1 a0_2 a0_3 a0_4 a0_5 t102 t103 t104 t105 t113 t114 t115 t116 t121 t122 t123 true))) else (if t128 = true then (weighbridgelaw27_DoubleTakes.j2 k2 l1 x8_2 t125 t127 false a0_0 a0_1 a0_2 a0_3 a0_4 a0_5 t102 t103 t104 t105 t113 t114 t115 t116 t121 t122 t123 true) else (weighbridgelaw27_DoubleTakes.j2 k2 l1 x8_2 t125 t127 (t125 != 2) a0_0 a0_1 a0_2 a0_3 a0_4 a0_5 t102 t103 t104 t105 t113 t114 t115 t116 t121 t122 t123 true)))) else (if a0_1 = true then (if t125 < (mn ((rd_T28 l1 x8_2).f2) 2) then (none) else (if t128 = true then (weighbridgelaw27_DoubleTakes.j2 k2 l1 x8_2 t125 t127 false a0_0 a0_1 a0_2 a0_3 a0_4 a0_5 t102 t103 t104 t105 t113 t114 t115 t116 t121 t122 t123 true) else (weighbridgelaw27_DoubleTakes.j2 k2 l1 x8_2 t125 t127 (t125 != 2) a0_0 a0_1 a0_2 a0_3 a0_4 a0_5 t102 t103 t104 t105 t113 t114 t115 t116 t121 t122 t123 true))) else (if t128 = true then (weighbridgelaw27_DoubleTakes.j2 k2 l1 x8_2 t125 t127 false a0_0 a0_1 a0_2 a0_3 a0_4 a0_5 t102 t103 t104 t105 t113 t114 t115 t116 t121 t122 t123 true) else (weighbridgelaw27_DoubleTakes.j2 k2 l1 x8_2 t125 t127 (t125 != 2) a0_0 a0_1 a0_2 a0_3 a0_4 a0_5 t102 t103 t104 t105 t113 t114 t115 t116 t121 t122 t123 true)))) = some r := by rw [if_pos rfl] at H; exact H
              clear H
              have H := H1
              clear H1
              by_cases c50 : x108003_2 = true
              ·
               subst c50
               have H1 : (if t123 < x108002_2 then (none) else (if a0_1 = true then (if t125 < (mn ((rd_T28 l1 x8_2).f2) 2) then (none) else (if t128 = true then (weighbridgelaw27_DoubleTakes.j2 k2 l1 x8_2 t125 t127 false a0_0 a0_1 a0_2 a0_3 a0_4 a0_5 t102 t103 t104 t105 t113 t114 t115 t116 t121 t122 t123 true) else (weighbridgelaw27_DoubleTakes.j2 k2 l1 x8_2 t125 t127 (t125 != 2) a0_0 a0_1 a0_2 a0_3 a0_4 a0_5 t102 t103 t104 t105 t113 t114 t115 t116 t121 t122 t123 true))) else (if t128 = true then (weighbridgelaw27_DoubleTakes.j2 k2 l1 x8_2 t125 t127 false a0_0 a0_1 a0_2 a0_3 a0_4 a0_5 t102 t103 t104 t105 t113 t114 t115 t116 t121 t122 t123 true) else (weighbridgelaw27_DoubleTakes.j2 k2 l1 x8_2 t125 t127 (t125 != 2) a0_0 a0_1 a0_2 a0_3 a0_4 a0_5 t102 t103 t104 t105 t113 t114 t115 t116 t121 t122 t123 true)))) = some r := by rw [if_pos rfl] at H; exact H
               clear H
               have H := H1
               clear H1
               by_cases c51 : t123 < x108002_2
               ·
                rw [if_pos c51] at H
                exact absurd H (by simp)
               ·
                rw [if_neg c51] at H
                have c51b0 : decide (t123 < x108002_2) = false := decide_eq_false c51
                clear c51
                by_cases c52 : a0_1 = true
                ·
                 subst c52
                 have H1 : (if t125 < (mn ((rd_T28 l1 x8_2).f2) 2) then (none) else (if t128 = true then (weighbridgelaw27_DoubleTakes.j2 k2 l1 x8_2 t125 t127 false a0_0 true a0_2 a0_3 a0_4 a0_5 t102 t103 t104 t105 t113 t114 t115 t116 t121 t122 t123 true) else (weighbridgelaw27_DoubleTakes.j2 k2 l1 x8_2 t125 t127 (t125 != 2) a0_0 true a0_2 a0_3 a0_4 a0_5 t102 t103 t104 t105 t113 t114 t115 t116 t121 t122 t123 true))) = some r := by rw [if_pos rfl] at H; exact H
                 clear H
                 have H := H1
                 clear H1
                 obtain ⟨ji53, hji53⟩ : ∃ j_ : Int, (mn ((rd_T28 l1 x8_2).f2) 2) = j_ := ⟨_, rfl⟩
                 replace H : (if t125 < (ji53) then (none) else (if t128 = true then (weighbridgelaw27_DoubleTakes.j2 k2 l1 x8_2 t125 t127 false a0_0 true a0_2 a0_3 a0_4 a0_5 t102 t103 t104 t105 t113 t114 t115 t116 t121 t122 t123 true) else (weighbridgelaw27_DoubleTakes.j2 k2 l1 x8_2 t125 t127 (t125 != 2) a0_0 true a0_2 a0_3 a0_4 a0_5 t102 t103 t104 t105 t113 t114 t115 t116 t121 t122 t123 true))) = some r := by first | (rw [hji53] at H; exact H) | (simp only [hji53] at H ⊢; exact H)
                 have hji53_ : (if 2 < ((rd_T28 l1 x8_2).f2) then 2 else ((rd_T28 l1 x8_2).f2)) = ji53 := hji53
                 by_cases c54 : t125 < (ji53)
                 ·
                  rw [if_pos c54] at H
                  exact absurd H (by simp)
                 ·
                  rw [if_neg c54] at H
                  have c54b0 : decide (t125 < (ji53)) = false := decide_eq_false c54
                  clear c54
                  by_cases c55 : t128 = true
                  ·
                   subst c55
                   have H1 : (weighbridgelaw27_DoubleTakes.j2 k2 l1 x8_2 t125 t127 false a0_0 true a0_2 a0_3 a0_4 a0_5 t102 t103 t104 t105 t113 t114 t115 t116 t121 t122 t123 true) = some r := by rw [if_pos rfl] at H; exact H
                   clear H
                   have H := H1
                   clear H1
                   have H' := zq3 H
                   clear H
                   have hnb56 := NB126_101.out
                   have hnc56 := NB101_126.out
                   have hnb57 := NB126_107.out
                   have hnc57 := NB107_126.out
                   have hnb58 := NB126_109.out
                   have hnc58 := NB109_126.out
                   have hnb59 := NB126_118.out
                   have hnc59 := NB118_126.out
                   have hcz60_0 : w45.cell? ⟨gb126, 0, none⟩ = some (.int .u64 t121) := (zq5 BK126.out 0).trans rfl
                   have hcz60_1 : w45.cell? ⟨gb126, 1, none⟩ = some (.int .u64 t122) := (zq5 BK126.out 1).trans rfl
                   have hcz60_2 : w45.cell? ⟨gb126, 2, none⟩ = some (.int .u64 t123) := (zq5 BK126.out 2).trans rfl
                   have hcz60_3 : w45.cell? ⟨gb126, 3, none⟩ = some (.bool true) := (zq5 BK126.out 3).trans rfl
                   have hfz60_0 := zq4 BK126.out 0
                   have hfz60_1 := zq4 BK126.out 1
                   have hfz60_2 := zq4 BK126.out 2
                   have hfz60_3 := zq4 BK126.out 3
                   have hnb61 := NB109_101.out
                   have hnc61 := NB101_109.out
                   have hnb62 := NB109_107.out
                   have hnc62 := NB107_109.out
                   have hnb63 := NB109_118.out
                   have hnc63 := NB118_109.out
                   have hcz64_0 : w45.cell? ⟨gb109, 0, none⟩ = some (.int .u64 t102) := (zq5 BK109.out 0).trans rfl
                   have hcz64_1 : w45.cell? ⟨gb109, 1, none⟩ = some (.int .u64 t103) := (zq5 BK109.out 1).trans rfl
                   have hcz64_2 : w45.cell? ⟨gb109, 2, none⟩ = some (.int .u64 t104) := (zq5 BK109.out 2).trans rfl
                   have hcz64_3 : w45.cell? ⟨gb109, 3, none⟩ = some (.bool t105) := (zq5 BK109.out 3).trans rfl
                   have hfz64_0 := zq4 BK109.out 0
                   have hfz64_1 := zq4 BK109.out 1
                   have hfz64_2 := zq4 BK109.out 2
                   have hfz64_3 := zq4 BK109.out 3
                   have hnb65 := NB118_101.out
                   have hnc65 := NB101_118.out
                   have hnb66 := NB118_107.out
                   have hnc66 := NB107_118.out
                   have hcz67_0 : w45.cell? ⟨gb118, 0, none⟩ = some (.int .u64 t113) := (zq5 BK118.out 0).trans rfl
                   have hcz67_1 : w45.cell? ⟨gb118, 1, none⟩ = some (.int .u64 t114) := (zq5 BK118.out 1).trans rfl
                   have hcz67_2 : w45.cell? ⟨gb118, 2, none⟩ = some (.int .u64 t115) := (zq5 BK118.out 2).trans rfl
                   have hcz67_3 : w45.cell? ⟨gb118, 3, none⟩ = some (.bool t116) := (zq5 BK118.out 3).trans rfl
                   have hfz67_0 := zq4 BK118.out 0
                   have hfz67_1 := zq4 BK118.out 1
                   have hfz67_2 := zq4 BK118.out 2
                   have hfz67_3 := zq4 BK118.out 3
                   have hnb68 := NB107_101.out
                   have hnc68 := NB101_107.out
                   have hcz69_0 : w45.cell? ⟨gb107, 0, none⟩ = some (.int .u64 x108000_2) := (zq5 BK107.out 0).trans rfl
                   have hcz69_1 : w45.cell? ⟨gb107, 1, none⟩ = some (.int .u64 x108001_2) := (zq5 BK107.out 1).trans rfl
                   have hcz69_2 : w45.cell? ⟨gb107, 2, none⟩ = some (.int .u64 x108002_2) := (zq5 BK107.out 2).trans rfl
                   have hcz69_3 : w45.cell? ⟨gb107, 3, none⟩ = some (.bool true) := (zq5 BK107.out 3).trans rfl
                   have hfz69_0 := zq4 BK107.out 0
                   have hfz69_1 := zq4 BK107.out 1
                   have hfz69_2 := zq4 BK107.out 2
                   have hfz69_3 := zq4 BK107.out 3
                   have hcz70_0 : w45.cell? ⟨gb101, 0, none⟩ = some (.int .i64 a0_0) := (zq5 BK101.out 0).trans rfl
                   have hcz70_1 : w45.cell? ⟨gb101, 1, none⟩ = some (.bool true) := (zq5 BK101.out 1).trans rfl
                   have hcz70_2 : w45.cell? ⟨gb101, 2, none⟩ = some (.int .u64 a0_2) := (zq5 BK101.out 2).trans rfl
                   have hcz70_3 : w45.cell? ⟨gb101, 3, none⟩ = some (.int .u64 a0_3) := (zq5 BK101.out 3).trans rfl
                   have hcz70_4 : w45.cell? ⟨gb101, 4, none⟩ = some (.int .u64 a0_4) := (zq5 BK101.out 4).trans rfl
                   have hcz70_5 : w45.cell? ⟨gb101, 5, none⟩ = some (.int .u64 a0_5) := (zq5 BK101.out 5).trans rfl
                   have hfz70_0 := zq4 BK101.out 0
                   have hfz70_1 := zq4 BK101.out 1
                   have hfz70_2 := zq4 BK101.out 2
                   have hfz70_3 := zq4 BK101.out 3
                   have hfz70_4 := zq4 BK101.out 4
                   have hfz70_5 := zq4 BK101.out 5
                   have p129 : 0 ≤ (x8_2 : Int) := of_decide_eq_true (by first | (with_reducible assumption) | assumption)
                   have q129 : x8_2 < (l1.length : Int) := of_decide_eq_true (by first | (with_reducible assumption) | assumption)
                   obtain ⟨ad129, e129, hx129_0, hx129_1, hx129_2⟩ := at_T28 HR1.out x8_2 p129 q129
                   obtain rfl : ad111 = ad129 := (by injection e129)
                   replace hx129_0 := (HB.out.cell (World.block_lt_of_cell? w _ hx129_0)).trans hx129_0
                   replace hx129_1 := (HB.out.cell (World.block_lt_of_cell? w _ hx129_1)).trans hx129_1
                   replace hx129_2 := (HB.out.cell (World.block_lt_of_cell? w _ hx129_2)).trans hx129_2
                   replace p129 := eq_true p129
                   replace q129 := eq_true q129
                   go_wp2
                   go_meet
                   case rel => exact ⟨_, (false), (by first | rfl | (simp; done) | (simp [*]; done)), H', ⟨by have := HJ3.out; have := HK2.out; first | omega | exact Nat.le_refl _⟩, ⟨by (with_reducible repeat (first | refine zq0 ?_ _ | refine zq2 ?_ | refine zq1 ?_ _)); exact BK101.out⟩, ⟨by (with_reducible repeat (first | refine zq0 ?_ _ | refine zq2 ?_ | refine zq1 ?_ _)); exact BK107.out⟩, ⟨by (with_reducible repeat (first | refine zq0 ?_ _ | refine zq2 ?_ | refine zq1 ?_ _)); exact BK109.out⟩, ⟨by (with_reducible repeat (first | refine zq0 ?_ _ | refine zq2 ?_ | refine zq1 ?_ _)); exact BK118.out⟩, ⟨by (with_reducible repeat (first | refine zq0 ?_ _ | refine zq2 ?_ | refine zq1 ?_ _)); exact BK126.out⟩, ⟨by repeat (first | (with_reducible first | exact HB.out | apply zq9 | apply zq7 | apply zq8 | refine zq6 ?_ GE101.out | refine zq6 ?_ GE107.out | refine zq6 ?_ GE109.out | refine zq6 ?_ GE118.out | refine zq6 ?_ GE126.out) | exact HB.out)⟩⟩
                  ·
                   replace c55 := Bool.eq_false_iff.mpr c55
                   subst c55
                   have H1 : (weighbridgelaw27_DoubleTakes.j2 k2 l1 x8_2 t125 t127 (t125 != 2) a0_0 true a0_2 a0_3 a0_4 a0_5 t102 t103 t104 t105 t113 t114 t115 t116 t121 t122 t123 true) = some r := by rw [if_neg (show ¬ (false = true) by decide)] at H; exact H
                   clear H
                   have H := H1
                   clear H1
                   have H' := zq3 H
                   clear H
                   have hnb71 := NB126_101.out
                   have hnc71 := NB101_126.out
                   have hnb72 := NB126_107.out
                   have hnc72 := NB107_126.out
                   have hnb73 := NB126_109.out
                   have hnc73 := NB109_126.out
                   have hnb74 := NB126_118.out
                   have hnc74 := NB118_126.out
                   have hcz75_0 : w45.cell? ⟨gb126, 0, none⟩ = some (.int .u64 t121) := (zq5 BK126.out 0).trans rfl
                   have hcz75_1 : w45.cell? ⟨gb126, 1, none⟩ = some (.int .u64 t122) := (zq5 BK126.out 1).trans rfl
                   have hcz75_2 : w45.cell? ⟨gb126, 2, none⟩ = some (.int .u64 t123) := (zq5 BK126.out 2).trans rfl
                   have hcz75_3 : w45.cell? ⟨gb126, 3, none⟩ = some (.bool true) := (zq5 BK126.out 3).trans rfl
                   have hfz75_0 := zq4 BK126.out 0
                   have hfz75_1 := zq4 BK126.out 1
                   have hfz75_2 := zq4 BK126.out 2
                   have hfz75_3 := zq4 BK126.out 3
                   have hnb76 := NB109_101.out
                   have hnc76 := NB101_109.out
                   have hnb77 := NB109_107.out
                   have hnc77 := NB107_109.out
                   have hnb78 := NB109_118.out
                   have hnc78 := NB118_109.out
                   have hcz79_0 : w45.cell? ⟨gb109, 0, none⟩ = some (.int .u64 t102) := (zq5 BK109.out 0).trans rfl
                   have hcz79_1 : w45.cell? ⟨gb109, 1, none⟩ = some (.int .u64 t103) := (zq5 BK109.out 1).trans rfl
                   have hcz79_2 : w45.cell? ⟨gb109, 2, none⟩ = some (.int .u64 t104) := (zq5 BK109.out 2).trans rfl
                   have hcz79_3 : w45.cell? ⟨gb109, 3, none⟩ = some (.bool t105) := (zq5 BK109.out 3).trans rfl
                   have hfz79_0 := zq4 BK109.out 0
                   have hfz79_1 := zq4 BK109.out 1
                   have hfz79_2 := zq4 BK109.out 2
                   have hfz79_3 := zq4 BK109.out 3
                   have hnb80 := NB118_101.out
                   have hnc80 := NB101_118.out
                   have hnb81 := NB118_107.out
                   have hnc81 := NB107_118.out
                   have hcz82_0 : w45.cell? ⟨gb118, 0, none⟩ = some (.int .u64 t113) := (zq5 BK118.out 0).trans rfl
                   have hcz82_1 : w45.cell? ⟨gb118, 1, none⟩ = some (.int .u64 t114) := (zq5 BK118.out 1).trans rfl
                   have hcz82_2 : w45.cell? ⟨gb118, 2, none⟩ = some (.int .u64 t115) := (zq5 BK118.out 2).trans rfl
                   have hcz82_3 : w45.cell? ⟨gb118, 3, none⟩ = some (.bool t116) := (zq5 BK118.out 3).trans rfl
                   have hfz82_0 := zq4 BK118.out 0
                   have hfz82_1 := zq4 BK118.out 1
                   have hfz82_2 := zq4 BK118.out 2
                   have hfz82_3 := zq4 BK118.out 3
                   have hnb83 := NB107_101.out
                   have hnc83 := NB101_107.out
                   have hcz84_0 : w45.cell? ⟨gb107, 0, none⟩ = some (.int .u64 x108000_2) := (zq5 BK107.out 0).trans rfl
                   have hcz84_1 : w45.cell? ⟨gb107, 1, none⟩ = some (.int .u64 x108001_2) := (zq5 BK107.out 1).trans rfl
                   have hcz84_2 : w45.cell? ⟨gb107, 2, none⟩ = some (.int .u64 x108002_2) := (zq5 BK107.out 2).trans rfl
                   have hcz84_3 : w45.cell? ⟨gb107, 3, none⟩ = some (.bool true) := (zq5 BK107.out 3).trans rfl
                   have hfz84_0 := zq4 BK107.out 0
                   have hfz84_1 := zq4 BK107.out 1
                   have hfz84_2 := zq4 BK107.out 2
                   have hfz84_3 := zq4 BK107.out 3
                   have hcz85_0 : w45.cell? ⟨gb101, 0, none⟩ = some (.int .i64 a0_0) := (zq5 BK101.out 0).trans rfl
                   have hcz85_1 : w45.cell? ⟨gb101, 1, none⟩ = some (.bool true) := (zq5 BK101.out 1).trans rfl
                   have hcz85_2 : w45.cell? ⟨gb101, 2, none⟩ = some (.int .u64 a0_2) := (zq5 BK101.out 2).trans rfl
                   have hcz85_3 : w45.cell? ⟨gb101, 3, none⟩ = some (.int .u64 a0_3) := (zq5 BK101.out 3).trans rfl
                   have hcz85_4 : w45.cell? ⟨gb101, 4, none⟩ = some (.int .u64 a0_4) := (zq5 BK101.out 4).trans rfl
                   have hcz85_5 : w45.cell? ⟨gb101, 5, none⟩ = some (.int .u64 a0_5) := (zq5 BK101.out 5).trans rfl
                   have hfz85_0 := zq4 BK101.out 0
                   have hfz85_1 := zq4 BK101.out 1
                   have hfz85_2 := zq4 BK101.out 2
                   have hfz85_3 := zq4 BK101.out 3
                   have hfz85_4 := zq4 BK101.out 4
                   have hfz85_5 := zq4 BK101.out 5
                   have p129 : 0 ≤ (x8_2 : Int) := of_decide_eq_true (by first | (with_reducible assumption) | assumption)
                   have q129 : x8_2 < (l1.length : Int) := of_decide_eq_true (by first | (with_reducible assumption) | assumption)
                   obtain ⟨ad129, e129, hx129_0, hx129_1, hx129_2⟩ := at_T28 HR1.out x8_2 p129 q129
                   obtain rfl : ad111 = ad129 := (by injection e129)
                   replace hx129_0 := (HB.out.cell (World.block_lt_of_cell? w _ hx129_0)).trans hx129_0
                   replace hx129_1 := (HB.out.cell (World.block_lt_of_cell? w _ hx129_1)).trans hx129_1
                   replace hx129_2 := (HB.out.cell (World.block_lt_of_cell? w _ hx129_2)).trans hx129_2
                   replace p129 := eq_true p129
                   replace q129 := eq_true q129
                   go_wp2
                   go_meet
                   case rel => exact ⟨_, ((t125 != 2)), (by first | rfl | (simp; done) | (simp [*]; done)), H', ⟨by have := HJ3.out; have := HK2.out; first | omega | exact Nat.le_refl _⟩, ⟨by (with_reducible repeat (first | refine zq0 ?_ _ | refine zq2 ?_ | refine zq1 ?_ _)); exact BK101.out⟩, ⟨by (with_reducible repeat (first | refine zq0 ?_ _ | refine zq2 ?_ | refine zq1 ?_ _)); exact BK107.out⟩, ⟨by (with_reducible repeat (first | refine zq0 ?_ _ | refine zq2 ?_ | refine zq1 ?_ _)); exact BK109.out⟩, ⟨by (with_reducible repeat (first | refine zq0 ?_ _ | refine zq2 ?_ | refine zq1 ?_ _)); exact BK118.out⟩, ⟨by (with_reducible repeat (first | refine zq0 ?_ _ | refine zq2 ?_ | refine zq1 ?_ _)); exact BK126.out⟩, ⟨by repeat (first | (with_reducible first | exact HB.out | apply zq9 | apply zq7 | apply zq8 | refine zq6 ?_ GE101.out | refine zq6 ?_ GE107.out | refine zq6 ?_ GE109.out | refine zq6 ?_ GE118.out | refine zq6 ?_ GE126.out) | exact HB.out)⟩⟩
                ·
                 replace c52 := Bool.eq_false_iff.mpr c52
                 subst c52
                 have H1 : (if t128 = true then (weighbridgelaw27_DoubleTakes.j2 k2 l1 x8_2 t125 t127 false a0_0 false a0_2 a0_3 a0_4 a0_5 t102 t103 t104 t105 t113 t114 t115 t116 t121 t122 t123 true) else (weighbridgelaw27_DoubleTakes.j2 k2 l1 x8_2 t125 t127 (t125 != 2) a0_0 false a0_2 a0_3 a0_4 a0_5 t102 t103 t104 t105 t113 t114 t115 t116 t121 t122 t123 true)) = some r := by rw [if_neg (show ¬ (false = true) by decide)] at H; exact H
                 clear H
                 have H := H1
                 clear H1
                 by_cases c86 : t128 = true
                 ·
                  subst c86
                  have H1 : (weighbridgelaw27_DoubleTakes.j2 k2 l1 x8_2 t125 t127 false a0_0 false a0_2 a0_3 a0_4 a0_5 t102 t103 t104 t105 t113 t114 t115 t116 t121 t122 t123 true) = some r := by rw [if_pos rfl] at H; exact H
                  clear H
                  have H := H1
                  clear H1
                  have H' := zq3 H
                  clear H
                  have hnb87 := NB126_101.out
                  have hnc87 := NB101_126.out
                  have hnb88 := NB126_107.out
                  have hnc88 := NB107_126.out
                  have hnb89 := NB126_109.out
                  have hnc89 := NB109_126.out
                  have hnb90 := NB126_118.out
                  have hnc90 := NB118_126.out
                  have hcz91_0 : w45.cell? ⟨gb126, 0, none⟩ = some (.int .u64 t121) := (zq5 BK126.out 0).trans rfl
                  have hcz91_1 : w45.cell? ⟨gb126, 1, none⟩ = some (.int .u64 t122) := (zq5 BK126.out 1).trans rfl
                  have hcz91_2 : w45.cell? ⟨gb126, 2, none⟩ = some (.int .u64 t123) := (zq5 BK126.out 2).trans rfl
                  have hcz91_3 : w45.cell? ⟨gb126, 3, none⟩ = some (.bool true) := (zq5 BK126.out 3).trans rfl
                  have hfz91_0 := zq4 BK126.out 0
                  have hfz91_1 := zq4 BK126.out 1
                  have hfz91_2 := zq4 BK126.out 2
                  have hfz91_3 := zq4 BK126.out 3
                  have hnb92 := NB109_101.out
                  have hnc92 := NB101_109.out
                  have hnb93 := NB109_107.out
                  have hnc93 := NB107_109.out
                  have hnb94 := NB109_118.out
                  have hnc94 := NB118_109.out
                  have hcz95_0 : w45.cell? ⟨gb109, 0, none⟩ = some (.int .u64 t102) := (zq5 BK109.out 0).trans rfl
                  have hcz95_1 : w45.cell? ⟨gb109, 1, none⟩ = some (.int .u64 t103) := (zq5 BK109.out 1).trans rfl
                  have hcz95_2 : w45.cell? ⟨gb109, 2, none⟩ = some (.int .u64 t104) := (zq5 BK109.out 2).trans rfl
                  have hcz95_3 : w45.cell? ⟨gb109, 3, none⟩ = some (.bool t105) := (zq5 BK109.out 3).trans rfl
                  have hfz95_0 := zq4 BK109.out 0
                  have hfz95_1 := zq4 BK109.out 1
                  have hfz95_2 := zq4 BK109.out 2
                  have hfz95_3 := zq4 BK109.out 3
                  have hnb96 := NB118_101.out
                  have hnc96 := NB101_118.out
                  have hnb97 := NB118_107.out
                  have hnc97 := NB107_118.out
                  have hcz98_0 : w45.cell? ⟨gb118, 0, none⟩ = some (.int .u64 t113) := (zq5 BK118.out 0).trans rfl
                  have hcz98_1 : w45.cell? ⟨gb118, 1, none⟩ = some (.int .u64 t114) := (zq5 BK118.out 1).trans rfl
                  have hcz98_2 : w45.cell? ⟨gb118, 2, none⟩ = some (.int .u64 t115) := (zq5 BK118.out 2).trans rfl
                  have hcz98_3 : w45.cell? ⟨gb118, 3, none⟩ = some (.bool t116) := (zq5 BK118.out 3).trans rfl
                  have hfz98_0 := zq4 BK118.out 0
                  have hfz98_1 := zq4 BK118.out 1
                  have hfz98_2 := zq4 BK118.out 2
                  have hfz98_3 := zq4 BK118.out 3
                  have hnb99 := NB107_101.out
                  have hnc99 := NB101_107.out
                  have hcz100_0 : w45.cell? ⟨gb107, 0, none⟩ = some (.int .u64 x108000_2) := (zq5 BK107.out 0).trans rfl
                  have hcz100_1 : w45.cell? ⟨gb107, 1, none⟩ = some (.int .u64 x108001_2) := (zq5 BK107.out 1).trans rfl
                  have hcz100_2 : w45.cell? ⟨gb107, 2, none⟩ = some (.int .u64 x108002_2) := (zq5 BK107.out 2).trans rfl
                  have hcz100_3 : w45.cell? ⟨gb107, 3, none⟩ = some (.bool true) := (zq5 BK107.out 3).trans rfl
                  have hfz100_0 := zq4 BK107.out 0
                  have hfz100_1 := zq4 BK107.out 1
                  have hfz100_2 := zq4 BK107.out 2
                  have hfz100_3 := zq4 BK107.out 3
                  have hcz101_0 : w45.cell? ⟨gb101, 0, none⟩ = some (.int .i64 a0_0) := (zq5 BK101.out 0).trans rfl
                  have hcz101_1 : w45.cell? ⟨gb101, 1, none⟩ = some (.bool false) := (zq5 BK101.out 1).trans rfl
                  have hcz101_2 : w45.cell? ⟨gb101, 2, none⟩ = some (.int .u64 a0_2) := (zq5 BK101.out 2).trans rfl
                  have hcz101_3 : w45.cell? ⟨gb101, 3, none⟩ = some (.int .u64 a0_3) := (zq5 BK101.out 3).trans rfl
                  have hcz101_4 : w45.cell? ⟨gb101, 4, none⟩ = some (.int .u64 a0_4) := (zq5 BK101.out 4).trans rfl
                  have hcz101_5 : w45.cell? ⟨gb101, 5, none⟩ = some (.int .u64 a0_5) := (zq5 BK101.out 5).trans rfl
                  have hfz101_0 := zq4 BK101.out 0
                  have hfz101_1 := zq4 BK101.out 1
                  have hfz101_2 := zq4 BK101.out 2
                  have hfz101_3 := zq4 BK101.out 3
                  have hfz101_4 := zq4 BK101.out 4
                  have hfz101_5 := zq4 BK101.out 5
                  go_wp2
                  go_meet
                  case rel => exact ⟨_, (false), (by first | rfl | (simp; done) | (simp [*]; done)), H', ⟨by have := HJ3.out; have := HK2.out; first | omega | exact Nat.le_refl _⟩, ⟨by (with_reducible repeat (first | refine zq0 ?_ _ | refine zq2 ?_ | refine zq1 ?_ _)); exact BK101.out⟩, ⟨by (with_reducible repeat (first | refine zq0 ?_ _ | refine zq2 ?_ | refine zq1 ?_ _)); exact BK107.out⟩, ⟨by (with_reducible repeat (first | refine zq0 ?_ _ | refine zq2 ?_ | refine zq1 ?_ _)); exact BK109.out⟩, ⟨by (with_reducible repeat (first | refine zq0 ?_ _ | refine zq2 ?_ | refine zq1 ?_ _)); exact BK118.out⟩, ⟨by (with_reducible repeat (first | refine zq0 ?_ _ | refine zq2 ?_ | refine zq1 ?_ _)); exact BK126.out⟩, ⟨by repeat (first | (with_reducible first | exact HB.out | apply zq9 | apply zq7 | apply zq8 | refine zq6 ?_ GE101.out | refine zq6 ?_ GE107.out | refine zq6 ?_ GE109.out | refine zq6 ?_ GE118.out | refine zq6 ?_ GE126.out) | exact HB.out)⟩⟩
                 ·
                  replace c86 := Bool.eq_false_iff.mpr c86
                  subst c86
                  have H1 : (weighbridgelaw27_DoubleTakes.j2 k2 l1 x8_2 t125 t127 (t125 != 2) a0_0 false a0_2 a0_3 a0_4 a0_5 t102 t103 t104 t105 t113 t114 t115 t116 t121 t122 t123 true) = some r := by rw [if_neg (show ¬ (false = true) by decide)] at H; exact H
                  clear H
                  have H := H1
                  clear H1
                  have H' := zq3 H
                  clear H
                  have hnb102 := NB126_101.out
                  have hnc102 := NB101_126.out
                  have hnb103 := NB126_107.out
                  have hnc103 := NB107_126.out
                  have hnb104 := NB126_109.out
                  have hnc104 := NB109_126.out
                  have hnb105 := NB126_118.out
                  have hnc105 := NB118_126.out
                  have hcz106_0 : w45.cell? ⟨gb126, 0, none⟩ = some (.int .u64 t121) := (zq5 BK126.out 0).trans rfl
                  have hcz106_1 : w45.cell? ⟨gb126, 1, none⟩ = some (.int .u64 t122) := (zq5 BK126.out 1).trans rfl
                  have hcz106_2 : w45.cell? ⟨gb126, 2, none⟩ = some (.int .u64 t123) := (zq5 BK126.out 2).trans rfl
                  have hcz106_3 : w45.cell? ⟨gb126, 3, none⟩ = some (.bool true) := (zq5 BK126.out 3).trans rfl
                  have hfz106_0 := zq4 BK126.out 0
                  have hfz106_1 := zq4 BK126.out 1
                  have hfz106_2 := zq4 BK126.out 2
                  have hfz106_3 := zq4 BK126.out 3
                  have hnb107 := NB109_101.out
                  have hnc107 := NB101_109.out
                  have hnb108 := NB109_107.out
                  have hnc108 := NB107_109.out
                  have hnb109 := NB109_118.out
                  have hnc109 := NB118_109.out
                  have hcz110_0 : w45.cell? ⟨gb109, 0, none⟩ = some (.int .u64 t102) := (zq5 BK109.out 0).trans rfl
                  have hcz110_1 : w45.cell? ⟨gb109, 1, none⟩ = some (.int .u64 t103) := (zq5 BK109.out 1).trans rfl
                  have hcz110_2 : w45.cell? ⟨gb109, 2, none⟩ = some (.int .u64 t104) := (zq5 BK109.out 2).trans rfl
                  have hcz110_3 : w45.cell? ⟨gb109, 3, none⟩ = some (.bool t105) := (zq5 BK109.out 3).trans rfl
                  have hfz110_0 := zq4 BK109.out 0
                  have hfz110_1 := zq4 BK109.out 1
                  have hfz110_2 := zq4 BK109.out 2
                  have hfz110_3 := zq4 BK109.out 3
                  have hnb111 := NB118_101.out
                  have hnc111 := NB101_118.out
                  have hnb112 := NB118_107.out
                  have hnc112 := NB107_118.out
                  have hcz113_0 : w45.cell? ⟨gb118, 0, none⟩ = some (.int .u64 t113) := (zq5 BK118.out 0).trans rfl
                  have hcz113_1 : w45.cell? ⟨gb118, 1, none⟩ = some (.int .u64 t114) := (zq5 BK118.out 1).trans rfl
                  have hcz113_2 : w45.cell? ⟨gb118, 2, none⟩ = some (.int .u64 t115) := (zq5 BK118.out 2).trans rfl
                  have hcz113_3 : w45.cell? ⟨gb118, 3, none⟩ = some (.bool t116) := (zq5 BK118.out 3).trans rfl
                  have hfz113_0 := zq4 BK118.out 0
                  have hfz113_1 := zq4 BK118.out 1
                  have hfz113_2 := zq4 BK118.out 2
                  have hfz113_3 := zq4 BK118.out 3
                  have hnb114 := NB107_101.out
                  have hnc114 := NB101_107.out
                  have hcz115_0 : w45.cell? ⟨gb107, 0, none⟩ = some (.int .u64 x108000_2) := (zq5 BK107.out 0).trans rfl
                  have hcz115_1 : w45.cell? ⟨gb107, 1, none⟩ = some (.int .u64 x108001_2) := (zq5 BK107.out 1).trans rfl
                  have hcz115_2 : w45.cell? ⟨gb107, 2, none⟩ = some (.int .u64 x108002_2) := (zq5 BK107.out 2).trans rfl
                  have hcz115_3 : w45.cell? ⟨gb107, 3, none⟩ = some (.bool true) := (zq5 BK107.out 3).trans rfl
                  have hfz115_0 := zq4 BK107.out 0
                  have hfz115_1 := zq4 BK107.out 1
                  have hfz115_2 := zq4 BK107.out 2
                  have hfz115_3 := zq4 BK107.out 3
                  have hcz116_0 : w45.cell? ⟨gb101, 0, none⟩ = some (.int .i64 a0_0) := (zq5 BK101.out 0).trans rfl
                  have hcz116_1 : w45.cell? ⟨gb101, 1, none⟩ = some (.bool false) := (zq5 BK101.out 1).trans rfl
                  have hcz116_2 : w45.cell? ⟨gb101, 2, none⟩ = some (.int .u64 a0_2) := (zq5 BK101.out 2).trans rfl
                  have hcz116_3 : w45.cell? ⟨gb101, 3, none⟩ = some (.int .u64 a0_3) := (zq5 BK101.out 3).trans rfl
                  have hcz116_4 : w45.cell? ⟨gb101, 4, none⟩ = some (.int .u64 a0_4) := (zq5 BK101.out 4).trans rfl
                  have hcz116_5 : w45.cell? ⟨gb101, 5, none⟩ = some (.int .u64 a0_5) := (zq5 BK101.out 5).trans rfl
                  have hfz116_0 := zq4 BK101.out 0
                  have hfz116_1 := zq4 BK101.out 1
                  have hfz116_2 := zq4 BK101.out 2
                  have hfz116_3 := zq4 BK101.out 3
                  have hfz116_4 := zq4 BK101.out 4
                  have hfz116_5 := zq4 BK101.out 5
                  go_wp2
                  go_meet
                  case rel => exact ⟨_, ((t125 != 2)), (by first | rfl | (simp; done) | (simp [*]; done)), H', ⟨by have := HJ3.out; have := HK2.out; first | omega | exact Nat.le_refl _⟩, ⟨by (with_reducible repeat (first | refine zq0 ?_ _ | refine zq2 ?_ | refine zq1 ?_ _)); exact BK101.out⟩, ⟨by (with_reducible repeat (first | refine zq0 ?_ _ | refine zq2 ?_ | refine zq1 ?_ _)); exact BK107.out⟩, ⟨by (with_reducible repeat (first | refine zq0 ?_ _ | refine zq2 ?_ | refine zq1 ?_ _)); exact BK109.out⟩, ⟨by (with_reducible repeat (first | refine zq0 ?_ _ | refine zq2 ?_ | refine zq1 ?_ _)); exact BK118.out⟩, ⟨by (with_reducible repeat (first | refine zq0 ?_ _ | refine zq2 ?_ | refine zq1 ?_ _)); exact BK126.out⟩, ⟨by repeat (first | (with_reducible first | exact HB.out | apply zq9 | apply zq7 | apply zq8 | refine zq6 ?_ GE101.out | refine zq6 ?_ GE107.out | refine zq6 ?_ GE109.out | refine zq6 ?_ GE118.out | refine zq6 ?_ GE126.out) | exact HB.out)⟩⟩
              ·
               replace c50 := Bool.eq_false_iff.mpr c50
               subst c50
               have H1 : (if a0_1 = true then (if t125 < (mn ((rd_T28 l1 x8_2).f2) 2) then (none) else (if t128 = true then (weighbridgelaw27_DoubleTakes.j2 k2 l1 x8_2 t125 t127 false a0_0 a0_1 a0_2 a0_3 a0_4 a0_5 t102 t103 t104 t105 t113 t114 t115 t116 t121 t122 t123 true) else (weighbridgelaw27_DoubleTakes.j2 k2 l1 x8_2 t125 t127 (t125 != 2) a0_0 a0_1 a0_2 a0_3 a0_4 a0_5 t102 t103 t104 t105 t113 t114 t115 t116 t121 t122 t123 true))) else (if t128 = true then (weighbridgelaw27_DoubleTakes.j2 k2 l1 x8_2 t125 t127 false a0_0 a0_1 a0_2 a0_3 a0_4 a0_5 t102 t103 t104 t105 t113 t114 t115 t116 t121 t122 t123 true) else (weighbridgelaw27_DoubleTakes.j2 k2 l1 x8_2 t125 t127 (t125 != 2) a0_0 a0_1 a0_2 a0_3 a0_4 a0_5 t102 t103 t104 t105 t113 t114 t115 t116 t121 t122 t123 true))) = some r := by rw [if_neg (show ¬ (false = true) by decide)] at H; exact H
               clear H
               have H := H1
               clear H1
               by_cases c117 : a0_1 = true
               ·
                subst c117
                have H1 : (if t125 < (mn ((rd_T28 l1 x8_2).f2) 2) then (none) else (if t128 = true then (weighbridgelaw27_DoubleTakes.j2 k2 l1 x8_2 t125 t127 false a0_0 true a0_2 a0_3 a0_4 a0_5 t102 t103 t104 t105 t113 t114 t115 t116 t121 t122 t123 true) else (weighbridgelaw27_DoubleTakes.j2 k2 l1 x8_2 t125 t127 (t125 != 2) a0_0 true a0_2 a0_3 a0_4 a0_5 t102 t103 t104 t105 t113 t114 t115 t116 t121 t122 t123 true))) = some r := by rw [if_pos rfl] at H; exact H
                clear H
                have H := H1
                clear H1
                obtain ⟨ji118, hji118⟩ : ∃ j_ : Int, (mn ((rd_T28 l1 x8_2).f2) 2) = j_ := ⟨_, rfl⟩
                replace H : (if t125 < (ji118) then (none) else (if t128 = true then (weighbridgelaw27_DoubleTakes.j2 k2 l1 x8_2 t125 t127 false a0_0 true a0_2 a0_3 a0_4 a0_5 t102 t103 t104 t105 t113 t114 t115 t116 t121 t122 t123 true) else (weighbridgelaw27_DoubleTakes.j2 k2 l1 x8_2 t125 t127 (t125 != 2) a0_0 true a0_2 a0_3 a0_4 a0_5 t102 t103 t104 t105 t113 t114 t115 t116 t121 t122 t123 true))) = some r := by first | (rw [hji118] at H; exact H) | (simp only [hji118] at H ⊢; exact H)
                have hji118_ : (if 2 < ((rd_T28 l1 x8_2).f2) then 2 else ((rd_T28 l1 x8_2).f2)) = ji118 := hji118
                by_cases c119 : t125 < (ji118)
                ·
                 rw [if_pos c119] at H
                 exact absurd H (by simp)
                ·
                 rw [if_neg c119] at H
                 have c119b0 : decide (t125 < (ji118)) = false := decide_eq_false c119
                 clear c119
                 by_cases c120 : t128 = true
                 ·
                  subst c120
                  have H1 : (weighbridgelaw27_DoubleTakes.j2 k2 l1 x8_2 t125 t127 false a0_0 true a0_2 a0_3 a0_4 a0_5 t102 t103 t104 t105 t113 t114 t115 t116 t121 t122 t123 true) = some r := by rw [if_pos rfl] at H; exact H
                  clear H
                  have H := H1
                  clear H1
                  have H' := zq3 H
                  clear H
                  have hnb121 := NB126_101.out
                  have hnc121 := NB101_126.out
                  have hnb122 := NB126_107.out
                  have hnc122 := NB107_126.out
                  have hnb123 := NB126_109.out
                  have hnc123 := NB109_126.out
                  have hnb124 := NB126_118.out
                  have hnc124 := NB118_126.out
                  have hcz125_0 : w45.cell? ⟨gb126, 0, none⟩ = some (.int .u64 t121) := (zq5 BK126.out 0).trans rfl
                  have hcz125_1 : w45.cell? ⟨gb126, 1, none⟩ = some (.int .u64 t122) := (zq5 BK126.out 1).trans rfl
                  have hcz125_2 : w45.cell? ⟨gb126, 2, none⟩ = some (.int .u64 t123) := (zq5 BK126.out 2).trans rfl
                  have hcz125_3 : w45.cell? ⟨gb126, 3, none⟩ = some (.bool true) := (zq5 BK126.out 3).trans rfl
                  have hfz125_0 := zq4 BK126.out 0
                  have hfz125_1 := zq4 BK126.out 1
                  have hfz125_2 := zq4 BK126.out 2
                  have hfz125_3 := zq4 BK126.out 3
                  have hnb126 := NB109_101.out
                  have hnc126 := NB101_109.out
                  have hnb127 := NB109_107.out
                  have hnc127 := NB107_109.out
                  have hnb128 := NB109_118.out
                  have hnc128 := NB118_109.out
                  have hcz129_0 : w45.cell? ⟨gb109, 0, none⟩ = some (.int .u64 t102) := (zq5 BK109.out 0).trans rfl
                  have hcz129_1 : w45.cell? ⟨gb109, 1, none⟩ = some (.int .u64 t103) := (zq5 BK109.out 1).trans rfl
                  have hcz129_2 : w45.cell? ⟨gb109, 2, none⟩ = some (.int .u64 t104) := (zq5 BK109.out 2).trans rfl
                  have hcz129_3 : w45.cell? ⟨gb109, 3, none⟩ = some (.bool t105) := (zq5 BK109.out 3).trans rfl
                  have hfz129_0 := zq4 BK109.out 0
                  have hfz129_1 := zq4 BK109.out 1
                  have hfz129_2 := zq4 BK109.out 2
                  have hfz129_3 := zq4 BK109.out 3
                  have hnb130 := NB118_101.out
                  have hnc130 := NB101_118.out
                  have hnb131 := NB118_107.out
                  have hnc131 := NB107_118.out
                  have hcz132_0 : w45.cell? ⟨gb118, 0, none⟩ = some (.int .u64 t113) := (zq5 BK118.out 0).trans rfl
                  have hcz132_1 : w45.cell? ⟨gb118, 1, none⟩ = some (.int .u64 t114) := (zq5 BK118.out 1).trans rfl
                  have hcz132_2 : w45.cell? ⟨gb118, 2, none⟩ = some (.int .u64 t115) := (zq5 BK118.out 2).trans rfl
                  have hcz132_3 : w45.cell? ⟨gb118, 3, none⟩ = some (.bool t116) := (zq5 BK118.out 3).trans rfl
                  have hfz132_0 := zq4 BK118.out 0
                  have hfz132_1 := zq4 BK118.out 1
                  have hfz132_2 := zq4 BK118.out 2
                  have hfz132_3 := zq4 BK118.out 3
                  have hnb133 := NB107_101.out
                  have hnc133 := NB101_107.out
                  have hcz134_0 : w45.cell? ⟨gb107, 0, none⟩ = some (.int .u64 x108000_2) := (zq5 BK107.out 0).trans rfl
                  have hcz134_1 : w45.cell? ⟨gb107, 1, none⟩ = some (.int .u64 x108001_2) := (zq5 BK107.out 1).trans rfl
                  have hcz134_2 : w45.cell? ⟨gb107, 2, none⟩ = some (.int .u64 x108002_2) := (zq5 BK107.out 2).trans rfl
                  have hcz134_3 : w45.cell? ⟨gb107, 3, none⟩ = some (.bool false) := (zq5 BK107.out 3).trans rfl
                  have hfz134_0 := zq4 BK107.out 0
                  have hfz134_1 := zq4 BK107.out 1
                  have hfz134_2 := zq4 BK107.out 2
                  have hfz134_3 := zq4 BK107.out 3
                  have hcz135_0 : w45.cell? ⟨gb101, 0, none⟩ = some (.int .i64 a0_0) := (zq5 BK101.out 0).trans rfl
                  have hcz135_1 : w45.cell? ⟨gb101, 1, none⟩ = some (.bool true) := (zq5 BK101.out 1).trans rfl
                  have hcz135_2 : w45.cell? ⟨gb101, 2, none⟩ = some (.int .u64 a0_2) := (zq5 BK101.out 2).trans rfl
                  have hcz135_3 : w45.cell? ⟨gb101, 3, none⟩ = some (.int .u64 a0_3) := (zq5 BK101.out 3).trans rfl
                  have hcz135_4 : w45.cell? ⟨gb101, 4, none⟩ = some (.int .u64 a0_4) := (zq5 BK101.out 4).trans rfl
                  have hcz135_5 : w45.cell? ⟨gb101, 5, none⟩ = some (.int .u64 a0_5) := (zq5 BK101.out 5).trans rfl
                  have hfz135_0 := zq4 BK101.out 0
                  have hfz135_1 := zq4 BK101.out 1
                  have hfz135_2 := zq4 BK101.out 2
                  have hfz135_3 := zq4 BK101.out 3
                  have hfz135_4 := zq4 BK101.out 4
                  have hfz135_5 := zq4 BK101.out 5
                  have p130 : 0 ≤ (x8_2 : Int) := of_decide_eq_true (by first | (with_reducible assumption) | assumption)
                  have q130 : x8_2 < (l1.length : Int) := of_decide_eq_true (by first | (with_reducible assumption) | assumption)
                  obtain ⟨ad130, e130, hx130_0, hx130_1, hx130_2⟩ := at_T28 HR1.out x8_2 p130 q130
                  obtain rfl : ad111 = ad130 := (by injection e130)
                  replace hx130_0 := (HB.out.cell (World.block_lt_of_cell? w _ hx130_0)).trans hx130_0
                  replace hx130_1 := (HB.out.cell (World.block_lt_of_cell? w _ hx130_1)).trans hx130_1
                  replace hx130_2 := (HB.out.cell (World.block_lt_of_cell? w _ hx130_2)).trans hx130_2
                  replace p130 := eq_true p130
                  replace q130 := eq_true q130
                  go_wp2
                  go_meet
                  case rel => exact ⟨_, (false), (by first | rfl | (simp; done) | (simp [*]; done)), H', ⟨by have := HJ3.out; have := HK2.out; first | omega | exact Nat.le_refl _⟩, ⟨by (with_reducible repeat (first | refine zq0 ?_ _ | refine zq2 ?_ | refine zq1 ?_ _)); exact BK101.out⟩, ⟨by (with_reducible repeat (first | refine zq0 ?_ _ | refine zq2 ?_ | refine zq1 ?_ _)); exact BK107.out⟩, ⟨by (with_reducible repeat (first | refine zq0 ?_ _ | refine zq2 ?_ | refine zq1 ?_ _)); exact BK109.out⟩, ⟨by (with_reducible repeat (first | refine zq0 ?_ _ | refine zq2 ?_ | refine zq1 ?_ _)); exact BK118.out⟩, ⟨by (with_reducible repeat (first | refine zq0 ?_ _ | refine zq2 ?_ | refine zq1 ?_ _)); exact BK126.out⟩, ⟨by repeat (first | (with_reducible first | exact HB.out | apply zq9 | apply zq7 | apply zq8 | refine zq6 ?_ GE101.out | refine zq6 ?_ GE107.out | refine zq6 ?_ GE109.out | refine zq6 ?_ GE118.out | refine zq6 ?_ GE126.out) | exact HB.out)⟩⟩
                 ·
                  replace c120 := Bool.eq_false_iff.mpr c120
                  subst c120
                  have H1 : (weighbridgelaw27_DoubleTakes.j2 k2 l1 x8_2 t125 t127 (t125 != 2) a0_0 true a0_2 a0_3 a0_4 a0_5 t102 t103 t104 t105 t113 t114 t115 t116 t121 t122 t123 true) = some r := by rw [if_neg (show ¬ (false = true) by decide)] at H; exact H
                  clear H
                  have H := H1
                  clear H1
                  have H' := zq3 H
                  clear H
                  have hnb136 := NB126_101.out
                  have hnc136 := NB101_126.out
                  have hnb137 := NB126_107.out
                  have hnc137 := NB107_126.out
                  have hnb138 := NB126_109.out
                  have hnc138 := NB109_126.out
                  have hnb139 := NB126_118.out
                  have hnc139 := NB118_126.out
                  have hcz140_0 : w45.cell? ⟨gb126, 0, none⟩ = some (.int .u64 t121) := (zq5 BK126.out 0).trans rfl
                  have hcz140_1 : w45.cell? ⟨gb126, 1, none⟩ = some (.int .u64 t122) := (zq5 BK126.out 1).trans rfl
                  have hcz140_2 : w45.cell? ⟨gb126, 2, none⟩ = some (.int .u64 t123) := (zq5 BK126.out 2).trans rfl
                  have hcz140_3 : w45.cell? ⟨gb126, 3, none⟩ = some (.bool true) := (zq5 BK126.out 3).trans rfl
                  have hfz140_0 := zq4 BK126.out 0
                  have hfz140_1 := zq4 BK126.out 1
                  have hfz140_2 := zq4 BK126.out 2
                  have hfz140_3 := zq4 BK126.out 3
                  have hnb141 := NB109_101.out
                  have hnc141 := NB101_109.out
                  have hnb142 := NB109_107.out
                  have hnc142 := NB107_109.out
                  have hnb143 := NB109_118.out
                  have hnc143 := NB118_109.out
                  have hcz144_0 : w45.cell? ⟨gb109, 0, none⟩ = some (.int .u64 t102) := (zq5 BK109.out 0).trans rfl
                  have hcz144_1 : w45.cell? ⟨gb109, 1, none⟩ = some (.int .u64 t103) := (zq5 BK109.out 1).trans rfl
                  have hcz144_2 : w45.cell? ⟨gb109, 2, none⟩ = some (.int .u64 t104) := (zq5 BK109.out 2).trans rfl
                  have hcz144_3 : w45.cell? ⟨gb109, 3, none⟩ = some (.bool t105) := (zq5 BK109.out 3).trans rfl
                  have hfz144_0 := zq4 BK109.out 0
                  have hfz144_1 := zq4 BK109.out 1
                  have hfz144_2 := zq4 BK109.out 2
                  have hfz144_3 := zq4 BK109.out 3
                  have hnb145 := NB118_101.out
                  have hnc145 := NB101_118.out
                  have hnb146 := NB118_107.out
                  have hnc146 := NB107_118.out
                  have hcz147_0 : w45.cell? ⟨gb118, 0, none⟩ = some (.int .u64 t113) := (zq5 BK118.out 0).trans rfl
                  have hcz147_1 : w45.cell? ⟨gb118, 1, none⟩ = some (.int .u64 t114) := (zq5 BK118.out 1).trans rfl
                  have hcz147_2 : w45.cell? ⟨gb118, 2, none⟩ = some (.int .u64 t115) := (zq5 BK118.out 2).trans rfl
                  have hcz147_3 : w45.cell? ⟨gb118, 3, none⟩ = some (.bool t116) := (zq5 BK118.out 3).trans rfl
                  have hfz147_0 := zq4 BK118.out 0
                  have hfz147_1 := zq4 BK118.out 1
                  have hfz147_2 := zq4 BK118.out 2
                  have hfz147_3 := zq4 BK118.out 3
                  have hnb148 := NB107_101.out
                  have hnc148 := NB101_107.out
                  have hcz149_0 : w45.cell? ⟨gb107, 0, none⟩ = some (.int .u64 x108000_2) := (zq5 BK107.out 0).trans rfl
                  have hcz149_1 : w45.cell? ⟨gb107, 1, none⟩ = some (.int .u64 x108001_2) := (zq5 BK107.out 1).trans rfl
                  have hcz149_2 : w45.cell? ⟨gb107, 2, none⟩ = some (.int .u64 x108002_2) := (zq5 BK107.out 2).trans rfl
                  have hcz149_3 : w45.cell? ⟨gb107, 3, none⟩ = some (.bool false) := (zq5 BK107.out 3).trans rfl
                  have hfz149_0 := zq4 BK107.out 0
                  have hfz149_1 := zq4 BK107.out 1
                  have hfz149_2 := zq4 BK107.out 2
                  have hfz149_3 := zq4 BK107.out 3
                  have hcz150_0 : w45.cell? ⟨gb101, 0, none⟩ = some (.int .i64 a0_0) := (zq5 BK101.out 0).trans rfl
                  have hcz150_1 : w45.cell? ⟨gb101, 1, none⟩ = some (.bool true) := (zq5 BK101.out 1).trans rfl
                  have hcz150_2 : w45.cell? ⟨gb101, 2, none⟩ = some (.int .u64 a0_2) := (zq5 BK101.out 2).trans rfl
                  have hcz150_3 : w45.cell? ⟨gb101, 3, none⟩ = some (.int .u64 a0_3) := (zq5 BK101.out 3).trans rfl
                  have hcz150_4 : w45.cell? ⟨gb101, 4, none⟩ = some (.int .u64 a0_4) := (zq5 BK101.out 4).trans rfl
                  have hcz150_5 : w45.cell? ⟨gb101, 5, none⟩ = some (.int .u64 a0_5) := (zq5 BK101.out 5).trans rfl
                  have hfz150_0 := zq4 BK101.out 0
                  have hfz150_1 := zq4 BK101.out 1
                  have hfz150_2 := zq4 BK101.out 2
                  have hfz150_3 := zq4 BK101.out 3
                  have hfz150_4 := zq4 BK101.out 4
                  have hfz150_5 := zq4 BK101.out 5
                  have p130 : 0 ≤ (x8_2 : Int) := of_decide_eq_true (by first | (with_reducible assumption) | assumption)
                  have q130 : x8_2 < (l1.length : Int) := of_decide_eq_true (by first | (with_reducible assumption) | assumption)
                  obtain ⟨ad130, e130, hx130_0, hx130_1, hx130_2⟩ := at_T28 HR1.out x8_2 p130 q130
                  obtain rfl : ad111 = ad130 := (by injection e130)
                  replace hx130_0 := (HB.out.cell (World.block_lt_of_cell? w _ hx130_0)).trans hx130_0
                  replace hx130_1 := (HB.out.cell (World.block_lt_of_cell? w _ hx130_1)).trans hx130_1
                  replace hx130_2 := (HB.out.cell (World.block_lt_of_cell? w _ hx130_2)).trans hx130_2
                  replace p130 := eq_true p130
                  replace q130 := eq_true q130
                  go_wp2
                  go_meet
                  case rel => exact ⟨_, ((t125 != 2)), (by first | rfl | (simp; done) | (simp [*]; done)), H', ⟨by have := HJ3.out; have := HK2.out; first | omega | exact Nat.le_refl _⟩, ⟨by (with_reducible repeat (first | refine zq0 ?_ _ | refine zq2 ?_ | refine zq1 ?_ _)); exact BK101.out⟩, ⟨by (with_reducible repeat (first | refine zq0 ?_ _ | refine zq2 ?_ | refine zq1 ?_ _)); exact BK107.out⟩, ⟨by (with_reducible repeat (first | refine zq0 ?_ _ | refine zq2 ?_ | refine zq1 ?_ _)); exact BK109.out⟩, ⟨by (with_reducible repeat (first | refine zq0 ?_ _ | refine zq2 ?_ | refine zq1 ?_ _)); exact BK118.out⟩, ⟨by (with_reducible repeat (first | refine zq0 ?_ _ | refine zq2 ?_ | refine zq1 ?_ _)); exact BK126.out⟩, ⟨by repeat (first | (with_reducible first | exact HB.out | apply zq9 | apply zq7 | apply zq8 | refine zq6 ?_ GE101.out | refine zq6 ?_ GE107.out | refine zq6 ?_ GE109.out | refine zq6 ?_ GE118.out | refine zq6 ?_ GE126.out) | exact HB.out)⟩⟩
               ·
                replace c117 := Bool.eq_false_iff.mpr c117
                subst c117
                have H1 : (if t128 = true then (weighbridgelaw27_DoubleTakes.j2 k2 l1 x8_2 t125 t127 false a0_0 false a0_2 a0_3 a0_4 a0_5 t102 t103 t104 t105 t113 t114 t115 t116 t121 t122 t123 true) else (weighbridgelaw27_DoubleTakes.j2 k2 l1 x8_2 t125 t127 (t125 != 2) a0_0 false a0_2 a0_3 a0_4 a0_5 t102 t103 t104 t105 t113 t114 t115 t116 t121 t122 t123 true)) = some r := by rw [if_neg (show ¬ (false = true) by decide)] at H; exact H
                clear H
                have H := H1
                clear H1
                by_cases c151 : t128 = true
                ·
                 subst c151
                 have H1 : (weighbridgelaw27_DoubleTakes.j2 k2 l1 x8_2 t125 t127 false a0_0 false a0_2 a0_3 a0_4 a0_5 t102 t103 t104 t105 t113 t114 t115 t116 t121 t122 t123 true) = some r := by rw [if_pos rfl] at H; exact H
                 clear H
                 have H := H1
                 clear H1
                 have H' := zq3 H
                 clear H
                 have hnb152 := NB126_101.out
                 have hnc152 := NB101_126.out
                 have hnb153 := NB126_107.out
                 have hnc153 := NB107_126.out
                 have hnb154 := NB126_109.out
                 have hnc154 := NB109_126.out
                 have hnb155 := NB126_118.out
                 have hnc155 := NB118_126.out
                 have hcz156_0 : w45.cell? ⟨gb126, 0, none⟩ = some (.int .u64 t121) := (zq5 BK126.out 0).trans rfl
                 have hcz156_1 : w45.cell? ⟨gb126, 1, none⟩ = some (.int .u64 t122) := (zq5 BK126.out 1).trans rfl
                 have hcz156_2 : w45.cell? ⟨gb126, 2, none⟩ = some (.int .u64 t123) := (zq5 BK126.out 2).trans rfl
                 have hcz156_3 : w45.cell? ⟨gb126, 3, none⟩ = some (.bool true) := (zq5 BK126.out 3).trans rfl
                 have hfz156_0 := zq4 BK126.out 0
                 have hfz156_1 := zq4 BK126.out 1
                 have hfz156_2 := zq4 BK126.out 2
                 have hfz156_3 := zq4 BK126.out 3
                 have hnb157 := NB109_101.out
                 have hnc157 := NB101_109.out
                 have hnb158 := NB109_107.out
                 have hnc158 := NB107_109.out
                 have hnb159 := NB109_118.out
                 have hnc159 := NB118_109.out
                 have hcz160_0 : w45.cell? ⟨gb109, 0, none⟩ = some (.int .u64 t102) := (zq5 BK109.out 0).trans rfl
                 have hcz160_1 : w45.cell? ⟨gb109, 1, none⟩ = some (.int .u64 t103) := (zq5 BK109.out 1).trans rfl
                 have hcz160_2 : w45.cell? ⟨gb109, 2, none⟩ = some (.int .u64 t104) := (zq5 BK109.out 2).trans rfl
                 have hcz160_3 : w45.cell? ⟨gb109, 3, none⟩ = some (.bool t105) := (zq5 BK109.out 3).trans rfl
                 have hfz160_0 := zq4 BK109.out 0
                 have hfz160_1 := zq4 BK109.out 1
                 have hfz160_2 := zq4 BK109.out 2
                 have hfz160_3 := zq4 BK109.out 3
                 have hnb161 := NB118_101.out
                 have hnc161 := NB101_118.out
                 have hnb162 := NB118_107.out
                 have hnc162 := NB107_118.out
                 have hcz163_0 : w45.cell? ⟨gb118, 0, none⟩ = some (.int .u64 t113) := (zq5 BK118.out 0).trans rfl
                 have hcz163_1 : w45.cell? ⟨gb118, 1, none⟩ = some (.int .u64 t114) := (zq5 BK118.out 1).trans rfl
                 have hcz163_2 : w45.cell? ⟨gb118, 2, none⟩ = some (.int .u64 t115) := (zq5 BK118.out 2).trans rfl
                 have hcz163_3 : w45.cell? ⟨gb118, 3, none⟩ = some (.bool t116) := (zq5 BK118.out 3).trans rfl
                 have hfz163_0 := zq4 BK118.out 0
                 have hfz163_1 := zq4 BK118.out 1
                 have hfz163_2 := zq4 BK118.out 2
                 have hfz163_3 := zq4 BK118.out 3
                 have hnb164 := NB107_101.out
                 have hnc164 := NB101_107.out
                 have hcz165_0 : w45.cell? ⟨gb107, 0, none⟩ = some (.int .u64 x108000_2) := (zq5 BK107.out 0).trans rfl
                 have hcz165_1 : w45.cell? ⟨gb107, 1, none⟩ = some (.int .u64 x108001_2) := (zq5 BK107.out 1).trans rfl
                 have hcz165_2 : w45.cell? ⟨gb107, 2, none⟩ = some (.int .u64 x108002_2) := (zq5 BK107.out 2).trans rfl
                 have hcz165_3 : w45.cell? ⟨gb107, 3, none⟩ = some (.bool false) := (zq5 BK107.out 3).trans rfl
                 have hfz165_0 := zq4 BK107.out 0
                 have hfz165_1 := zq4 BK107.out 1
                 have hfz165_2 := zq4 BK107.out 2
                 have hfz165_3 := zq4 BK107.out 3
                 have hcz166_0 : w45.cell? ⟨gb101, 0, none⟩ = some (.int .i64 a0_0) := (zq5 BK101.out 0).trans rfl
                 have hcz166_1 : w45.cell? ⟨gb101, 1, none⟩ = some (.bool false) := (zq5 BK101.out 1).trans rfl
                 have hcz166_2 : w45.cell? ⟨gb101, 2, none⟩ = some (.int .u64 a0_2) := (zq5 BK101.out 2).trans rfl
                 have hcz166_3 : w45.cell? ⟨gb101, 3, none⟩ = some (.int .u64 a0_3) := (zq5 BK101.out 3).trans rfl
                 have hcz166_4 : w45.cell? ⟨gb101, 4, none⟩ = some (.int .u64 a0_4) := (zq5 BK101.out 4).trans rfl
                 have hcz166_5 : w45.cell? ⟨gb101, 5, none⟩ = some (.int .u64 a0_5) := (zq5 BK101.out 5).trans rfl
                 have hfz166_0 := zq4 BK101.out 0
                 have hfz166_1 := zq4 BK101.out 1
                 have hfz166_2 := zq4 BK101.out 2
                 have hfz166_3 := zq4 BK101.out 3
                 have hfz166_4 := zq4 BK101.out 4
                 have hfz166_5 := zq4 BK101.out 5
                 go_wp2
                 go_meet
                 case rel => exact ⟨_, (false), (by first | rfl | (simp; done) | (simp [*]; done)), H', ⟨by have := HJ3.out; have := HK2.out; first | omega | exact Nat.le_refl _⟩, ⟨by (with_reducible repeat (first | refine zq0 ?_ _ | refine zq2 ?_ | refine zq1 ?_ _)); exact BK101.out⟩, ⟨by (with_reducible repeat (first | refine zq0 ?_ _ | refine zq2 ?_ | refine zq1 ?_ _)); exact BK107.out⟩, ⟨by (with_reducible repeat (first | refine zq0 ?_ _ | refine zq2 ?_ | refine zq1 ?_ _)); exact BK109.out⟩, ⟨by (with_reducible repeat (first | refine zq0 ?_ _ | refine zq2 ?_ | refine zq1 ?_ _)); exact BK118.out⟩, ⟨by (with_reducible repeat (first | refine zq0 ?_ _ | refine zq2 ?_ | refine zq1 ?_ _)); exact BK126.out⟩, ⟨by repeat (first | (with_reducible first | exact HB.out | apply zq9 | apply zq7 | apply zq8 | refine zq6 ?_ GE101.out | refine zq6 ?_ GE107.out | refine zq6 ?_ GE109.out | refine zq6 ?_ GE118.out | refine zq6 ?_ GE126.out) | exact HB.out)⟩⟩
                ·
                 replace c151 := Bool.eq_false_iff.mpr c151
                 subst c151
                 have H1 : (weighbridgelaw27_DoubleTakes.j2 k2 l1 x8_2 t125 t127 (t125 != 2) a0_0 false a0_2 a0_3 a0_4 a0_5 t102 t103 t104 t105 t113 t114 t115 t116 t121 t122 t123 true) = some r := by rw [if_neg (show ¬ (false = true) by decide)] at H; exact H
                 clear H
                 have H := H1
                 clear H1
                 have H' := zq3 H
                 clear H
                 have hnb167 := NB126_101.out
                 have hnc167 := NB101_126.out
                 have hnb168 := NB126_107.out
                 have hnc168 := NB107_126.out
                 have hnb169 := NB126_109.out
                 have hnc169 := NB109_126.out
                 have hnb170 := NB126_118.out
                 have hnc170 := NB118_126.out
                 have hcz171_0 : w45.cell? ⟨gb126, 0, none⟩ = some (.int .u64 t121) := (zq5 BK126.out 0).trans rfl
                 have hcz171_1 : w45.cell? ⟨gb126, 1, none⟩ = some (.int .u64 t122) := (zq5 BK126.out 1).trans rfl
                 have hcz171_2 : w45.cell? ⟨gb126, 2, none⟩ = some (.int .u64 t123) := (zq5 BK126.out 2).trans rfl
                 have hcz171_3 : w45.cell? ⟨gb126, 3, none⟩ = some (.bool true) := (zq5 BK126.out 3).trans rfl
                 have hfz171_0 := zq4 BK126.out 0
                 have hfz171_1 := zq4 BK126.out 1
                 have hfz171_2 := zq4 BK126.out 2
                 have hfz171_3 := zq4 BK126.out 3
                 have hnb172 := NB109_101.out
                 have hnc172 := NB101_109.out
                 have hnb173 := NB109_107.out
                 have hnc173 := NB107_109.out
                 have hnb174 := NB109_118.out
                 have hnc174 := NB118_109.out
                 have hcz175_0 : w45.cell? ⟨gb109, 0, none⟩ = some (.int .u64 t102) := (zq5 BK109.out 0).trans rfl
                 have hcz175_1 : w45.cell? ⟨gb109, 1, none⟩ = some (.int .u64 t103) := (zq5 BK109.out 1).trans rfl
                 have hcz175_2 : w45.cell? ⟨gb109, 2, none⟩ = some (.int .u64 t104) := (zq5 BK109.out 2).trans rfl
                 have hcz175_3 : w45.cell? ⟨gb109, 3, none⟩ = some (.bool t105) := (zq5 BK109.out 3).trans rfl
                 have hfz175_0 := zq4 BK109.out 0
                 have hfz175_1 := zq4 BK109.out 1
                 have hfz175_2 := zq4 BK109.out 2
                 have hfz175_3 := zq4 BK109.out 3
                 have hnb176 := NB118_101.out
                 have hnc176 := NB101_118.out
                 have hnb177 := NB118_107.out
                 have hnc177 := NB107_118.out
                 have hcz178_0 : w45.cell? ⟨gb118, 0, none⟩ = some (.int .u64 t113) := (zq5 BK118.out 0).trans rfl
                 have hcz178_1 : w45.cell? ⟨gb118, 1, none⟩ = some (.int .u64 t114) := (zq5 BK118.out 1).trans rfl
                 have hcz178_2 : w45.cell? ⟨gb118, 2, none⟩ = some (.int .u64 t115) := (zq5 BK118.out 2).trans rfl
                 have hcz178_3 : w45.cell? ⟨gb118, 3, none⟩ = some (.bool t116) := (zq5 BK118.out 3).trans rfl
                 have hfz178_0 := zq4 BK118.out 0
                 have hfz178_1 := zq4 BK118.out 1
                 have hfz178_2 := zq4 BK118.out 2
                 have hfz178_3 := zq4 BK118.out 3
                 have hnb179 := NB107_101.out
                 have hnc179 := NB101_107.out
                 have hcz180_0 : w45.cell? ⟨gb107, 0, none⟩ = some (.int .u64 x108000_2) := (zq5 BK107.out 0).trans rfl
                 have hcz180_1 : w45.cell? ⟨gb107, 1, none⟩ = some (.int .u64 x108001_2) := (zq5 BK107.out 1).trans rfl
                 have hcz180_2 : w45.cell? ⟨gb107, 2, none⟩ = some (.int .u64 x108002_2) := (zq5 BK107.out 2).trans rfl
                 have hcz180_3 : w45.cell? ⟨gb107, 3, none⟩ = some (.bool false) := (zq5 BK107.out 3).trans rfl
                 have hfz180_0 := zq4 BK107.out 0
                 have hfz180_1 := zq4 BK107.out 1
                 have hfz180_2 := zq4 BK107.out 2
                 have hfz180_3 := zq4 BK107.out 3
                 have hcz181_0 : w45.cell? ⟨gb101, 0, none⟩ = some (.int .i64 a0_0) := (zq5 BK101.out 0).trans rfl
                 have hcz181_1 : w45.cell? ⟨gb101, 1, none⟩ = some (.bool false) := (zq5 BK101.out 1).trans rfl
                 have hcz181_2 : w45.cell? ⟨gb101, 2, none⟩ = some (.int .u64 a0_2) := (zq5 BK101.out 2).trans rfl
                 have hcz181_3 : w45.cell? ⟨gb101, 3, none⟩ = some (.int .u64 a0_3) := (zq5 BK101.out 3).trans rfl
                 have hcz181_4 : w45.cell? ⟨gb101, 4, none⟩ = some (.int .u64 a0_4) := (zq5 BK101.out 4).trans rfl
                 have hcz181_5 : w45.cell? ⟨gb101, 5, none⟩ = some (.int .u64 a0_5) := (zq5 BK101.out 5).trans rfl
                 have hfz181_0 := zq4 BK101.out 0
                 have hfz181_1 := zq4 BK101.out 1
                 have hfz181_2 := zq4 BK101.out 2
                 have hfz181_3 := zq4 BK101.out 3
                 have hfz181_4 := zq4 BK101.out 4
                 have hfz181_5 := zq4 BK101.out 5
                 go_wp2
                 go_meet
                 case rel => exact ⟨_, ((t125 != 2)), (by first | rfl | (simp; done) | (simp [*]; done)), H', ⟨by have := HJ3.out; have := HK2.out; first | omega | exact Nat.le_refl _⟩, ⟨by (with_reducible repeat (first | refine zq0 ?_ _ | refine zq2 ?_ | refine zq1 ?_ _)); exact BK101.out⟩, ⟨by (with_reducible repeat (first | refine zq0 ?_ _ | refine zq2 ?_ | refine zq1 ?_ _)); exact BK107.out⟩, ⟨by (with_reducible repeat (first | refine zq0 ?_ _ | refine zq2 ?_ | refine zq1 ?_ _)); exact BK109.out⟩, ⟨by (with_reducible repeat (first | refine zq0 ?_ _ | refine zq2 ?_ | refine zq1 ?_ _)); exact BK118.out⟩, ⟨by (with_reducible repeat (first | refine zq0 ?_ _ | refine zq2 ?_ | refine zq1 ?_ _)); exact BK126.out⟩, ⟨by repeat (first | (with_reducible first | exact HB.out | apply zq9 | apply zq7 | apply zq8 | refine zq6 ?_ GE101.out | refine zq6 ?_ GE107.out | refine zq6 ?_ GE109.out | refine zq6 ?_ GE118.out | refine zq6 ?_ GE126.out) | exact HB.out)⟩⟩
             ·
              replace c49 := Bool.eq_false_iff.mpr c49
              subst c49
              have H1 : (none) = some r := by rw [if_neg (show ¬ (false = true) by decide)] at H; exact H
              clear H
              have H := H1
              clear H1
              exact absurd H (by simp)
            ·
             rw [if_neg c48] at H
             exact absurd H (by simp)
         case rest =>
          clear HC27
          try clear c1
          try clear p1
          try clear q1
          try clear hx1
          try clear p2
          try clear c4
          try clear c5
          try clear c7
          try clear c8
          try clear c9
          try clear c10
          try clear c11
          try clear c12
          try clear p12
          try clear q12
          try clear hx12
          try clear c13
          try clear p13
          try clear q13
          try clear hx13
          try clear c14
          try clear c15
          try clear c16
          try clear c17
          try clear c48
          try clear c49
          try clear c50
          try clear c52
          try clear c55
          try clear c71
          try clear c72
          try clear c73
          try clear c74
          try clear c76
          try clear c77
          try clear c78
          try clear c80
          try clear c81
          try clear c83
          try clear c86
          try clear c87
          try clear c88
          try clear c89
          try clear c90
          try clear c92
          try clear c93
          try clear c94
          try clear c96
          try clear c97
          try clear c99
          try clear c102
          try clear c103
          try clear c104
          try clear c105
          try clear c107
          try clear c108
          try clear c109
          try clear c111
          try clear c112
          try clear c114
          try clear c117
          try clear c119
          try clear c119b0
          try clear c120
          try clear c121
          try clear c122
          try clear c123
          try clear c124
          try clear c126
          try clear c127
          try clear c128
          try clear p129
          try clear q129
          try clear hx129
          try clear c130
          try clear p130
          try clear q130
          try clear hx130
          try clear c131
          try clear c133
          try clear c136
          try clear c137
          try clear c138
          try clear c139
          try clear c141
          try clear c142
          try clear c143
          try clear c145
          try clear c146
          try clear c148
          try clear c151
          try clear c152
          try clear c153
          try clear c154
          try clear c155
          try clear c157
          try clear c158
          try clear c159
          try clear c161
          try clear c162
          try clear c164
          try clear c167
          try clear c168
          try clear c169
          try clear c170
          try clear c172
          try clear c173
          try clear c174
          try clear c176
          try clear c177
          try clear c179
          try clear hcz100_0
          try clear hcz100_1
          try clear hcz100_2
          try clear hcz100_3
          try clear hcz101_0
          try clear hcz101_1
          try clear hcz101_2
          try clear hcz101_3
          try clear hcz101_4
          try clear hcz101_5
          try clear hcz106_0
          try clear hcz106_1
          try clear hcz106_2
          try clear hcz106_3
          try clear hcz110_0
          try clear hcz110_1
          try clear hcz110_2
          try clear hcz110_3
          try clear hcz113_0
          try clear hcz113_1
          try clear hcz113_2
          try clear hcz113_3
          try clear hcz115_0
          try clear hcz115_1
          try clear hcz115_2
          try clear hcz115_3
          try clear hcz116_0
          try clear hcz116_1
          try clear hcz116_2
          try clear hcz116_3
          try clear hcz116_4
          try clear hcz116_5
          try clear hcz125_0
          try clear hcz125_1
          try clear hcz125_2
          try clear hcz125_3
          try clear hcz129_0
          try clear hcz129_1
          try clear hcz129_2
          try clear hcz129_3
          try clear hcz132_0
          try clear hcz132_1
          try clear hcz132_2
          try clear hcz132_3
          try clear hcz134_0
          try clear hcz134_1
          try clear hcz134_2
          try clear hcz134_3
          try clear hcz135_0
          try clear hcz135_1
          try clear hcz135_2
          try clear hcz135_3
          try clear hcz135_4
          try clear hcz135_5
          try clear hcz140_0
          try clear hcz140_1
          try clear hcz140_2
          try clear hcz140_3
          try clear hcz144_0
          try clear hcz144_1
          try clear hcz144_2
          try clear hcz144_3
          try clear hcz147_0
          try clear hcz147_1
          try clear hcz147_2
          try clear hcz147_3
          try clear hcz149_0
          try clear hcz149_1
          try clear hcz149_2
          try clear hcz149_3
          try clear hcz150_0
          try clear hcz150_1
          try clear hcz150_2
          try clear hcz150_3
          try clear hcz150_4
          try clear hcz150_5
          try clear hcz156_0
          try clear hcz156_1
          try clear hcz156_2
          try clear hcz156_3
          try clear hcz160_0
          try clear hcz160_1
          try clear hcz160_2
          try clear hcz160_3
          try clear hcz163_0
          try clear hcz163_1
          try clear hcz163_2
          try clear hcz163_3
          try clear hcz165_0
          try clear hcz165_1
          try clear hcz165_2
          try clear hcz165_3
          try clear hcz166_0
          try clear hcz166_1
          try clear hcz166_2
          try clear hcz166_3
          try clear hcz166_4
          try clear hcz166_5
          try clear hcz171_0
          try clear hcz171_1
          try clear hcz171_2
          try clear hcz171_3
          try clear hcz175_0
          try clear hcz175_1
          try clear hcz175_2
          try clear hcz175_3
          try clear hcz178_0
          try clear hcz178_1
          try clear hcz178_2
          try clear hcz178_3
          try clear hcz180_0
          try clear hcz180_1
          try clear hcz180_2
          try clear hcz180_3
          try clear hcz181_0
          try clear hcz181_1
          try clear hcz181_2
          try clear hcz181_3
          try clear hcz181_4
          try clear hcz181_5
          try clear hcz75_0
          try clear hcz75_1
          try clear hcz75_2
          try clear hcz75_3
          try clear hcz79_0
          try clear hcz79_1
          try clear hcz79_2
          try clear hcz79_3
          try clear hcz82_0
          try clear hcz82_1
          try clear hcz82_2
          try clear hcz82_3
          try clear hcz84_0
          try clear hcz84_1
          try clear hcz84_2
          try clear hcz84_3
          try clear hcz85_0
          try clear hcz85_1
          try clear hcz85_2
          try clear hcz85_3
          try clear hcz85_4
          try clear hcz85_5
          try clear hcz91_0
          try clear hcz91_1
          try clear hcz91_2
          try clear hcz91_3
          try clear hcz95_0
          try clear hcz95_1
          try clear hcz95_2
          try clear hcz95_3
          try clear hcz98_0
          try clear hcz98_1
          try clear hcz98_2
          try clear hcz98_3
          try clear hfz100_0
          try clear hfz100_1
          try clear hfz100_2
          try clear hfz100_3
          try clear hfz101_0
          try clear hfz101_1
          try clear hfz101_2
          try clear hfz101_3
          try clear hfz101_4
          try clear hfz101_5
          try clear hfz106_0
          try clear hfz106_1
          try clear hfz106_2
          try clear hfz106_3
          try clear hfz110_0
          try clear hfz110_1
          try clear hfz110_2
          try clear hfz110_3
          try clear hfz113_0
          try clear hfz113_1
          try clear hfz113_2
          try clear hfz113_3
          try clear hfz115_0
          try clear hfz115_1
          try clear hfz115_2
          try clear hfz115_3
          try clear hfz116_0
          try clear hfz116_1
          try clear hfz116_2
          try clear hfz116_3
          try clear hfz116_4
          try clear hfz116_5
          try clear hfz125_0
          try clear hfz125_1
          try clear hfz125_2
          try clear hfz125_3
          try clear hfz129_0
          try clear hfz129_1
          try clear hfz129_2
          try clear hfz129_3
          try clear hfz132_0
          try clear hfz132_1
          try clear hfz132_2
          try clear hfz132_3
          try clear hfz134_0
          try clear hfz134_1
          try clear hfz134_2
          try clear hfz134_3
          try clear hfz135_0
          try clear hfz135_1
          try clear hfz135_2
          try clear hfz135_3
          try clear hfz135_4
          try clear hfz135_5
          try clear hfz140_0
          try clear hfz140_1
          try clear hfz140_2
          try clear hfz140_3
          try clear hfz144_0
          try clear hfz144_1
          try clear hfz144_2
          try clear hfz144_3
          try clear hfz147_0
          try clear hfz147_1
          try clear hfz147_2
          try clear hfz147_3
          try clear hfz149_0
          try clear hfz149_1
          try clear hfz149_2
          try clear hfz149_3
          try clear hfz150_0
          try clear hfz150_1
          try clear hfz150_2
          try clear hfz150_3
          try clear hfz150_4
          try clear hfz150_5
          try clear hfz156_0
          try clear hfz156_1
          try clear hfz156_2
          try clear hfz156_3
          try clear hfz160_0
          try clear hfz160_1
          try clear hfz160_2
          try clear hfz160_3
          try clear hfz163_0
          try clear hfz163_1
          try clear hfz163_2
          try clear hfz163_3
          try clear hfz165_0
          try clear hfz165_1
          try clear hfz165_2
          try clear hfz165_3
          try clear hfz166_0
          try clear hfz166_1
          try clear hfz166_2
          try clear hfz166_3
          try clear hfz166_4
          try clear hfz166_5
          try clear hfz171_0
          try clear hfz171_1
          try clear hfz171_2
          try clear hfz171_3
          try clear hfz175_0
          try clear hfz175_1
          try clear hfz175_2
          try clear hfz175_3
          try clear hfz178_0
          try clear hfz178_1
          try clear hfz178_2
          try clear hfz178_3
          try clear hfz180_0
          try clear hfz180_1
          try clear hfz180_2
          try clear hfz180_3
          try clear hfz181_0
          try clear hfz181_1
          try clear hfz181_2
          try clear hfz181_3
          try clear hfz181_4
          try clear hfz181_5
          try clear hfz75_0
          try clear hfz75_1
          try clear hfz75_2
          try clear hfz75_3
          try clear hfz79_0
          try clear hfz79_1
          try clear hfz79_2
          try clear hfz79_3
          try clear hfz82_0
          try clear hfz82_1
          try clear hfz82_2
          try clear hfz82_3
          try clear hfz84_0
          try clear hfz84_1
          try clear hfz84_2
          try clear hfz84_3
          try clear hfz85_0
          try clear hfz85_1
          try clear hfz85_2
          try clear hfz85_3
          try clear hfz85_4
          try clear hfz85_5
          try clear hfz91_0
          try clear hfz91_1
          try clear hfz91_2
          try clear hfz91_3
          try clear hfz95_0
          try clear hfz95_1
          try clear hfz95_2
          try clear hfz95_3
          try clear hfz98_0
          try clear hfz98_1
          try clear hfz98_2
          try clear hfz98_3
          try clear hx129_0
          try clear hx129_1
          try clear hx129_2
          try clear hx130_0
          try clear hx130_1
          try clear hx130_2
          try clear p129
          try clear p130
          try clear q129
          try clear q130
          obtain ⟨kq, x134_26, rfl, HA, HJ26, BK101, BK107, BK109, BK118, BK126, HB⟩ := hcut
          cases kq with
          | zero => exact absurd HA.out (by simp [weighbridgelaw27_DoubleTakes.j2])
          | succ kj26 =>
           have H := HA.out
           clear HA
           simp only [weighbridgelaw27_DoubleTakes.j2] at H
           by_cases c182 : x134_26 = true
           ·
            subst c182
            have H1 : (none) = some r := by rw [if_pos rfl] at H; exact H
            clear H
            have H := H1
            clear H1
            exact absurd H (by simp)
           ·
            replace c182 := Bool.eq_false_iff.mpr c182
            subst c182
            have H1 : (if t125 = 0 then (weighbridgelaw27_DoubleTakes.j3 kj26 l1 x8_2 t125 t127 t127 0 a0_0 a0_1 a0_2 a0_3 a0_4 a0_5 t102 t103 t104 t105 t113 t114 t115 t116 t121 t122 t123 t124) else (weighbridgelaw27_DoubleTakes.j3 kj26 l1 x8_2 t125 t127 0 0 a0_0 a0_1 a0_2 a0_3 a0_4 a0_5 t102 t103 t104 t105 t113 t114 t115 t116 t121 t122 t123 t124)) = some r := by rw [if_neg (show ¬ (false = true) by decide)] at H; exact H
            clear H
            have H := H1
            clear H1
            have HC183 := zq3 H
            clear H
            go_upto_if 136 with (fail)
            go_cut [16] (fun v16 wc => ∃ (kq : Nat) (x16_182 : Int), v16 = .int .u64 x16_182 ∧ Aside0 (weighbridgelaw27_DoubleTakes.j3 kq l1 x8_2 t125 t127 x16_182 0 a0_0 a0_1 a0_2 a0_3 a0_4 a0_5 t102 t103 t104 t105 t113 t114 t115 t116 t121 t122 t123 t124 = some r) ∧ Aside0 (kq ≤ kj26) ∧ Aside0 (wc.heap[gb101]? = some (.cells #[.int .i64 a0_0, .bool a0_1, .int .u64 a0_2, .int .u64 a0_3, .int .u64 a0_4, .int .u64 a0_5] 24 (0, 0))) ∧ Aside0 (wc.heap[gb107]? = some (.cells #[.int .u64 x108000_2, .int .u64 x108001_2, .int .u64 x108002_2, .bool x108003_2] 26 (0, 0))) ∧ Aside0 (wc.heap[gb109]? = some (.cells #[.int .u64 t102, .int .u64 t103, .int .u64 t104, .bool t105] 26 (0, 0))) ∧ Aside0 (wc.heap[gb118]? = some (.cells #[.int .u64 t113, .int .u64 t114, .int .u64 t115, .bool t116] 26 (0, 0))) ∧ Aside0 (wc.heap[gb126]? = some (.cells #[.int .u64 t121, .int .u64 t122, .int .u64 t123, .bool t124] 26 (0, 0))) ∧ Aside0 (Below w.heap.size w wc))
            case first =>
             have H := HC183.out
             clear HC183
             by_cases c184 : t125 = 0
             ·
              rw [if_pos c184] at H
              have c184b0 : (t125 == 0) = true := beq_iff_eq.mpr c184
              have c184b1 : (t125 != 0) = false := bne_eq_false_iff_eq.mpr c184
              clear c184
              (first | rw [c184b0] | (simp only [i64_w, i32_w]; rw [c184b0]) | skip)
              have H' := zq3 H
              clear H
              go_wp2
              go_meet
              case rel => exact ⟨_, (t127), (by first | rfl | (simp; done) | (simp [*]; done)), H', ⟨by have := HJ3.out; have := HK2.out; have := HJ26.out; first | omega | exact Nat.le_refl _⟩, ⟨by (with_reducible repeat (first | refine zq0 ?_ _ | refine zq2 ?_ | refine zq1 ?_ _)); exact BK101.out⟩, ⟨by (with_reducible repeat (first | refine zq0 ?_ _ | refine zq2 ?_ | refine zq1 ?_ _)); exact BK107.out⟩, ⟨by (with_reducible repeat (first | refine zq0 ?_ _ | refine zq2 ?_ | refine zq1 ?_ _)); exact BK109.out⟩, ⟨by (with_reducible repeat (first | refine zq0 ?_ _ | refine zq2 ?_ | refine zq1 ?_ _)); exact BK118.out⟩, ⟨by (with_reducible repeat (first | refine zq0 ?_ _ | refine zq2 ?_ | refine zq1 ?_ _)); exact BK126.out⟩, ⟨by repeat (first | (with_reducible first | exact HB.out | apply zq9 | apply zq7 | apply zq8 | refine zq6 ?_ GE101.out | refine zq6 ?_ GE107.out | refine zq6 ?_ GE109.out | refine zq6 ?_ GE118.out | refine zq6 ?_ GE126.out) | exact HB.out)⟩⟩
             ·
              rw [if_neg c184] at H
              have c184b0 : (t125 == 0) = false := beq_eq_false_iff_ne.mpr c184
              have c184b1 : (t125 != 0) = true := bne_iff_ne.mpr c184
              (first | rw [c184b0] | (simp only [i64_w, i32_w]; rw [c184b0]) | skip)
              have H' := zq3 H
              clear H
              go_wp2
              go_meet
              case rel => exact ⟨_, (0), (by first | rfl | (simp; done) | (simp [*]; done)), H', ⟨by have := HJ3.out; have := HK2.out; have := HJ26.out; first | omega | exact Nat.le_refl _⟩, ⟨by (with_reducible repeat (first | refine zq0 ?_ _ | refine zq2 ?_ | refine zq1 ?_ _)); exact BK101.out⟩, ⟨by (with_reducible repeat (first | refine zq0 ?_ _ | refine zq2 ?_ | refine zq1 ?_ _)); exact BK107.out⟩, ⟨by (with_reducible repeat (first | refine zq0 ?_ _ | refine zq2 ?_ | refine zq1 ?_ _)); exact BK109.out⟩, ⟨by (with_reducible repeat (first | refine zq0 ?_ _ | refine zq2 ?_ | refine zq1 ?_ _)); exact BK118.out⟩, ⟨by (with_reducible repeat (first | refine zq0 ?_ _ | refine zq2 ?_ | refine zq1 ?_ _)); exact BK126.out⟩, ⟨by repeat (first | (with_reducible first | exact HB.out | apply zq9 | apply zq7 | apply zq8 | refine zq6 ?_ GE101.out | refine zq6 ?_ GE107.out | refine zq6 ?_ GE109.out | refine zq6 ?_ GE118.out | refine zq6 ?_ GE126.out) | exact HB.out)⟩⟩
            case rest =>
             clear HC183
             try clear c1
             try clear p1
             try clear q1
             try clear hx1
             try clear p2
             try clear c4
             try clear c5
             try clear c7
             try clear c8
             try clear c9
             try clear c10
             try clear c11
             try clear c12
             try clear p12
             try clear q12
             try clear hx12
             try clear c13
             try clear p13
             try clear q13
             try clear hx13
             try clear c14
             try clear c15
             try clear c16
             try clear c17
             try clear c18
             try clear c48
             try clear c49
             try clear c50
             try clear c52
             try clear c55
             try clear c71
             try clear c72
             try clear c73
             try clear c74
             try clear c76
             try clear c77
             try clear c78
             try clear c80
             try clear c81
             try clear c83
             try clear c86
             try clear c87
             try clear c88
             try clear c89
             try clear c90
             try clear c92
             try clear c93
             try clear c94
             try clear c96
             try clear c97
             try clear c99
             try clear c102
             try clear c103
             try clear c104
             try clear c105
             try clear c107
             try clear c108
             try clear c109
             try clear c111
             try clear c112
             try clear c114
             try clear c117
             try clear c119
             try clear c119b0
             try clear c120
             try clear c121
             try clear c122
             try clear c123
             try clear c124
             try clear c126
             try clear c127
             try clear c128
             try clear p129
             try clear q129
             try clear hx129
             try clear c130
             try clear p130
             try clear q130
             try clear hx130
             try clear c131
             try clear c133
             try clear c136
             try clear c137
             try clear c138
             try clear c139
             try clear c141
             try clear c142
             try clear c143
             try clear c145
             try clear c146
             try clear c148
             try clear c151
             try clear c152
             try clear c153
             try clear c154
             try clear c155
             try clear c157
             try clear c158
             try clear c159
             try clear c161
             try clear c162
             try clear c164
             try clear c167
             try clear c168
             try clear c169
             try clear c170
             try clear c172
             try clear c173
             try clear c174
             try clear c176
             try clear c177
             try clear c179
             try clear c182
             try clear c184
             try clear c184b0
             try clear c184b1
             try clear hcz100_0
             try clear hcz100_1
             try clear hcz100_2
             try clear hcz100_3
             try clear hcz101_0
             try clear hcz101_1
             try clear hcz101_2
             try clear hcz101_3
             try clear hcz101_4
             try clear hcz101_5
             try clear hcz106_0
             try clear hcz106_1
             try clear hcz106_2
             try clear hcz106_3
             try clear hcz110_0
             try clear hcz110_1
             try clear hcz110_2
             try clear hcz110_3
             try clear hcz113_0
             try clear hcz113_1
             try clear hcz113_2
             try clear hcz113_3
             try clear hcz115_0
             try clear hcz115_1
             try clear hcz115_2
             try clear hcz115_3
             try clear hcz116_0
             try clear hcz116_1
             try clear hcz116_2
             try clear hcz116_3
             try clear hcz116_4
             try clear hcz116_5
             try clear hcz125_0
             try clear hcz125_1
             try clear hcz125_2
             try clear hcz125_3
             try clear hcz129_0
             try clear hcz129_1
             try clear hcz129_2
             try clear hcz129_3
             try clear hcz132_0
             try clear hcz132_1
             try clear hcz132_2
             try clear hcz132_3
             try clear hcz134_0
             try clear hcz134_1
             try clear hcz134_2
             try clear hcz134_3
             try clear hcz135_0
             try clear hcz135_1
             try clear hcz135_2
             try clear hcz135_3
             try clear hcz135_4
             try clear hcz135_5
             try clear hcz140_0
             try clear hcz140_1
             try clear hcz140_2
             try clear hcz140_3
             try clear hcz144_0
             try clear hcz144_1
             try clear hcz144_2
             try clear hcz144_3
             try clear hcz147_0
             try clear hcz147_1
             try clear hcz147_2
             try clear hcz147_3
             try clear hcz149_0
             try clear hcz149_1
             try clear hcz149_2
             try clear hcz149_3
             try clear hcz150_0
             try clear hcz150_1
             try clear hcz150_2
             try clear hcz150_3
             try clear hcz150_4
             try clear hcz150_5
             try clear hcz156_0
             try clear hcz156_1
             try clear hcz156_2
             try clear hcz156_3
             try clear hcz160_0
             try clear hcz160_1
             try clear hcz160_2
             try clear hcz160_3
             try clear hcz163_0
             try clear hcz163_1
             try clear hcz163_2
             try clear hcz163_3
             try clear hcz165_0
             try clear hcz165_1
             try clear hcz165_2
             try clear hcz165_3
             try clear hcz166_0
             try clear hcz166_1
             try clear hcz166_2
             try clear hcz166_3
             try clear hcz166_4
             try clear hcz166_5
             try clear hcz171_0
             try clear hcz171_1
             try clear hcz171_2
             try clear hcz171_3
             try clear hcz175_0
             try clear hcz175_1
             try clear hcz175_2
             try clear hcz175_3
             try clear hcz178_0
             try clear hcz178_1
             try clear hcz178_2
             try clear hcz178_3
             try clear hcz180_0
             try clear hcz180_1
             try clear hcz180_2
             try clear hcz180_3
             try clear hcz181_0
             try clear hcz181_1
             try clear hcz181_2
             try clear hcz181_3
             try clear hcz181_4
             try clear hcz181_5
             try clear hcz75_0
             try clear hcz75_1
             try clear hcz75_2
             try clear hcz75_3
             try clear hcz79_0
             try clear hcz79_1
             try clear hcz79_2
             try clear hcz79_3
             try clear hcz82_0
             try clear hcz82_1
             try clear hcz82_2
             try clear hcz82_3
             try clear hcz84_0
             try clear hcz84_1
             try clear hcz84_2
             try clear hcz84_3
             try clear hcz85_0
             try clear hcz85_1
             try clear hcz85_2
             try clear hcz85_3
             try clear hcz85_4
             try clear hcz85_5
             try clear hcz91_0
             try clear hcz91_1
             try clear hcz91_2
             try clear hcz91_3
             try clear hcz95_0
             try clear hcz95_1
             try clear hcz95_2
             try clear hcz95_3
             try clear hcz98_0
             try clear hcz98_1
             try clear hcz98_2
             try clear hcz98_3
             try clear hfz100_0
             try clear hfz100_1
             try clear hfz100_2
             try clear hfz100_3
             try clear hfz101_0
             try clear hfz101_1
             try clear hfz101_2
             try clear hfz101_3
             try clear hfz101_4
             try clear hfz101_5
             try clear hfz106_0
             try clear hfz106_1
             try clear hfz106_2
             try clear hfz106_3
             try clear hfz110_0
             try clear hfz110_1
             try clear hfz110_2
             try clear hfz110_3
             try clear hfz113_0
             try clear hfz113_1
             try clear hfz113_2
             try clear hfz113_3
             try clear hfz115_0
             try clear hfz115_1
             try clear hfz115_2
             try clear hfz115_3
             try clear hfz116_0
             try clear hfz116_1
             try clear hfz116_2
             try clear hfz116_3
             try clear hfz116_4
             try clear hfz116_5
             try clear hfz125_0
             try clear hfz125_1
             try clear hfz125_2
             try clear hfz125_3
             try clear hfz129_0
             try clear hfz129_1
             try clear hfz129_2
             try clear hfz129_3
             try clear hfz132_0
             try clear hfz132_1
             try clear hfz132_2
             try clear hfz132_3
             try clear hfz134_0
             try clear hfz134_1
             try clear hfz134_2
             try clear hfz134_3
             try clear hfz135_0
             try clear hfz135_1
             try clear hfz135_2
             try clear hfz135_3
             try clear hfz135_4
             try clear hfz135_5
             try clear hfz140_0
             try clear hfz140_1
             try clear hfz140_2
             try clear hfz140_3
             try clear hfz144_0
             try clear hfz144_1
             try clear hfz144_2
             try clear hfz144_3
             try clear hfz147_0
             try clear hfz147_1
             try clear hfz147_2
             try clear hfz147_3
             try clear hfz149_0
             try clear hfz149_1
             try clear hfz149_2
             try clear hfz149_3
             try clear hfz150_0
             try clear hfz150_1
             try clear hfz150_2
             try clear hfz150_3
             try clear hfz150_4
             try clear hfz150_5
             try clear hfz156_0
             try clear hfz156_1
             try clear hfz156_2
             try clear hfz156_3
             try clear hfz160_0
             try clear hfz160_1
             try clear hfz160_2
             try clear hfz160_3
             try clear hfz163_0
             try clear hfz163_1
             try clear hfz163_2
             try clear hfz163_3
             try clear hfz165_0
             try clear hfz165_1
             try clear hfz165_2
             try clear hfz165_3
             try clear hfz166_0
             try clear hfz166_1
             try clear hfz166_2
             try clear hfz166_3
             try clear hfz166_4
             try clear hfz166_5
             try clear hfz171_0
             try clear hfz171_1
             try clear hfz171_2
             try clear hfz171_3
             try clear hfz175_0
             try clear hfz175_1
             try clear hfz175_2
             try clear hfz175_3
             try clear hfz178_0
             try clear hfz178_1
             try clear hfz178_2
             try clear hfz178_3
             try clear hfz180_0
             try clear hfz180_1
             try clear hfz180_2
             try clear hfz180_3
             try clear hfz181_0
             try clear hfz181_1
             try clear hfz181_2
             try clear hfz181_3
             try clear hfz181_4
             try clear hfz181_5
             try clear hfz75_0
             try clear hfz75_1
             try clear hfz75_2
             try clear hfz75_3
             try clear hfz79_0
             try clear hfz79_1
             try clear hfz79_2
             try clear hfz79_3
             try clear hfz82_0
             try clear hfz82_1
             try clear hfz82_2
             try clear hfz82_3
             try clear hfz84_0
             try clear hfz84_1
             try clear hfz84_2
             try clear hfz84_3
             try clear hfz85_0
             try clear hfz85_1
             try clear hfz85_2
             try clear hfz85_3
             try clear hfz85_4
             try clear hfz85_5
             try clear hfz91_0
             try clear hfz91_1
             try clear hfz91_2
             try clear hfz91_3
             try clear hfz95_0
             try clear hfz95_1
             try clear hfz95_2
             try clear hfz95_3
             try clear hfz98_0
             try clear hfz98_1
             try clear hfz98_2
             try clear hfz98_3
             try clear hx129_0
             try clear hx129_1
             try clear hx129_2
             try clear hx130_0
             try clear hx130_1
             try clear hx130_2
             try clear p1
             try clear p12
             try clear p129
             try clear p13
             try clear p130
             try clear p2
             try clear q1
             try clear q12
             try clear q129
             try clear q13
             try clear q130
             obtain ⟨kq, x16_182, rfl, HA, HJ182, BK101, BK107, BK109, BK118, BK126, HB⟩ := hcut
             cases kq with
             | zero => exact absurd HA.out (by simp [weighbridgelaw27_DoubleTakes.j3])
             | succ kj182 =>
              have H := HA.out
              clear HA
              simp only [weighbridgelaw27_DoubleTakes.j3] at H
              by_cases c185 : t125 = 2
              ·
               rw [if_pos c185] at H
               have c185b0 : (t125 == 2) = true := beq_iff_eq.mpr c185
               have c185b1 : (t125 != 2) = false := bne_eq_false_iff_eq.mpr c185
               clear c185
               by_cases c186 : (IntKind.u64.wrap (t113 - t121)) = x16_182
               ·
                rw [if_pos c186] at H
                have c186b0 : ((IntKind.u64.wrap (t113 - t121)) == x16_182) = true := beq_iff_eq.mpr c186
                have c186b1 : ((IntKind.u64.wrap (t113 - t121)) != x16_182) = false := bne_eq_false_iff_eq.mpr c186
                clear c186
                by_cases c187 : (IntKind.u64.wrap (t114 - t122)) = 0
                ·
                 rw [if_pos c187] at H
                 have c187b0 : ((IntKind.u64.wrap (t114 - t122)) == 0) = true := beq_iff_eq.mpr c187
                 have c187b1 : ((IntKind.u64.wrap (t114 - t122)) != 0) = false := bne_eq_false_iff_eq.mpr c187
                 clear c187
                 have H' := zq3 H
                 clear H
                 have hnb188 := NB118_101.out
                 have hnc188 := NB101_118.out
                 have hnb189 := NB118_107.out
                 have hnc189 := NB107_118.out
                 have hnb190 := NB118_109.out
                 have hnc190 := NB109_118.out
                 have hnb191 := NB118_126.out
                 have hnc191 := NB126_118.out
                 have hcz192_0 : wc.cell? ⟨gb118, 0, none⟩ = some (.int .u64 t113) := (zq5 BK118.out 0).trans rfl
                 have hcz192_1 : wc.cell? ⟨gb118, 1, none⟩ = some (.int .u64 t114) := (zq5 BK118.out 1).trans rfl
                 have hcz192_2 : wc.cell? ⟨gb118, 2, none⟩ = some (.int .u64 t115) := (zq5 BK118.out 2).trans rfl
                 have hcz192_3 : wc.cell? ⟨gb118, 3, none⟩ = some (.bool t116) := (zq5 BK118.out 3).trans rfl
                 have hfz192_0 := zq4 BK118.out 0
                 have hfz192_1 := zq4 BK118.out 1
                 have hfz192_2 := zq4 BK118.out 2
                 have hfz192_3 := zq4 BK118.out 3
                 have hnb193 := NB126_101.out
                 have hnc193 := NB101_126.out
                 have hnb194 := NB126_107.out
                 have hnc194 := NB107_126.out
                 have hnb195 := NB126_109.out
                 have hnc195 := NB109_126.out
                 have hcz196_0 : wc.cell? ⟨gb126, 0, none⟩ = some (.int .u64 t121) := (zq5 BK126.out 0).trans rfl
                 have hcz196_1 : wc.cell? ⟨gb126, 1, none⟩ = some (.int .u64 t122) := (zq5 BK126.out 1).trans rfl
                 have hcz196_2 : wc.cell? ⟨gb126, 2, none⟩ = some (.int .u64 t123) := (zq5 BK126.out 2).trans rfl
                 have hcz196_3 : wc.cell? ⟨gb126, 3, none⟩ = some (.bool t124) := (zq5 BK126.out 3).trans rfl
                 have hfz196_0 := zq4 BK126.out 0
                 have hfz196_1 := zq4 BK126.out 1
                 have hfz196_2 := zq4 BK126.out 2
                 have hfz196_3 := zq4 BK126.out 3
                 have hnb197 := NB107_101.out
                 have hnc197 := NB101_107.out
                 have hnb198 := NB107_109.out
                 have hnc198 := NB109_107.out
                 have hcz199_0 : wc.cell? ⟨gb107, 0, none⟩ = some (.int .u64 x108000_2) := (zq5 BK107.out 0).trans rfl
                 have hcz199_1 : wc.cell? ⟨gb107, 1, none⟩ = some (.int .u64 x108001_2) := (zq5 BK107.out 1).trans rfl
                 have hcz199_2 : wc.cell? ⟨gb107, 2, none⟩ = some (.int .u64 x108002_2) := (zq5 BK107.out 2).trans rfl
                 have hcz199_3 : wc.cell? ⟨gb107, 3, none⟩ = some (.bool x108003_2) := (zq5 BK107.out 3).trans rfl
                 have hfz199_0 := zq4 BK107.out 0
                 have hfz199_1 := zq4 BK107.out 1
                 have hfz199_2 := zq4 BK107.out 2
                 have hfz199_3 := zq4 BK107.out 3
                 go_wp2
                 go_roundg kj182
                 case measure => have := HJ3.out; have := HK2.out; have := HJ26.out; have := HJ182.out; omega
                 case rel => exact ⟨(wrap64 (x8_2 + 1)), (t121), (t122), (t123), (t124), (by first | rfl | (simp; done) | (simp [*]; done)), H', ⟨by have := HJ3.out; have := HK2.out; have := HJ26.out; have := HJ182.out; omega⟩, ⟨by (with_reducible repeat (first | refine zq0 ?_ _ | refine zq2 ?_ | refine zq1 ?_ _)); refine zq11 ?_ NB101_107.out _; (with_reducible repeat (first | refine zq0 ?_ _ | refine zq2 ?_ | refine zq1 ?_ _)); refine zq11 ?_ NB101_107.out _; (with_reducible repeat (first | refine zq0 ?_ _ | refine zq2 ?_ | refine zq1 ?_ _)); refine zq11 ?_ NB101_107.out _; (with_reducible repeat (first | refine zq0 ?_ _ | refine zq2 ?_ | refine zq1 ?_ _)); refine zq11 ?_ NB101_107.out _; (with_reducible repeat (first | refine zq0 ?_ _ | refine zq2 ?_ | refine zq1 ?_ _)); exact BK101.out⟩, ⟨by (with_reducible repeat (first | refine zq0 ?_ _ | refine zq2 ?_ | refine zq1 ?_ _)); refine blk_put (cs := #[.int .u64 t121, .int .u64 t122, .int .u64 t123, .bool x108003_2]) ?_ 3 _ rfl; (with_reducible repeat (first | refine zq0 ?_ _ | refine zq2 ?_ | refine zq1 ?_ _)); refine blk_put (cs := #[.int .u64 t121, .int .u64 t122, .int .u64 x108002_2, .bool x108003_2]) ?_ 2 _ rfl; (with_reducible repeat (first | refine zq0 ?_ _ | refine zq2 ?_ | refine zq1 ?_ _)); refine blk_put (cs := #[.int .u64 t121, .int .u64 x108001_2, .int .u64 x108002_2, .bool x108003_2]) ?_ 1 _ rfl; (with_reducible repeat (first | refine zq0 ?_ _ | refine zq2 ?_ | refine zq1 ?_ _)); refine blk_put (cs := #[.int .u64 x108000_2, .int .u64 x108001_2, .int .u64 x108002_2, .bool x108003_2]) ?_ 0 _ rfl; (with_reducible repeat (first | refine zq0 ?_ _ | refine zq2 ?_ | refine zq1 ?_ _)); exact BK107.out⟩, ⟨by (with_reducible repeat (first | refine zq0 ?_ _ | refine zq2 ?_ | refine zq1 ?_ _)); refine zq11 ?_ NB109_107.out _; (with_reducible repeat (first | refine zq0 ?_ _ | refine zq2 ?_ | refine zq1 ?_ _)); refine zq11 ?_ NB109_107.out _; (with_reducible repeat (first | refine zq0 ?_ _ | refine zq2 ?_ | refine zq1 ?_ _)); refine zq11 ?_ NB109_107.out _; (with_reducible repeat (first | refine zq0 ?_ _ | refine zq2 ?_ | refine zq1 ?_ _)); refine zq11 ?_ NB109_107.out _; (with_reducible repeat (first | refine zq0 ?_ _ | refine zq2 ?_ | refine zq1 ?_ _)); exact BK109.out⟩, ⟨by repeat (first | (with_reducible first | exact HB.out | apply zq9 | apply zq7 | apply zq8 | refine zq6 ?_ GE101.out | refine zq6 ?_ GE107.out | refine zq6 ?_ GE109.out | refine zq6 ?_ GE118.out | refine zq6 ?_ GE126.out) | exact HB.out)⟩⟩
                ·
                 rw [if_neg c187] at H
                 exact absurd H (by simp)
               ·
                rw [if_neg c186] at H
                exact absurd H (by simp)
              ·
               rw [if_neg c185] at H
               have c185b0 : (t125 == 2) = false := beq_eq_false_iff_ne.mpr c185
               have c185b1 : (t125 != 2) = true := bne_iff_ne.mpr c185
               by_cases c200 : (IntKind.u64.wrap (t113 - t121)) = x16_182
               ·
                rw [if_pos c200] at H
                have c200b0 : ((IntKind.u64.wrap (t113 - t121)) == x16_182) = true := beq_iff_eq.mpr c200
                have c200b1 : ((IntKind.u64.wrap (t113 - t121)) != x16_182) = false := bne_eq_false_iff_eq.mpr c200
                clear c200
                by_cases c201 : (IntKind.u64.wrap (t114 - t122)) = t127
                ·
                 rw [if_pos c201] at H
                 have c201b0 : ((IntKind.u64.wrap (t114 - t122)) == t127) = true := beq_iff_eq.mpr c201
                 have c201b1 : ((IntKind.u64.wrap (t114 - t122)) != t127) = false := bne_eq_false_iff_eq.mpr c201
                 clear c201
                 have H' := zq3 H
                 clear H
                 have hnb202 := NB118_101.out
                 have hnc202 := NB101_118.out
                 have hnb203 := NB118_107.out
                 have hnc203 := NB107_118.out
                 have hnb204 := NB118_109.out
                 have hnc204 := NB109_118.out
                 have hnb205 := NB118_126.out
                 have hnc205 := NB126_118.out
                 have hcz206_0 : wc.cell? ⟨gb118, 0, none⟩ = some (.int .u64 t113) := (zq5 BK118.out 0).trans rfl
                 have hcz206_1 : wc.cell? ⟨gb118, 1, none⟩ = some (.int .u64 t114) := (zq5 BK118.out 1).trans rfl
                 have hcz206_2 : wc.cell? ⟨gb118, 2, none⟩ = some (.int .u64 t115) := (zq5 BK118.out 2).trans rfl
                 have hcz206_3 : wc.cell? ⟨gb118, 3, none⟩ = some (.bool t116) := (zq5 BK118.out 3).trans rfl
                 have hfz206_0 := zq4 BK118.out 0
                 have hfz206_1 := zq4 BK118.out 1
                 have hfz206_2 := zq4 BK118.out 2
                 have hfz206_3 := zq4 BK118.out 3
                 have hnb207 := NB126_101.out
                 have hnc207 := NB101_126.out
                 have hnb208 := NB126_107.out
                 have hnc208 := NB107_126.out
                 have hnb209 := NB126_109.out
                 have hnc209 := NB109_126.out
                 have hcz210_0 : wc.cell? ⟨gb126, 0, none⟩ = some (.int .u64 t121) := (zq5 BK126.out 0).trans rfl
                 have hcz210_1 : wc.cell? ⟨gb126, 1, none⟩ = some (.int .u64 t122) := (zq5 BK126.out 1).trans rfl
                 have hcz210_2 : wc.cell? ⟨gb126, 2, none⟩ = some (.int .u64 t123) := (zq5 BK126.out 2).trans rfl
                 have hcz210_3 : wc.cell? ⟨gb126, 3, none⟩ = some (.bool t124) := (zq5 BK126.out 3).trans rfl
                 have hfz210_0 := zq4 BK126.out 0
                 have hfz210_1 := zq4 BK126.out 1
                 have hfz210_2 := zq4 BK126.out 2
                 have hfz210_3 := zq4 BK126.out 3
                 have hnb211 := NB107_101.out
                 have hnc211 := NB101_107.out
                 have hnb212 := NB107_109.out
                 have hnc212 := NB109_107.out
                 have hcz213_0 : wc.cell? ⟨gb107, 0, none⟩ = some (.int .u64 x108000_2) := (zq5 BK107.out 0).trans rfl
                 have hcz213_1 : wc.cell? ⟨gb107, 1, none⟩ = some (.int .u64 x108001_2) := (zq5 BK107.out 1).trans rfl
                 have hcz213_2 : wc.cell? ⟨gb107, 2, none⟩ = some (.int .u64 x108002_2) := (zq5 BK107.out 2).trans rfl
                 have hcz213_3 : wc.cell? ⟨gb107, 3, none⟩ = some (.bool x108003_2) := (zq5 BK107.out 3).trans rfl
                 have hfz213_0 := zq4 BK107.out 0
                 have hfz213_1 := zq4 BK107.out 1
                 have hfz213_2 := zq4 BK107.out 2
                 have hfz213_3 := zq4 BK107.out 3
                 go_wp2
                 go_roundg kj182
                 case measure => have := HJ3.out; have := HK2.out; have := HJ26.out; have := HJ182.out; omega
                 case rel => exact ⟨(wrap64 (x8_2 + 1)), (t121), (t122), (t123), (t124), (by first | rfl | (simp; done) | (simp [*]; done)), H', ⟨by have := HJ3.out; have := HK2.out; have := HJ26.out; have := HJ182.out; omega⟩, ⟨by (with_reducible repeat (first | refine zq0 ?_ _ | refine zq2 ?_ | refine zq1 ?_ _)); refine zq11 ?_ NB101_107.out _; (with_reducible repeat (first | refine zq0 ?_ _ | refine zq2 ?_ | refine zq1 ?_ _)); refine zq11 ?_ NB101_107.out _; (with_reducible repeat (first | refine zq0 ?_ _ | refine zq2 ?_ | refine zq1 ?_ _)); refine zq11 ?_ NB101_107.out _; (with_reducible repeat (first | refine zq0 ?_ _ | refine zq2 ?_ | refine zq1 ?_ _)); refine zq11 ?_ NB101_107.out _; (with_reducible repeat (first | refine zq0 ?_ _ | refine zq2 ?_ | refine zq1 ?_ _)); exact BK101.out⟩, ⟨by (with_reducible repeat (first | refine zq0 ?_ _ | refine zq2 ?_ | refine zq1 ?_ _)); refine blk_put (cs := #[.int .u64 t121, .int .u64 t122, .int .u64 t123, .bool x108003_2]) ?_ 3 _ rfl; (with_reducible repeat (first | refine zq0 ?_ _ | refine zq2 ?_ | refine zq1 ?_ _)); refine blk_put (cs := #[.int .u64 t121, .int .u64 t122, .int .u64 x108002_2, .bool x108003_2]) ?_ 2 _ rfl; (with_reducible repeat (first | refine zq0 ?_ _ | refine zq2 ?_ | refine zq1 ?_ _)); refine blk_put (cs := #[.int .u64 t121, .int .u64 x108001_2, .int .u64 x108002_2, .bool x108003_2]) ?_ 1 _ rfl; (with_reducible repeat (first | refine zq0 ?_ _ | refine zq2 ?_ | refine zq1 ?_ _)); refine blk_put (cs := #[.int .u64 x108000_2, .int .u64 x108001_2, .int .u64 x108002_2, .bool x108003_2]) ?_ 0 _ rfl; (with_reducible repeat (first | refine zq0 ?_ _ | refine zq2 ?_ | refine zq1 ?_ _)); exact BK107.out⟩, ⟨by (with_reducible repeat (first | refine zq0 ?_ _ | refine zq2 ?_ | refine zq1 ?_ _)); refine zq11 ?_ NB109_107.out _; (with_reducible repeat (first | refine zq0 ?_ _ | refine zq2 ?_ | refine zq1 ?_ _)); refine zq11 ?_ NB109_107.out _; (with_reducible repeat (first | refine zq0 ?_ _ | refine zq2 ?_ | refine zq1 ?_ _)); refine zq11 ?_ NB109_107.out _; (with_reducible repeat (first | refine zq0 ?_ _ | refine zq2 ?_ | refine zq1 ?_ _)); refine zq11 ?_ NB109_107.out _; (with_reducible repeat (first | refine zq0 ?_ _ | refine zq2 ?_ | refine zq1 ?_ _)); exact BK109.out⟩, ⟨by repeat (first | (with_reducible first | exact HB.out | apply zq9 | apply zq7 | apply zq8 | refine zq6 ?_ GE101.out | refine zq6 ?_ GE107.out | refine zq6 ?_ GE109.out | refine zq6 ?_ GE118.out | refine zq6 ?_ GE126.out) | exact HB.out)⟩⟩
                ·
                 rw [if_neg c201] at H
                 exact absurd H (by simp)
               ·
                rw [if_neg c200] at H
                exact absurd H (by simp)
       ·
        rw [if_neg c22] at H
        exact absurd H (by simp)
      ·
       rw [if_neg c21] at H
       have c21b0 : decide (x8_2 < (l1.length : Int)) = false := decide_eq_false c21
       clear c21
       replace H := Option.bind_eq_some_iff.mp H
       obtain ⟨t110, A2140, H⟩ := H
       replace H : (some t110) = some r := H
       have A214 := zq3 A2140
       clear A2140
       obtain rfl := Option.some.inj H
       go_wp2_with (first | ((with_reducible refine gate_callee (f := 16) rfl ?_); refine goesL_ (some 158) rfl rfl Try.func16 (by kernel_rfl) rfl #[] rfl (by (try simp only [List.map_toArray, List.map_cons, List.map_nil]); first | done | rfl | (simp only [List.length_drop, List.length_take]; rfl)) ?_; (with_reducible refine (weighbridgelaw27_live.calls  t110 _ A214.out).mono ?_); rintro e w215 ⟨rfl, hb⟩; refine ⟨_, rfl, ?_⟩; have n0_ := zq3 (zq10 (g := gb101) (o := .cells #[.int .i64 a0_0, .bool a0_1, .int .u64 a0_2, .int .u64 a0_3, .int .u64 a0_4, .int .u64 a0_5] 24 (0, 0)) (by (with_reducible repeat (first | refine zq0 ?_ _ | refine zq2 ?_ | refine zq1 ?_ _)); exact BK101.out) hb); have n1_ := zq3 (zq10 (g := gb107) (o := .cells #[.int .u64 x108000_2, .int .u64 x108001_2, .int .u64 x108002_2, .bool x108003_2] 26 (0, 0)) (by (with_reducible repeat (first | refine zq0 ?_ _ | refine zq2 ?_ | refine zq1 ?_ _)); exact BK107.out) hb); have n2_ := zq3 (zq10 (g := gb109) (o := .cells #[.int .u64 t102, .int .u64 t103, .int .u64 t104, .bool t105] 26 (0, 0)) (by (with_reducible repeat (first | refine zq0 ?_ _ | refine zq2 ?_ | refine zq1 ?_ _)); exact BK109.out) hb); have n3_ := zq3 (below_step (by repeat (first | (with_reducible first | exact HB.out | apply zq9 | apply zq7 | apply zq8 | refine zq6 ?_ GE101.out | refine zq6 ?_ GE107.out | refine zq6 ?_ GE109.out) | exact HB.out)) hb); clear BK101; clear BK107; clear BK109; clear HB; have BK101 := n0_; have BK107 := n1_; have BK109 := n2_; have HB := n3_; clear n0_ n1_ n2_ n3_; (try clear hb); (try clear hb2); (try clear hk); (try clear hi)))
       go_ret
       exact ⟨by first | rfl | (simp [errW_none, errW_some] <;> rfl) | (simp [*, errW_none, errW_some] <;> rfl), by repeat (first | (with_reducible first | exact HB.out | apply zq9 | apply zq7 | apply zq8 | refine zq6 ?_ GE101.out | refine zq6 ?_ GE107.out | refine zq6 ?_ GE109.out) | exact HB.out)⟩

end Go.Proofs.Ytkefamalcmglgaa.P
