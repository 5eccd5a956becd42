/- Printed out of the translation: what functions compute, and the proofs that the code computes just this. -/
import Derived.Test.YtkefamalcmglgaaP0
import Derived.Test.YtkefamalcmglgaaPF20
import Derived.Test.YtkefamalcmglgaaPF22
import Derived.Test.YtkefamalcmglgaaPF24
import Derived.Test.YtkefamalcmglgaaEqA
namespace Go.Proofs.Ytkefamalcmglgaa.P
open Go.RowKit Go.Proofs.YtkefamalcmglgaaW.PrintWords Go.Proofs.YtkefamalcmglgaaW.PrintLast Go.Proofs.YtkefamalcmglgaaW.PrintMore
attribute [local go_sem] max2_int min2_int max_two min_two max_three min_three max_four min_four   -- for this text's walks alone
attribute [local go_sem high] eqA_two
set_option linter.unusedVariables false
set_option linter.unusedSimpArgs false

/-! ### weighbridgelaw26_SingleTakes: function 8 -/
mutual
def weighbridgelaw26_SingleTakes.j0 : Nat → List (S28) → Bool → Int → Bool → Int → Int → Int → Int → Int → Int → Int → Bool → Option (Bool)
 | 0, _, _, _, _, _, _, _, _, _, _, _, _ => none
 | k + 1, x1, x30, x102000, x102001, x102002, x102003, x102004, x102005, x108000, x108001, x108002, x108003 => if x30 = true then ((weighbridgelaw26_live.f).bind fun t108 => (some t108)) else (weighbridgelaw26_SingleTakes.l0 k x1 0 x102000 x102001 x102002 x102003 x102004 x102005 x108000 x108001 x108002 x108003 x108000 x108001 x108002 x108003)
def weighbridgelaw26_SingleTakes.l0 : Nat → List (S28) → Int → Int → Bool → Int → Int → Int → Int → Int → Int → Int → Bool → Int → Int → Int → Bool → Option (Bool)
 | 0, _, _, _, _, _, _, _, _, _, _, _, _, _, _, _, _ => none
 | k + 1, x1, x8, x102000, x102001, x102002, x102003, x102004, x102005, x108000, x108001, x108002, x108003, x110000, x110001, x110002, x110003 => if x8 < (x1.length : Int) then (if 0 ≤ x8 then (if ((rd_T28 x1 x8).f1) < 0 then (weighbridgelaw26_SingleTakes.l0 k x1 (wrap64 (x8 + 1)) x102000 x102001 x102002 x102003 x102004 x102005 x108000 x108001 x108002 x108003 x110000 x110001 x110002 x110003) else ((single_Step.f k x102000 x102001 x102002 x102003 x102004 x102005 x108000 x108001 x108002 x108003 ((rd_T28 x1 x8).f0) 0 0).bind fun bt113 => ((single_Step.f k x102000 x102001 x102002 x102003 x102004 x102005 x108000 x108001 x108002 x108003 ((rd_T28 x1 x8).f0) ((rd_T28 x1 x8).f1) ((rd_T28 x1 x8).f2)).bind fun bt121 => ((bucket_Need.f ((rd_T28 x1 x8).f1)).bind fun bt127 => (if bt121.1 > x110000 then (none) else (if bt121.2.1 > x110001 then (none) else (if bt121.2.2.1 = bt113.2.2.1 then (if bt121.2.2.2.1 = true then (if x108003 = true then (if bt121.2.2.1 < x108002 then (none) else (if x102001 = true then (weighbridgelaw26_SingleTakes.j2 k x1 x8 bt121.2.2.2.2 bt127.1 bt127.2 (IntKind.u64.wrap (bt113.1 - bt121.1)) (IntKind.u64.wrap (bt113.2.1 - bt121.2.1)) (decide (bt121.2.2.2.2 < (mn ((rd_T28 x1 x8).f2) 2))) x102000 x102001 x102002 x102003 x102004 x102005 x110000 x110001 x110002 x110003 bt121.1 bt121.2.1 bt121.2.2.1 bt121.2.2.2.1) else (weighbridgelaw26_SingleTakes.j2 k x1 x8 bt121.2.2.2.2 bt127.1 bt127.2 (IntKind.u64.wrap (bt113.1 - bt121.1)) (IntKind.u64.wrap (bt113.2.1 - bt121.2.1)) false x102000 x102001 x102002 x102003 x102004 x102005 x110000 x110001 x110002 x110003 bt121.1 bt121.2.1 bt121.2.2.1 bt121.2.2.2.1))) else (if x102001 = true then (weighbridgelaw26_SingleTakes.j2 k x1 x8 bt121.2.2.2.2 bt127.1 bt127.2 (IntKind.u64.wrap (bt113.1 - bt121.1)) (IntKind.u64.wrap (bt113.2.1 - bt121.2.1)) (decide (bt121.2.2.2.2 < (mn ((rd_T28 x1 x8).f2) 2))) x102000 x102001 x102002 x102003 x102004 x102005 x110000 x110001 x110002 x110003 bt121.1 bt121.2.1 bt121.2.2.1 bt121.2.2.2.1) else (weighbridgelaw26_SingleTakes.j2 k x1 x8 bt121.2.2.2.2 bt127.1 bt127.2 (IntKind.u64.wrap (bt113.1 - bt121.1)) (IntKind.u64.wrap (bt113.2.1 - bt121.2.1)) false x102000 x102001 x102002 x102003 x102004 x102005 x110000 x110001 x110002 x110003 bt121.1 bt121.2.1 bt121.2.2.1 bt121.2.2.2.1))) else (none)) else (none)))))))) else (none)) else ((weighbridgelaw26_live.f).bind fun t110 => (some t110))
def weighbridgelaw26_SingleTakes.j2 : Nat → List (S28) → Int → Int → Int → Bool → Int → Int → Bool → Int → Bool → Int → Int → Int → Int → Int → Int → Int → Bool → Int → Int → Int → Bool → Option (Bool)
 | 0, _, _, _, _, _, _, _, _, _, _, _, _, _, _, _, _, _, _, _, _, _, _ => none
 | k + 1, x1, x8, x13, x14, x15, x16, x17, x137, x102000, x102001, x102002, x102003, x102004, x102005, x110000, x110001, x110002, x110003, x127000, x127001, x127002, x127003 => if x137 = true then (none) else (if x13 < 0 then (none) else (weighbridgelaw26_SingleTakes.j3 k x1 x8 x13 x14 x15 x16 x17 (decide (x13 > 2)) x102000 x102001 x102002 x102003 x102004 x102005 x110000 x110001 x110002 x110003 x127000 x127001 x127002 x127003))
def weighbridgelaw26_SingleTakes.j3 : Nat → List (S28) → Int → Int → Int → Bool → Int → Int → Bool → Int → Bool → Int → Int → Int → Int → Int → Int → Int → Bool → Int → Int → Int → Bool → Option (Bool)
 | 0, _, _, _, _, _, _, _, _, _, _, _, _, _, _, _, _, _, _, _, _, _, _ => none
 | k + 1, x1, x8, x13, x14, x15, x16, x17, x143, x102000, x102001, x102002, x102003, x102004, x102005, x110000, x110001, x110002, x110003, x127000, x127001, x127002, x127003 => if x143 = true then (none) else (if x15 = true then (weighbridgelaw26_SingleTakes.j4 k x1 x8 x13 x14 x15 x16 x17 (x13 != 2) x102000 x102001 x102002 x102003 x102004 x102005 x110000 x110001 x110002 x110003 x127000 x127001 x127002 x127003 0 0) else (weighbridgelaw26_SingleTakes.j4 k x1 x8 x13 x14 x15 x16 x17 false x102000 x102001 x102002 x102003 x102004 x102005 x110000 x110001 x110002 x110003 x127000 x127001 x127002 x127003 0 0))
def weighbridgelaw26_SingleTakes.j4 : Nat → List (S28) → Int → Int → Int → Bool → Int → Int → Bool → Int → Bool → Int → Int → Int → Int → Int → Int → Int → Bool → Int → Int → Int → Bool → Int → Int → Option (Bool)
 | 0, _, _, _, _, _, _, _, _, _, _, _, _, _, _, _, _, _, _, _, _, _, _, _, _ => none
 | k + 1, x1, x8, x13, x14, x15, x16, x17, x149, x102000, x102001, x102002, x102003, x102004, x102005, x110000, x110001, x110002, x110003, x127000, x127001, x127002, x127003, x132000, x132001 => if x149 = true then (if x13 = 0 then (if x16 = x14 then (if x17 = x132001 then (if x15 = true then (weighbridgelaw26_SingleTakes.l0 k x1 (wrap64 (x8 + 1)) x102000 x102001 x102002 x102003 x102004 x102005 x127000 x127001 x127002 x127003 x110000 x110001 x110002 x110003) else (if x13 = 2 then (weighbridgelaw26_SingleTakes.l0 k x1 (wrap64 (x8 + 1)) x102000 x102001 x102002 x102003 x102004 x102005 x127000 x127001 x127002 x127003 x110000 x110001 x110002 x110003) else (none))) else (none)) else (none)) else (if x13 = 1 then (if x16 = x132000 then (if x17 = x14 then (if x15 = true then (weighbridgelaw26_SingleTakes.l0 k x1 (wrap64 (x8 + 1)) x102000 x102001 x102002 x102003 x102004 x102005 x127000 x127001 x127002 x127003 x110000 x110001 x110002 x110003) else (if x13 = 2 then (weighbridgelaw26_SingleTakes.l0 k x1 (wrap64 (x8 + 1)) x102000 x102001 x102002 x102003 x102004 x102005 x127000 x127001 x127002 x127003 x110000 x110001 x110002 x110003) else (none))) else (none)) else (none)) else (none))) else (if x16 = x132000 then (if x17 = x132001 then (if x15 = true then (weighbridgelaw26_SingleTakes.l0 k x1 (wrap64 (x8 + 1)) x102000 x102001 x102002 x102003 x102004 x102005 x127000 x127001 x127002 x127003 x110000 x110001 x110002 x110003) else (if x13 = 2 then (weighbridgelaw26_SingleTakes.l0 k x1 (wrap64 (x8 + 1)) x102000 x102001 x102002 x102003 x102004 x102005 x127000 x127001 x127002 x127003 x110000 x110001 x110002 x110003) else (none))) else (none)) else (none))
end
def weighbridgelaw26_SingleTakes.f (k : Nat) (a0_0 : Int) (a0_1 : Bool) (a0_2 : Int) (a0_3 : Int) (a0_4 : Int) (a0_5 : Int) (l1 : List (S28)) : Option (Bool) := (single_New.f k a0_0 a0_1 a0_2 a0_3 a0_4 a0_5).bind fun bt102 => (if bt102.2.2.2.2 = 0 then (weighbridgelaw26_SingleTakes.j0 k l1 (decide ((l1.length : Int) > 200)) a0_0 a0_1 a0_2 a0_3 a0_4 a0_5 bt102.1 bt102.2.1 bt102.2.2.1 bt102.2.2.2.1) else (weighbridgelaw26_SingleTakes.j0 k l1 true a0_0 a0_1 a0_2 a0_3 a0_4 a0_5 bt102.1 bt102.2.1 bt102.2.2.1 bt102.2.2.2.1))
def weighbridgelaw26_SingleTakes.T10 : Bool × List (List Nat × List Nat) := (true, [([], []), ([], []), ([], []), ([], []), ([2, 3], [2, 3]), ([4], [4]), ([5], [5]), ([0, 1, 6], [0, 1, 6]), ([7], [7]), ([8], [8]), ([8], [8]), ([], []), ([11, 9, 7, 0, 1, 2, 3, 4, 5, 6, 7, 8, 9, 11], [9, 11]), ([10, 12, 0, 1, 2, 3, 4, 5, 6, 7, 8, 9, 10, 11, 12], [10])])
def weighbridgelaw26_SingleTakes.B10 : List Nat := [0, 0, 0, 0, 12, 28, 60, 127, 255, 511, 511, 0, 3071, 8191]
theorem weighbridgelaw26_SingleTakes.tab10 : rtab .any (opsOf Try.f8 10) = weighbridgelaw26_SingleTakes.T10 := by kernel_rfl
theorem weighbridgelaw26_SingleTakes.bits10 : waitsOk weighbridgelaw26_SingleTakes.T10.2 weighbridgelaw26_SingleTakes.B10 = true := by kernel_rfl
def weighbridgelaw26_SingleTakes.T11 : Bool × List (List Nat × List Nat) := (true, [([], []), ([], []), ([], []), ([], []), ([2, 3], [2, 3]), ([4], [4]), ([5], [5]), ([], []), ([], []), ([], []), ([8, 9], [8, 9]), ([10], [10]), ([11], [11]), ([0, 1, 6, 7, 12], [0, 1, 6, 7, 12]), ([13], [13]), ([14], [14]), ([14], [14]), ([], []), ([17, 15, 13, 0, 1, 2, 3, 4, 5, 6, 7, 8, 9, 10, 11, 12, 13, 14, 15, 17], [15, 17]), ([16, 18, 0, 1, 2, 3, 4, 5, 6, 7, 8, 9, 10, 11, 12, 13, 14, 15, 16, 17, 18], [16])])
def weighbridgelaw26_SingleTakes.B11 : List Nat := [0, 0, 0, 0, 12, 28, 60, 0, 0, 0, 768, 1792, 3840, 8191, 16383, 32767, 32767, 0, 196607, 524287]
theorem weighbridgelaw26_SingleTakes.tab11 : rtab .any (opsOf Try.f8 11) = weighbridgelaw26_SingleTakes.T11 := by kernel_rfl
theorem weighbridgelaw26_SingleTakes.bits11 : waitsOk weighbridgelaw26_SingleTakes.T11.2 weighbridgelaw26_SingleTakes.B11 = true := by kernel_rfl
def weighbridgelaw26_SingleTakes.T13 : Bool × List (List Nat × List Nat) := (true, [([], []), ([0], [0]), ([], []), ([2], [2]), ([1, 3], [1, 3]), ([], []), ([5], [5]), ([], []), ([7], [7]), ([6, 8], [6, 8]), ([4, 0, 1, 2, 3, 4], [4]), ([9, 10, 0, 1, 2, 3, 4, 5, 6, 7, 8, 9, 10], [9])])
def weighbridgelaw26_SingleTakes.B13 : List Nat := [0, 1, 0, 4, 15, 0, 32, 0, 128, 480, 31, 2047]
theorem weighbridgelaw26_SingleTakes.tab13 : rtab .any (opsOf Try.f8 13) = weighbridgelaw26_SingleTakes.T13 := by kernel_rfl
theorem weighbridgelaw26_SingleTakes.bits13 : waitsOk weighbridgelaw26_SingleTakes.T13.2 weighbridgelaw26_SingleTakes.B13 = true := by kernel_rfl
set_option maxHeartbeats 8000000 in
set_option maxRecDepth 100000 in
theorem weighbridgelaw26_SingleTakes.calls (k : Nat) (a0_0 : Int) (a0_1 : Bool) (a0_2 : Int) (a0_3 : Int) (a0_4 : Int) (a0_5 : Int) (A1 : Option Addr) (c1 : Nat) (l1 : List (S28)) (r : Bool) (w : World) (hr1 : Kd.C k28 w A1 l1.length l1) (hc1 : l1.length ≤ c1) (h : weighbridgelaw26_SingleTakes.f k a0_0 a0_1 a0_2 a0_3 a0_4 a0_5 l1 = some r) :
  Calls Try.prog 8 #[.agg #[.int .i64 a0_0, .bool a0_1, .int .u64 a0_2, .int .u64 a0_3, .int .u64 a0_4, .int .u64 a0_5], .slice A1 l1.length c1] w fun e w' => e = .returned (.bool r) ∧ Below w.heap.size w w' := by
 have hu24 := Try.underlying24
 have hu26 := Try.underlying26
 have hu41 := Try.underlying41
 have HR1 := zq3 hr1
 have HC1 := zq3 hc1
 clear hr1 hc1
 have HB := zq3 (Below.refl w.heap.size w)
 have H : ((single_New.f k a0_0 a0_1 a0_2 a0_3 a0_4 a0_5).bind fun bt102 => (if bt102.2.2.2.2 = 0 then (weighbridgelaw26_SingleTakes.j0 k l1 (decide ((l1.length : Int) > 200)) a0_0 a0_1 a0_2 a0_3 a0_4 a0_5 bt102.1 bt102.2.1 bt102.2.2.1 bt102.2.2.2.1) else (weighbridgelaw26_SingleTakes.j0 k l1 true a0_0 a0_1 a0_2 a0_3 a0_4 a0_5 bt102.1 bt102.2.1 bt102.2.2.1 bt102.2.2.2.1))) = some r := h
 clear h
 replace H := Option.bind_eq_some_iff.mp H
 obtain ⟨⟨t102, t103, t104, t105, t106⟩, A30, H⟩ := H
 replace H : (if t106 = 0 then (weighbridgelaw26_SingleTakes.j0 k l1 (decide ((l1.length : Int) > 200)) a0_0 a0_1 a0_2 a0_3 a0_4 a0_5 t102 t103 t104 t105) else (weighbridgelaw26_SingleTakes.j0 k l1 true a0_0 a0_1 a0_2 a0_3 a0_4 a0_5 t102 t103 t104 t105)) = some r := H
 have A3 := zq3 A30
 clear A30
 have HC4 := zq3 H
 clear H
 go_enter Try.func8, Try.ntmps8
 go_upto_region 2 with (first | ((with_reducible refine gate_dst (N := 2) rfl ?_); (try (refine gate_guard (by rfl) ?_; dsimp only)); refine box_event ?hg (N := 2) ?hd (cs := #[.int .i64 a0_0, .bool a0_1, .int .u64 a0_2, .int .u64 a0_3, .int .u64 a0_4, .int .u64 a0_5]) (t := 24) ?hr ?_; (case hd => rfl); (case hg => rfl); (case hr => first | (go_simp; done) | (go_simp; rfl)); intro gb101 hg w5 hbox hb; have n0_ := zq3 (below_step (by repeat (first | (with_reducible first | exact HB.out | apply zq9 | apply zq7 | apply zq8) | exact HB.out)) hb); have n1_ := zq3 (hbox); have n2_ := zq3 ((by rw [hg]; exact (below_size (by repeat (first | (with_reducible first | exact HB.out | apply zq9 | apply zq7 | apply zq8) | exact HB.out))) : w.heap.size ≤ gb101)); have n3_ := zq3 ((by rw [hg]; exact (below_size (by repeat (first | (with_reducible first | exact HB.out | apply zq9 | apply zq7 | apply zq8) | exact HB.out))) : w.heap.size ≤ gb101)); clear HB; have HB := n0_; have BK101 := n1_; have GW101 := n2_; have GE101 := n3_; clear n0_ n1_ n2_ n3_; clear hb hbox hg; have hcz6_0 : w5.cell? ⟨gb101, 0, none⟩ = some (.int .i64 a0_0) := (zq5 BK101.out 0).trans rfl; have hcz6_1 : w5.cell? ⟨gb101, 1, none⟩ = some (.bool a0_1) := (zq5 BK101.out 1).trans rfl; have hcz6_2 : w5.cell? ⟨gb101, 2, none⟩ = some (.int .u64 a0_2) := (zq5 BK101.out 2).trans rfl; have hcz6_3 : w5.cell? ⟨gb101, 3, none⟩ = some (.int .u64 a0_3) := (zq5 BK101.out 3).trans rfl; have hcz6_4 : w5.cell? ⟨gb101, 4, none⟩ = some (.int .u64 a0_4) := (zq5 BK101.out 4).trans rfl; have hcz6_5 : w5.cell? ⟨gb101, 5, none⟩ = some (.int .u64 a0_5) := (zq5 BK101.out 5).trans rfl; have hfz6_0 := zq4 BK101.out 0; have hfz6_1 := zq4 BK101.out 1; have hfz6_2 := zq4 BK101.out 2; have hfz6_3 := zq4 BK101.out 3; have hfz6_4 := zq4 BK101.out 4; have hfz6_5 := zq4 BK101.out 5) | ((with_reducible refine gate_callee (f := 20) rfl ?_); refine goesL_ (some 21) rfl rfl Try.func20 (by kernel_rfl) rfl #[.agg #[.int .i64 a0_0, .bool a0_1, .int .u64 a0_2, .int .u64 a0_3, .int .u64 a0_4, .int .u64 a0_5]] rfl (by (try simp only [List.map_toArray, List.map_cons, List.map_nil]); first | done | rfl | (simp only [List.length_drop, List.length_take]; rfl)) ?_; (with_reducible refine (single_New.calls k a0_0 a0_1 a0_2 a0_3 a0_4 a0_5 t102 t103 t104 t105 t106 _ A3.out).mono ?_); rintro e w7 ⟨rfl, hb⟩; refine ⟨_, rfl, ?_⟩; have n0_ := zq3 (zq10 (g := gb101) (o := .cells #[.int .i64 a0_0, .bool a0_1, .int .u64 a0_2, .int .u64 a0_3, .int .u64 a0_4, .int .u64 a0_5] 24 (0, 0)) (by (with_reducible repeat (first | refine zq0 ?_ _ | refine zq2 ?_ | refine zq1 ?_ _)); exact BK101.out) hb); have n1_ := zq3 (below_step (by repeat (first | (with_reducible first | exact HB.out | apply zq9 | apply zq7 | apply zq8 | refine zq6 ?_ GE101.out) | exact HB.out)) hb); clear BK101; clear HB; have BK101 := n0_; have HB := n1_; clear n0_ n1_; (try clear hb); (try clear hb2); (try clear hk); (try clear hi)) | ((with_reducible refine gate_dst (N := 5) rfl ?_); (try (refine gate_guard (by rfl) ?_; dsimp only)); refine box_event ?hg (N := 5) ?hd (cs := #[.int .u64 0, .int .u64 0, .int .u64 0, .bool false]) (t := 26) ?hr ?_; (case hd => rfl); (case hg => rfl); (case hr => first | (go_simp; done) | (go_simp; rfl)); intro gb107 hg w8 hbox hb; have n0_ := zq3 (zq10 (g := gb101) (o := .cells #[.int .i64 a0_0, .bool a0_1, .int .u64 a0_2, .int .u64 a0_3, .int .u64 a0_4, .int .u64 a0_5] 24 (0, 0)) (by (with_reducible repeat (first | refine zq0 ?_ _ | refine zq2 ?_ | refine zq1 ?_ _)); exact BK101.out) hb); have n1_ := zq3 (below_step (by repeat (first | (with_reducible first | exact HB.out | apply zq9 | apply zq7 | apply zq8 | refine zq6 ?_ GE101.out) | exact HB.out)) hb); have n2_ := zq3 (hbox); have n3_ := zq3 ((by rw [hg]; exact (below_size (by repeat (first | (with_reducible first | exact HB.out | apply zq9 | apply zq7 | apply zq8 | refine zq6 ?_ GE101.out) | exact HB.out))) : w.heap.size ≤ gb107)); have n4_ := zq3 ((by rw [hg]; exact (below_size (by repeat (first | (with_reducible first | exact HB.out | apply zq9 | apply zq7 | apply zq8 | refine zq6 ?_ GE101.out) | exact HB.out))) : w.heap.size ≤ gb107)); have n5_ := zq3 ((by rw [hg]; exact Nat.ne_of_lt (blk_lt (g := gb101) (o := .cells #[.int .i64 a0_0, .bool a0_1, .int .u64 a0_2, .int .u64 a0_3, .int .u64 a0_4, .int .u64 a0_5] 24 (0, 0)) (by (with_reducible repeat (first | refine zq0 ?_ _ | refine zq2 ?_ | refine zq1 ?_ _)); exact BK101.out)) : gb101 ≠ gb107)); have n6_ := zq3 ((by rw [hg]; exact Nat.ne_of_gt (blk_lt (g := gb101) (o := .cells #[.int .i64 a0_0, .bool a0_1, .int .u64 a0_2, .int .u64 a0_3, .int .u64 a0_4, .int .u64 a0_5] 24 (0, 0)) (by (with_reducible repeat (first | refine zq0 ?_ _ | refine zq2 ?_ | refine zq1 ?_ _)); exact BK101.out)) : gb107 ≠ gb101)); clear BK101; clear HB; have BK101 := n0_; have HB := n1_; have BK107 := n2_; have GW107 := n3_; have GE107 := n4_; have NB101_107 := n5_; have NB107_101 := n6_; clear n0_ n1_ n2_ n3_ n4_ n5_ n6_; clear hb hbox hg; have hnb9 := NB107_101.out; have hnc9 := NB101_107.out; have hcz10_0 : w8.cell? ⟨gb107, 0, none⟩ = some (.int .u64 0) := (zq5 BK107.out 0).trans rfl; have hcz10_1 : w8.cell? ⟨gb107, 1, none⟩ = some (.int .u64 0) := (zq5 BK107.out 1).trans rfl; have hcz10_2 : w8.cell? ⟨gb107, 2, none⟩ = some (.int .u64 0) := (zq5 BK107.out 2).trans rfl; have hcz10_3 : w8.cell? ⟨gb107, 3, none⟩ = some (.bool false) := (zq5 BK107.out 3).trans rfl; have hfz10_0 := zq4 BK107.out 0; have hfz10_1 := zq4 BK107.out 1; have hfz10_2 := zq4 BK107.out 2; have hfz10_3 := zq4 BK107.out 3))
 (try simp only [Act.put, List.setIfInBounds_toArray, List.set_cons_zero, List.set_cons_succ])
 go_cut [30] (fun v30 wc => ∃ (kq : Nat) (x30_3 : Bool), v30 = .bool x30_3 ∧ Aside0 (weighbridgelaw26_SingleTakes.j0 kq l1 x30_3 a0_0 a0_1 a0_2 a0_3 a0_4 a0_5 t102 t103 t104 t105 = some r) ∧ Aside0 (kq ≤ k) ∧ Aside0 (wc.heap[gb101]? = some (.cells #[.int .i64 a0_0, .bool a0_1, .int .u64 a0_2, .int .u64 a0_3, .int .u64 a0_4, .int .u64 a0_5] 24 (0, 0))) ∧ Aside0 (wc.heap[gb107]? = some (.cells #[.int .u64 t102, .int .u64 t103, .int .u64 t104, .bool t105] 26 (0, 0))) ∧ Aside0 (Below w.heap.size w wc))
 case first =>
  have H := HC4.out
  clear HC4
  by_cases c11 : t106 = 0
  ·
   rw [if_pos c11] at H
   have c11b0 : (t106 == 0) = true := beq_iff_eq.mpr c11
   have c11b1 : (t106 != 0) = false := bne_eq_false_iff_eq.mpr c11
   clear c11
   (first | rw [c11b0] | (simp only [i64_w, i32_w]; rw [c11b0]) | skip)
   have H' := zq3 H
   clear H
   go_wp2
   go_meet
   case rel => exact ⟨_, (decide ((l1.length : Int) > 200)), (by first | rfl | (simp; done) | (simp [*]; done)), H', ⟨by first | omega | exact Nat.le_refl _⟩, ⟨by (with_reducible repeat (first | refine zq0 ?_ _ | refine zq2 ?_ | refine zq1 ?_ _)); refine zq11 ?_ NB101_107.out _; (with_reducible repeat (first | refine zq0 ?_ _ | refine zq2 ?_ | refine zq1 ?_ _)); refine zq11 ?_ NB101_107.out _; (with_reducible repeat (first | refine zq0 ?_ _ | refine zq2 ?_ | refine zq1 ?_ _)); refine zq11 ?_ NB101_107.out _; (with_reducible repeat (first | refine zq0 ?_ _ | refine zq2 ?_ | refine zq1 ?_ _)); refine zq11 ?_ NB101_107.out _; (with_reducible repeat (first | refine zq0 ?_ _ | refine zq2 ?_ | refine zq1 ?_ _)); exact BK101.out⟩, ⟨by (with_reducible repeat (first | refine zq0 ?_ _ | refine zq2 ?_ | refine zq1 ?_ _)); refine blk_put (cs := #[.int .u64 t102, .int .u64 t103, .int .u64 t104, .bool false]) ?_ 3 _ rfl; (with_reducible repeat (first | refine zq0 ?_ _ | refine zq2 ?_ | refine zq1 ?_ _)); refine blk_put (cs := #[.int .u64 t102, .int .u64 t103, .int .u64 0, .bool false]) ?_ 2 _ rfl; (with_reducible repeat (first | refine zq0 ?_ _ | refine zq2 ?_ | refine zq1 ?_ _)); refine blk_put (cs := #[.int .u64 t102, .int .u64 0, .int .u64 0, .bool false]) ?_ 1 _ rfl; (with_reducible repeat (first | refine zq0 ?_ _ | refine zq2 ?_ | refine zq1 ?_ _)); refine blk_put (cs := #[.int .u64 0, .int .u64 0, .int .u64 0, .bool false]) ?_ 0 _ rfl; (with_reducible repeat (first | refine zq0 ?_ _ | refine zq2 ?_ | refine zq1 ?_ _)); exact BK107.out⟩, ⟨by repeat (first | (with_reducible first | exact HB.out | apply zq9 | apply zq7 | apply zq8 | refine zq6 ?_ GE101.out | refine zq6 ?_ GE107.out) | exact HB.out)⟩⟩
  ·
   rw [if_neg c11] at H
   have c11b0 : (t106 == 0) = false := beq_eq_false_iff_ne.mpr c11
   have c11b1 : (t106 != 0) = true := bne_iff_ne.mpr c11
   (first | rw [c11b0] | (simp only [i64_w, i32_w]; rw [c11b0]) | skip)
   have H' := zq3 H
   clear H
   go_wp2
   go_meet
   case rel => exact ⟨_, (true), (by first | rfl | (simp; done) | (simp [*]; done)), H', ⟨by first | omega | exact Nat.le_refl _⟩, ⟨by (with_reducible repeat (first | refine zq0 ?_ _ | refine zq2 ?_ | refine zq1 ?_ _)); refine zq11 ?_ NB101_107.out _; (with_reducible repeat (first | refine zq0 ?_ _ | refine zq2 ?_ | refine zq1 ?_ _)); refine zq11 ?_ NB101_107.out _; (with_reducible repeat (first | refine zq0 ?_ _ | refine zq2 ?_ | refine zq1 ?_ _)); refine zq11 ?_ NB101_107.out _; (with_reducible repeat (first | refine zq0 ?_ _ | refine zq2 ?_ | refine zq1 ?_ _)); refine zq11 ?_ NB101_107.out _; (with_reducible repeat (first | refine zq0 ?_ _ | refine zq2 ?_ | refine zq1 ?_ _)); exact BK101.out⟩, ⟨by (with_reducible repeat (first | refine zq0 ?_ _ | refine zq2 ?_ | refine zq1 ?_ _)); refine blk_put (cs := #[.int .u64 t102, .int .u64 t103, .int .u64 t104, .bool false]) ?_ 3 _ rfl; (with_reducible repeat (first | refine zq0 ?_ _ | refine zq2 ?_ | refine zq1 ?_ _)); refine blk_put (cs := #[.int .u64 t102, .int .u64 t103, .int .u64 0, .bool false]) ?_ 2 _ rfl; (with_reducible repeat (first | refine zq0 ?_ _ | refine zq2 ?_ | refine zq1 ?_ _)); refine blk_put (cs := #[.int .u64 t102, .int .u64 0, .int .u64 0, .bool false]) ?_ 1 _ rfl; (with_reducible repeat (first | refine zq0 ?_ _ | refine zq2 ?_ | refine zq1 ?_ _)); refine blk_put (cs := #[.int .u64 0, .int .u64 0, .int .u64 0, .bool false]) ?_ 0 _ rfl; (with_reducible repeat (first | refine zq0 ?_ _ | refine zq2 ?_ | refine zq1 ?_ _)); exact BK107.out⟩, ⟨by repeat (first | (with_reducible first | exact HB.out | apply zq9 | apply zq7 | apply zq8 | refine zq6 ?_ GE101.out | refine zq6 ?_ GE107.out) | exact HB.out)⟩⟩
 case rest =>
  clear HC4
  (try clear c1); (try clear c2); (try clear p2); (try clear c8); (try clear c9); (try clear c11); (try clear c11b0); (try clear c11b1); (try clear hcz10_0); (try clear hcz10_1); (try clear hcz10_2); (try clear hcz10_3); (try clear hcz6_0); (try clear hcz6_1); (try clear hcz6_2); (try clear hcz6_3); (try clear hcz6_4); (try clear hcz6_5); (try clear hfz10_0); (try clear hfz10_1); (try clear hfz10_2); (try clear hfz10_3); (try clear hfz6_0); (try clear hfz6_1); (try clear hfz6_2); (try clear hfz6_3); (try clear hfz6_4); (try clear hfz6_5)
  obtain ⟨kq, x30_3, rfl, HA, HJ3, BK101, BK107, HB⟩ := hcut
  cases kq with
  | zero => exact absurd HA.out (by simp [weighbridgelaw26_SingleTakes.j0])
  | succ kj3 =>
   have H := HA.out
   clear HA
   simp only [weighbridgelaw26_SingleTakes.j0] at H
   by_cases c12 : x30_3 = true
   ·
    subst c12
    have H1 : ((weighbridgelaw26_live.f).bind fun t108 => (some t108)) = some r := by rw [if_pos rfl] at H; exact H
    clear H
    have H := H1
    clear H1
    replace H := Option.bind_eq_some_iff.mp H
    obtain ⟨t108, A130, H⟩ := H
    replace H : (some t108) = some r := H
    have A13 := zq3 A130
    clear A130
    obtain rfl := Option.some.inj H
    go_wp2_with (first | ((with_reducible refine gate_callee (f := 24) rfl ?_); refine goesL_ (some 31) rfl rfl Try.func24 (by kernel_rfl) rfl #[] rfl (by (try simp only [List.map_toArray, List.map_cons, List.map_nil]); first | done | rfl | (simp only [List.length_drop, List.length_take]; rfl)) ?_; (with_reducible refine (weighbridgelaw26_live.calls  t108 _ A13.out).mono ?_); rintro e w14 ⟨rfl, hb⟩; refine ⟨_, rfl, ?_⟩; have n0_ := zq3 (zq10 (g := gb101) (o := .cells #[.int .i64 a0_0, .bool a0_1, .int .u64 a0_2, .int .u64 a0_3, .int .u64 a0_4, .int .u64 a0_5] 24 (0, 0)) (by (with_reducible repeat (first | refine zq0 ?_ _ | refine zq2 ?_ | refine zq1 ?_ _)); exact BK101.out) hb); have n1_ := zq3 (zq10 (g := gb107) (o := .cells #[.int .u64 t102, .int .u64 t103, .int .u64 t104, .bool t105] 26 (0, 0)) (by (with_reducible repeat (first | refine zq0 ?_ _ | refine zq2 ?_ | refine zq1 ?_ _)); exact BK107.out) hb); have n2_ := zq3 (below_step (by repeat (first | (with_reducible first | exact HB.out | apply zq9 | apply zq7 | apply zq8 | refine zq6 ?_ GE101.out | refine zq6 ?_ GE107.out) | exact HB.out)) hb); clear BK101; clear BK107; clear HB; have BK101 := n0_; have BK107 := n1_; have HB := n2_; clear n0_ n1_ n2_; (try clear hb); (try clear hb2); (try clear hk); (try clear hi)))
    go_ret
    exact ⟨by first | rfl | (simp [errW_none, errW_some] <;> rfl) | (simp [*, errW_none, errW_some] <;> rfl), by repeat (first | (with_reducible first | exact HB.out | apply zq9 | apply zq7 | apply zq8 | refine zq6 ?_ GE101.out | refine zq6 ?_ GE107.out) | exact HB.out)⟩
   ·
    replace c12 := Bool.eq_false_iff.mpr c12
    subst c12
    have H1 : (weighbridgelaw26_SingleTakes.l0 kj3 l1 0 a0_0 a0_1 a0_2 a0_3 a0_4 a0_5 t102 t103 t104 t105 t102 t103 t104 t105) = some r := by rw [if_neg (show ¬ (false = true) by decide)] at H; exact H
    clear H
    have H := H1
    clear H1
    have H' := zq3 H
    clear H
    have hnb15 := NB107_101.out
    have hnc15 := NB101_107.out
    have hcz16_0 : wc.cell? ⟨gb107, 0, none⟩ = some (.int .u64 t102) := (zq5 BK107.out 0).trans rfl
    have hcz16_1 : wc.cell? ⟨gb107, 1, none⟩ = some (.int .u64 t103) := (zq5 BK107.out 1).trans rfl
    have hcz16_2 : wc.cell? ⟨gb107, 2, none⟩ = some (.int .u64 t104) := (zq5 BK107.out 2).trans rfl
    have hcz16_3 : wc.cell? ⟨gb107, 3, none⟩ = some (.bool t105) := (zq5 BK107.out 3).trans rfl
    have hfz16_0 := zq4 BK107.out 0
    have hfz16_1 := zq4 BK107.out 1
    have hfz16_2 := zq4 BK107.out 2
    have hfz16_3 := zq4 BK107.out 3
    go_wp2_with (first | ((with_reducible refine gate_dst (N := 7) rfl ?_); (try (refine gate_guard (by rfl) ?_; dsimp only)); refine box_event ?hg (N := 7) ?hd (cs := #[.int .u64 0, .int .u64 0, .int .u64 0, .bool false]) (t := 26) ?hr ?_; (case hd => rfl); (case hg => rfl); (case hr => first | (go_simp; done) | (go_simp; rfl)); intro gb109 hg w17 hbox hb; have n0_ := zq3 (zq10 (g := gb101) (o := .cells #[.int .i64 a0_0, .bool a0_1, .int .u64 a0_2, .int .u64 a0_3, .int .u64 a0_4, .int .u64 a0_5] 24 (0, 0)) (by (with_reducible repeat (first | refine zq0 ?_ _ | refine zq2 ?_ | refine zq1 ?_ _)); exact BK101.out) hb); have n1_ := zq3 (zq10 (g := gb107) (o := .cells #[.int .u64 t102, .int .u64 t103, .int .u64 t104, .bool t105] 26 (0, 0)) (by (with_reducible repeat (first | refine zq0 ?_ _ | refine zq2 ?_ | refine zq1 ?_ _)); exact BK107.out) hb); have n2_ := zq3 (below_step (by repeat (first | (with_reducible first | exact HB.out | apply zq9 | apply zq7 | apply zq8 | refine zq6 ?_ GE101.out | refine zq6 ?_ GE107.out) | exact HB.out)) hb); have n3_ := zq3 (hbox); have n4_ := zq3 ((by rw [hg]; exact (below_size (by repeat (first | (with_reducible first | exact HB.out | apply zq9 | apply zq7 | apply zq8 | refine zq6 ?_ GE101.out | refine zq6 ?_ GE107.out) | exact HB.out))) : w.heap.size ≤ gb109)); have n5_ := zq3 ((by rw [hg]; exact (below_size (by repeat (first | (with_reducible first | exact HB.out | apply zq9 | apply zq7 | apply zq8 | refine zq6 ?_ GE101.out | refine zq6 ?_ GE107.out) | exact HB.out))) : w.heap.size ≤ gb109)); have n6_ := zq3 ((by rw [hg]; exact Nat.ne_of_lt (blk_lt (g := gb101) (o := .cells #[.int .i64 a0_0, .bool a0_1, .int .u64 a0_2, .int .u64 a0_3, .int .u64 a0_4, .int .u64 a0_5] 24 (0, 0)) (by (with_reducible repeat (first | refine zq0 ?_ _ | refine zq2 ?_ | refine zq1 ?_ _)); exact BK101.out)) : gb101 ≠ gb109)); have n7_ := zq3 ((by rw [hg]; exact Nat.ne_of_gt (blk_lt (g := gb101) (o := .cells #[.int .i64 a0_0, .bool a0_1, .int .u64 a0_2, .int .u64 a0_3, .int .u64 a0_4, .int .u64 a0_5] 24 (0, 0)) (by (with_reducible repeat (first | refine zq0 ?_ _ | refine zq2 ?_ | refine zq1 ?_ _)); exact BK101.out)) : gb109 ≠ gb101)); have n8_ := zq3 ((by rw [hg]; exact Nat.ne_of_lt (blk_lt (g := gb107) (o := .cells #[.int .u64 t102, .int .u64 t103, .int .u64 t104, .bool t105] 26 (0, 0)) (by (with_reducible repeat (first | refine zq0 ?_ _ | refine zq2 ?_ | refine zq1 ?_ _)); exact BK107.out)) : gb107 ≠ gb109)); have n9_ := zq3 ((by rw [hg]; exact Nat.ne_of_gt (blk_lt (g := gb107) (o := .cells #[.int .u64 t102, .int .u64 t103, .int .u64 t104, .bool t105] 26 (0, 0)) (by (with_reducible repeat (first | refine zq0 ?_ _ | refine zq2 ?_ | refine zq1 ?_ _)); exact BK107.out)) : gb109 ≠ gb107)); clear BK101; clear BK107; clear HB; have BK101 := n0_; have BK107 := n1_; have HB := n2_; have BK109 := n3_; have GW109 := n4_; have GE109 := n5_; have NB101_109 := n6_; have NB109_101 := n7_; have NB107_109 := n8_; have NB109_107 := n9_; clear n0_ n1_ n2_ n3_ n4_ n5_ n6_ n7_ n8_ n9_; clear hb hbox hg; have hnb18 := NB109_101.out; have hnc18 := NB101_109.out; have hnb19 := NB109_107.out; have hnc19 := NB107_109.out; have hcz20_0 : w17.cell? ⟨gb109, 0, none⟩ = some (.int .u64 0) := (zq5 BK109.out 0).trans rfl; have hcz20_1 : w17.cell? ⟨gb109, 1, none⟩ = some (.int .u64 0) := (zq5 BK109.out 1).trans rfl; have hcz20_2 : w17.cell? ⟨gb109, 2, none⟩ = some (.int .u64 0) := (zq5 BK109.out 2).trans rfl; have hcz20_3 : w17.cell? ⟨gb109, 3, none⟩ = some (.bool false) := (zq5 BK109.out 3).trans rfl; have hfz20_0 := zq4 BK109.out 0; have hfz20_1 := zq4 BK109.out 1; have hfz20_2 := zq4 BK109.out 2; have hfz20_3 := zq4 BK109.out 3))
    go_loopg [8] kj3 (fun kq v8 w' => ∃ (x8_2 : Int) (x108000_2 : Int) (x108001_2 : Int) (x108002_2 : Int) (x108003_2 : Bool), v8 = .int .i64 x8_2 ∧ Aside0 (weighbridgelaw26_SingleTakes.l0 kq l1 x8_2 a0_0 a0_1 a0_2 a0_3 a0_4 a0_5 x108000_2 x108001_2 x108002_2 x108003_2 t102 t103 t104 t105 = some r) ∧ Aside0 (kq ≤ kj3) ∧ Aside0 (w'.heap[gb101]? = some (.cells #[.int .i64 a0_0, .bool a0_1, .int .u64 a0_2, .int .u64 a0_3, .int .u64 a0_4, .int .u64 a0_5] 24 (0, 0))) ∧ Aside0 (w'.heap[gb107]? = some (.cells #[.int .u64 x108000_2, .int .u64 x108001_2, .int .u64 x108002_2, .bool x108003_2] 26 (0, 0))) ∧ Aside0 (w'.heap[gb109]? = some (.cells #[.int .u64 t102, .int .u64 t103, .int .u64 t104, .bool t105] 26 (0, 0))) ∧ Aside0 (Below w.heap.size w w'))
    case atStart => exact ⟨(0), (t102), (t103), (t104), (t105), (by first | rfl | (simp; done) | (simp [*]; done)), H', ⟨Nat.le_refl _⟩, ⟨by (with_reducible repeat (first | refine zq0 ?_ _ | refine zq2 ?_ | refine zq1 ?_ _)); refine zq11 ?_ NB101_109.out _; (with_reducible repeat (first | refine zq0 ?_ _ | refine zq2 ?_ | refine zq1 ?_ _)); refine zq11 ?_ NB101_109.out _; (with_reducible repeat (first | refine zq0 ?_ _ | refine zq2 ?_ | refine zq1 ?_ _)); refine zq11 ?_ NB101_109.out _; (with_reducible repeat (first | refine zq0 ?_ _ | refine zq2 ?_ | refine zq1 ?_ _)); refine zq11 ?_ NB101_109.out _; (with_reducible repeat (first | refine zq0 ?_ _ | refine zq2 ?_ | refine zq1 ?_ _)); exact BK101.out⟩, ⟨by (with_reducible repeat (first | refine zq0 ?_ _ | refine zq2 ?_ | refine zq1 ?_ _)); refine zq11 ?_ NB107_109.out _; (with_reducible repeat (first | refine zq0 ?_ _ | refine zq2 ?_ | refine zq1 ?_ _)); refine zq11 ?_ NB107_109.out _; (with_reducible repeat (first | refine zq0 ?_ _ | refine zq2 ?_ | refine zq1 ?_ _)); refine zq11 ?_ NB107_109.out _; (with_reducible repeat (first | refine zq0 ?_ _ | refine zq2 ?_ | refine zq1 ?_ _)); refine zq11 ?_ NB107_109.out _; (with_reducible repeat (first | refine zq0 ?_ _ | refine zq2 ?_ | refine zq1 ?_ _)); exact BK107.out⟩, ⟨by (with_reducible repeat (first | refine zq0 ?_ _ | refine zq2 ?_ | refine zq1 ?_ _)); refine blk_put (cs := #[.int .u64 t102, .int .u64 t103, .int .u64 t104, .bool false]) ?_ 3 _ rfl; (with_reducible repeat (first | refine zq0 ?_ _ | refine zq2 ?_ | refine zq1 ?_ _)); refine blk_put (cs := #[.int .u64 t102, .int .u64 t103, .int .u64 0, .bool false]) ?_ 2 _ rfl; (with_reducible repeat (first | refine zq0 ?_ _ | refine zq2 ?_ | refine zq1 ?_ _)); refine blk_put (cs := #[.int .u64 t102, .int .u64 0, .int .u64 0, .bool false]) ?_ 1 _ rfl; (with_reducible repeat (first | refine zq0 ?_ _ | refine zq2 ?_ | refine zq1 ?_ _)); refine blk_put (cs := #[.int .u64 0, .int .u64 0, .int .u64 0, .bool false]) ?_ 0 _ rfl; (with_reducible repeat (first | refine zq0 ?_ _ | refine zq2 ?_ | refine zq1 ?_ _)); exact BK109.out⟩, ⟨by repeat (first | (with_reducible first | exact HB.out | apply zq9 | apply zq7 | apply zq8 | refine zq6 ?_ GE101.out | refine zq6 ?_ GE107.out | refine zq6 ?_ GE109.out) | exact HB.out)⟩⟩
    case round =>
     clear H'
     (try clear c1); (try clear c2); (try clear p2); (try clear c8); (try clear c9); (try clear c11); (try clear c11b0); (try clear c11b1); (try clear c12); (try clear c15); (try clear c18); (try clear c19); (try clear c20); (try clear hcz10_0); (try clear hcz10_1); (try clear hcz10_2); (try clear hcz10_3); (try clear hcz16_0); (try clear hcz16_1); (try clear hcz16_2); (try clear hcz16_3); (try clear hcz20_0); (try clear hcz20_1); (try clear hcz20_2); (try clear hcz20_3); (try clear hcz6_0); (try clear hcz6_1); (try clear hcz6_2); (try clear hcz6_3); (try clear hcz6_4); (try clear hcz6_5); (try clear hfz10_0); (try clear hfz10_1); (try clear hfz10_2); (try clear hfz10_3); (try clear hfz16_0); (try clear hfz16_1); (try clear hfz16_2); (try clear hfz16_3); (try clear hfz20_0); (try clear hfz20_1); (try clear hfz20_2); (try clear hfz20_3); (try clear hfz6_0); (try clear hfz6_1); (try clear hfz6_2); (try clear hfz6_3); (try clear hfz6_4); (try clear hfz6_5); (try clear p2)
     obtain ⟨x8_2, x108000_2, x108001_2, x108002_2, x108003_2, rfl, HA, HK2, BK101, BK107, BK109, HB⟩ := hrel
     cases gk with
     | zero => exact absurd HA.out (by simp [weighbridgelaw26_SingleTakes.l0])
     | succ k2 =>
      have H := HA.out
      clear HA
      simp only [weighbridgelaw26_SingleTakes.l0] at H
      by_cases c21 : x8_2 < (l1.length : Int)
      ·
       rw [if_pos c21] at H
       have c21b0 : decide (x8_2 < (l1.length : Int)) = true := decide_eq_true c21
       clear c21
       by_cases c22 : 0 ≤ x8_2
       ·
        rw [if_pos c22] at H
        have c22b0 : decide (0 ≤ x8_2) = true := decide_eq_true c22
        clear c22
        by_cases c23 : ((rd_T28 l1 x8_2).f1) < 0
        ·
         rw [if_pos c23] at H
         have c23b0 : decide (((rd_T28 l1 x8_2).f1) < 0) = true := decide_eq_true c23
         clear c23
         have H' := zq3 H
         clear H
         have p111 : 0 ≤ (x8_2 : Int) := of_decide_eq_true (by first | (with_reducible assumption) | assumption)
         have q111 : x8_2 < (l1.length : Int) := of_decide_eq_true (by first | (with_reducible assumption) | assumption)
         obtain ⟨ad111, e111, hx111_0, hx111_1, hx111_2⟩ := at_T28 HR1.out x8_2 p111 q111
         cases e111
         replace hx111_0 := (HB.out.cell (World.block_lt_of_cell? w _ hx111_0)).trans hx111_0
         replace hx111_1 := (HB.out.cell (World.block_lt_of_cell? w _ hx111_1)).trans hx111_1
         replace hx111_2 := (HB.out.cell (World.block_lt_of_cell? w _ hx111_2)).trans hx111_2
         replace p111 := eq_true p111
         replace q111 := eq_true q111
         go_wp2
         go_roundg k2
         case measure => have := HJ3.out; have := HK2.out; omega
         case rel => exact ⟨(wrap64 (x8_2 + 1)), (x108000_2), (x108001_2), (x108002_2), (x108003_2), (by first | rfl | (simp; done) | (simp [*]; done)), H', ⟨by have := HJ3.out; have := HK2.out; omega⟩, ⟨by (with_reducible repeat (first | refine zq0 ?_ _ | refine zq2 ?_ | refine zq1 ?_ _)); exact BK101.out⟩, ⟨by (with_reducible repeat (first | refine zq0 ?_ _ | refine zq2 ?_ | refine zq1 ?_ _)); exact BK107.out⟩, ⟨by (with_reducible repeat (first | refine zq0 ?_ _ | refine zq2 ?_ | refine zq1 ?_ _)); exact BK109.out⟩, ⟨by repeat (first | (with_reducible first | exact HB.out | apply zq9 | apply zq7 | apply zq8 | refine zq6 ?_ GE101.out | refine zq6 ?_ GE107.out | refine zq6 ?_ GE109.out) | exact HB.out)⟩⟩
        ·
         rw [if_neg c23] at H
         have c23b0 : decide (((rd_T28 l1 x8_2).f1) < 0) = false := decide_eq_false c23
         clear c23
         replace H := Option.bind_eq_some_iff.mp H
         obtain ⟨⟨t113, t114, t115, t116, t117⟩, A240, H⟩ := H
         replace H : ((single_Step.f k2 a0_0 a0_1 a0_2 a0_3 a0_4 a0_5 x108000_2 x108001_2 x108002_2 x108003_2 ((rd_T28 l1 x8_2).f0) ((rd_T28 l1 x8_2).f1) ((rd_T28 l1 x8_2).f2)).bind fun bt121 => ((bucket_Need.f ((rd_T28 l1 x8_2).f1)).bind fun bt127 => (if bt121.1 > t102 then (none) else (if bt121.2.1 > t103 then (none) else (if bt121.2.2.1 = t115 then (if bt121.2.2.2.1 = true then (if x108003_2 = true then (if bt121.2.2.1 < x108002_2 then (none) else (if a0_1 = true then (weighbridgelaw26_SingleTakes.j2 k2 l1 x8_2 bt121.2.2.2.2 bt127.1 bt127.2 (IntKind.u64.wrap (t113 - bt121.1)) (IntKind.u64.wrap (t114 - bt121.2.1)) (decide (bt121.2.2.2.2 < (mn ((rd_T28 l1 x8_2).f2) 2))) a0_0 a0_1 a0_2 a0_3 a0_4 a0_5 t102 t103 t104 t105 bt121.1 bt121.2.1 bt121.2.2.1 bt121.2.2.2.1) else (weighbridgelaw26_SingleTakes.j2 k2 l1 x8_2 bt121.2.2.2.2 bt127.1 bt127.2 (IntKind.u64.wrap (t113 - bt121.1)) (IntKind.u64.wrap (t114 - bt121.2.1)) false a0_0 a0_1 a0_2 a0_3 a0_4 a0_5 t102 t103 t104 t105 bt121.1 bt121.2.1 bt121.2.2.1 bt121.2.2.2.1))) else (if a0_1 = true then (weighbridgelaw26_SingleTakes.j2 k2 l1 x8_2 bt121.2.2.2.2 bt127.1 bt127.2 (IntKind.u64.wrap (t113 - bt121.1)) (IntKind.u64.wrap (t114 - bt121.2.1)) (decide (bt121.2.2.2.2 < (mn ((rd_T28 l1 x8_2).f2) 2))) a0_0 a0_1 a0_2 a0_3 a0_4 a0_5 t102 t103 t104 t105 bt121.1 bt121.2.1 bt121.2.2.1 bt121.2.2.2.1) else (weighbridgelaw26_SingleTakes.j2 k2 l1 x8_2 bt121.2.2.2.2 bt127.1 bt127.2 (IntKind.u64.wrap (t113 - bt121.1)) (IntKind.u64.wrap (t114 - bt121.2.1)) false a0_0 a0_1 a0_2 a0_3 a0_4 a0_5 t102 t103 t104 t105 bt121.1 bt121.2.1 bt121.2.2.1 bt121.2.2.2.1))) else (none)) else (none)))))) = some r := H
         have A24 := zq3 A240
         clear A240
         replace H := Option.bind_eq_some_iff.mp H
         obtain ⟨⟨t121, t122, t123, t124, t125⟩, A250, H⟩ := H
         replace H : ((bucket_Need.f ((rd_T28 l1 x8_2).f1)).bind fun bt127 => (if t121 > t102 then (none) else (if t122 > t103 then (none) else (if t123 = t115 then (if t124 = true then (if x108003_2 = true then (if t123 < x108002_2 then (none) else (if a0_1 = true then (weighbridgelaw26_SingleTakes.j2 k2 l1 x8_2 t125 bt127.1 bt127.2 (IntKind.u64.wrap (t113 - t121)) (IntKind.u64.wrap (t114 - t122)) (decide (t125 < (mn ((rd_T28 l1 x8_2).f2) 2))) a0_0 a0_1 a0_2 a0_3 a0_4 a0_5 t102 t103 t104 t105 t121 t122 t123 t124) else (weighbridgelaw26_SingleTakes.j2 k2 l1 x8_2 t125 bt127.1 bt127.2 (IntKind.u64.wrap (t113 - t121)) (IntKind.u64.wrap (t114 - t122)) false a0_0 a0_1 a0_2 a0_3 a0_4 a0_5 t102 t103 t104 t105 t121 t122 t123 t124))) else (if a0_1 = true then (weighbridgelaw26_SingleTakes.j2 k2 l1 x8_2 t125 bt127.1 bt127.2 (IntKind.u64.wrap (t113 - t121)) (IntKind.u64.wrap (t114 - t122)) (decide (t125 < (mn ((rd_T28 l1 x8_2).f2) 2))) a0_0 a0_1 a0_2 a0_3 a0_4 a0_5 t102 t103 t104 t105 t121 t122 t123 t124) else (weighbridgelaw26_SingleTakes.j2 k2 l1 x8_2 t125 bt127.1 bt127.2 (IntKind.u64.wrap (t113 - t121)) (IntKind.u64.wrap (t114 - t122)) false a0_0 a0_1 a0_2 a0_3 a0_4 a0_5 t102 t103 t104 t105 t121 t122 t123 t124))) else (none)) else (none))))) = some r := H
         have A25 := zq3 A250
         clear A250
         replace H := Option.bind_eq_some_iff.mp H
         obtain ⟨⟨t127, t128⟩, A260, H⟩ := H
         replace H : (if t121 > t102 then (none) else (if t122 > t103 then (none) else (if t123 = t115 then (if t124 = true then (if x108003_2 = true then (if t123 < x108002_2 then (none) else (if a0_1 = true then (weighbridgelaw26_SingleTakes.j2 k2 l1 x8_2 t125 t127 t128 (IntKind.u64.wrap (t113 - t121)) (IntKind.u64.wrap (t114 - t122)) (decide (t125 < (mn ((rd_T28 l1 x8_2).f2) 2))) a0_0 a0_1 a0_2 a0_3 a0_4 a0_5 t102 t103 t104 t105 t121 t122 t123 t124) else (weighbridgelaw26_SingleTakes.j2 k2 l1 x8_2 t125 t127 t128 (IntKind.u64.wrap (t113 - t121)) (IntKind.u64.wrap (t114 - t122)) false a0_0 a0_1 a0_2 a0_3 a0_4 a0_5 t102 t103 t104 t105 t121 t122 t123 t124))) else (if a0_1 = true then (weighbridgelaw26_SingleTakes.j2 k2 l1 x8_2 t125 t127 t128 (IntKind.u64.wrap (t113 - t121)) (IntKind.u64.wrap (t114 - t122)) (decide (t125 < (mn ((rd_T28 l1 x8_2).f2) 2))) a0_0 a0_1 a0_2 a0_3 a0_4 a0_5 t102 t103 t104 t105 t121 t122 t123 t124) else (weighbridgelaw26_SingleTakes.j2 k2 l1 x8_2 t125 t127 t128 (IntKind.u64.wrap (t113 - t121)) (IntKind.u64.wrap (t114 - t122)) false a0_0 a0_1 a0_2 a0_3 a0_4 a0_5 t102 t103 t104 t105 t121 t122 t123 t124))) else (none)) else (none)))) = some r := H
         have A26 := zq3 A260
         clear A260
         have HC27 := zq3 H
         clear H
         have p111 : 0 ≤ (x8_2 : Int) := of_decide_eq_true (by first | (with_reducible assumption) | assumption)
         have q111 : x8_2 < (l1.length : Int) := of_decide_eq_true (by first | (with_reducible assumption) | assumption)
         obtain ⟨ad111, e111, hx111_0, hx111_1, hx111_2⟩ := at_T28 HR1.out x8_2 p111 q111
         cases e111
         replace hx111_0 := (HB.out.cell (World.block_lt_of_cell? w _ hx111_0)).trans hx111_0
         replace hx111_1 := (HB.out.cell (World.block_lt_of_cell? w _ hx111_1)).trans hx111_1
         replace hx111_2 := (HB.out.cell (World.block_lt_of_cell? w _ hx111_2)).trans hx111_2
         replace p111 := eq_true p111
         replace q111 := eq_true q111
         try go_wp2
         have n0_ := zq3 (zq2 BK101.out)
         have n1_ := zq3 (zq2 BK107.out)
         have n2_ := zq3 (zq2 BK109.out)
         have n3_ := zq3 (zq8 HB.out)
         clear BK101
         clear BK107
         clear BK109
         clear HB
         have BK101 := n0_
         have BK107 := n1_
         have BK109 := n2_
         have HB := n3_
         clear n0_ n1_ n2_ n3_
         have p112 : 0 ≤ (x8_2 : Int) := of_decide_eq_true (by first | (with_reducible assumption) | assumption)
         have q112 : x8_2 < (l1.length : Int) := of_decide_eq_true (by first | (with_reducible assumption) | assumption)
         obtain ⟨ad112, e112, hx112_0, hx112_1, hx112_2⟩ := at_T28 HR1.out x8_2 p112 q112
         have hw112_2 := hx112_2
         have hw112_1 := hx112_1
         have hw112_0 := hx112_0
         obtain rfl : ad111 = ad112 := (by injection e112)
         replace hx112_0 := (HB.out.cell (World.block_lt_of_cell? w _ hx112_0)).trans hx112_0
         replace hx112_1 := (HB.out.cell (World.block_lt_of_cell? w _ hx112_1)).trans hx112_1
         replace hx112_2 := (HB.out.cell (World.block_lt_of_cell? w _ hx112_2)).trans hx112_2
         replace p112 := eq_true p112
         replace q112 := eq_true q112
         refine start_ (n := 14) (S := fun w' => w'.cell? ⟨gb101, 0, none⟩ = some (.int .i64 a0_0) ∧ w'.cell? ⟨gb101, 1, none⟩ = some (.bool a0_1) ∧ w'.cell? ⟨gb101, 2, none⟩ = some (.int .u64 a0_2) ∧ w'.cell? ⟨gb101, 3, none⟩ = some (.int .u64 a0_3) ∧ w'.cell? ⟨gb101, 4, none⟩ = some (.int .u64 a0_4) ∧ w'.cell? ⟨gb101, 5, none⟩ = some (.int .u64 a0_5) ∧ w'.cell? ⟨gb107, 0, none⟩ = some (.int .u64 x108000_2) ∧ w'.cell? ⟨gb107, 1, none⟩ = some (.int .u64 x108001_2) ∧ w'.cell? ⟨gb107, 2, none⟩ = some (.int .u64 x108002_2) ∧ w'.cell? ⟨gb107, 3, none⟩ = some (.bool x108003_2) ∧ w'.cell? (ad111.add ((x8_2).toNat * 3)) = some (.int .u64 ((rd_T28 l1 x8_2).f0)) ∧ w'.cell? ⟨(ad111.add ((x8_2).toNat * 3)).block, (ad111.add ((x8_2).toNat * 3)).off + 1, none⟩ = some (.int .i64 ((rd_T28 l1 x8_2).f1)) ∧ w'.cell? ⟨(ad111.add ((x8_2).toNat * 3)).block, (ad111.add ((x8_2).toNat * 3)).off + 2, none⟩ = some (.int .i64 ((rd_T28 l1 x8_2).f2))) (ds := []) #[false, false, false, false, false, false, false, false, false, false, false, false, false, false] (by kernel_rfl) rfl rfl ⟨(zq5 BK101.out 0).trans rfl, (zq5 BK101.out 1).trans rfl, (zq5 BK101.out 2).trans rfl, (zq5 BK101.out 3).trans rfl, (zq5 BK101.out 4).trans rfl, (zq5 BK101.out 5).trans rfl, (zq5 BK107.out 0).trans rfl, (zq5 BK107.out 1).trans rfl, (zq5 BK107.out 2).trans rfl, (zq5 BK107.out 3).trans rfl, ((HB.out.cell (World.block_lt_of_cell? w _ hw112_0)).trans hw112_0), ((HB.out.cell (World.block_lt_of_cell? w _ hw112_1)).trans hw112_1), ((HB.out.cell (World.block_lt_of_cell? w _ hw112_2)).trans hw112_2)⟩ (fun hHeld => ?_); refine with_tabW weighbridgelaw26_SingleTakes.tab10 weighbridgelaw26_SingleTakes.bits10 (fun HT_ HW_ => ?_)
         generalize wr.drew = w28 at BK101 BK107 BK109 HB hx112_0 hx112_1 hx112_2 hHeld ⊢
         refine pure_ (i := 2) (N := some 49) (v := ?_) (a' := ?_) #[false, false, true, false, false, false, false, false, false, false, false, false, false, false] rfl rfl (any_of HT_.out (by kernel_rfl)) (fun _ _ _ h => h) (Or.inl ⟨by rfl, ?_⟩) ?_ ?_
         rotate_left
         ·
          intro w'
          go_simp
          with_reducible rfl
         rotate_left
         ·
          simp only [Act.put, List.setIfInBounds_toArray, List.set_cons_zero, List.set_cons_succ, i64_w, i32_w]
          rfl
         refine pure_ (i := 3) (N := some 50) (v := ?_) (a' := ?_) #[false, false, true, true, false, false, false, false, false, false, false, false, false, false] rfl rfl (any_of HT_.out (by kernel_rfl)) (fun _ _ _ h => h) (Or.inl ⟨by rfl, ?_⟩) ?_ ?_
         rotate_left
         ·
          intro w'
          go_simp
          with_reducible rfl
         rotate_left
         ·
          simp only [Act.put, List.setIfInBounds_toArray, List.set_cons_zero, List.set_cons_succ, i64_w, i32_w]
          rfl
         refine pure_ (i := 4) (N := some 51) (v := ?_) (a' := ?_) #[false, false, true, true, true, false, false, false, false, false, false, false, false, false] rfl rfl (any_of HT_.out (by kernel_rfl)) (fun _ _ _ h => h) (Or.inl ⟨by rfl, ?_⟩) ?_ ?_
         rotate_left
         ·
          intro w'
          go_simp
          with_reducible rfl
         rotate_left
         ·
          simp only [Act.put, List.setIfInBounds_toArray, List.set_cons_zero, List.set_cons_succ, i64_w, i32_w]
          rfl
         refine pure_ (i := 5) (N := some 52) (v := ?_) (a' := ?_) #[false, false, true, true, true, true, false, false, false, false, false, false, false, false] rfl rfl (any_of HT_.out (by kernel_rfl)) (fun _ _ _ h => h) (Or.inl ⟨by rfl, ?_⟩) ?_ ?_
         rotate_left
         ·
          intro w'
          go_simp
          with_reducible rfl
         rotate_left
         ·
          simp only [Act.put, List.setIfInBounds_toArray, List.set_cons_zero, List.set_cons_succ, i64_w, i32_w]
          rfl
         refine take_ (i := 0) (N := some 47) (v := ?_) (a' := ?_) #[true, false, true, true, true, true, false, false, false, false, false, false, false, false] rfl rfl (take_ofW HT_.out HW_.out (by kernel_rfl)) (fun _ _ _ h => h) (Or.inl ⟨by rfl, ?_⟩) hHeld ?_ ?_
         rotate_left
         ·
          rintro w' ⟨s0, s1, s2, s3, s4, s5, s6, s7, s8, s9, s10, s11, s12⟩
          go_simp
          with_reducible rfl
         rotate_left
         ·
          simp only [Act.put, List.setIfInBounds_toArray, List.set_cons_zero, List.set_cons_succ, i64_w, i32_w]
          rfl
         refine take_ (i := 1) (N := some 48) (v := ?_) (a' := ?_) #[true, true, true, true, true, true, false, false, false, false, false, false, false, false] rfl rfl (take_ofW HT_.out HW_.out (by kernel_rfl)) (fun _ _ _ h => h) (Or.inl ⟨by rfl, ?_⟩) hHeld ?_ ?_
         rotate_left
         ·
          rintro w' ⟨s0, s1, s2, s3, s4, s5, s6, s7, s8, s9, s10, s11, s12⟩
          go_simp
          with_reducible rfl
         rotate_left
         ·
          simp only [Act.put, List.setIfInBounds_toArray, List.set_cons_zero, List.set_cons_succ, i64_w, i32_w]
          rfl
         refine take_ (i := 6) (N := some 53) (v := ?_) (a' := ?_) #[true, true, true, true, true, true, true, false, false, false, false, false, false, false] rfl rfl (take_ofW HT_.out HW_.out (by kernel_rfl)) (fun _ _ _ h => h) (Or.inl ⟨by rfl, ?_⟩) hHeld ?_ ?_
         rotate_left
         ·
          rintro w' ⟨s0, s1, s2, s3, s4, s5, s6, s7, s8, s9, s10, s11, s12⟩
          go_simp
          with_reducible rfl
         rotate_left
         ·
          simp only [Act.put, List.setIfInBounds_toArray, List.set_cons_zero, List.set_cons_succ, i64_w, i32_w]
          rfl
         refine join_ (σ := Nat) 2 #[true, true, true, true, true, true, true, true, true, true, true, true, false, false] (fun s_ => [(54, .tuple #[.agg #[.int .u64 t113, .int .u64 t114, .int .u64 t115, .bool t116], .int .i64 t117]), (10, .pointer (some ⟨s_, 0, none⟩)), (46, .tuple #[.agg #[.int .u64 t113, .int .u64 t114, .int .u64 t115, .bool t116], .int .i64 t117]), (55, .agg #[.int .u64 t113, .int .u64 t114, .int .u64 t115, .bool t116]), (56, .int .i64 t117)]) (fun s_ w' => (w'.cell? ⟨gb101, 0, none⟩ = some (.int .i64 a0_0) ∧ w'.cell? ⟨gb101, 1, none⟩ = some (.bool a0_1) ∧ w'.cell? ⟨gb101, 2, none⟩ = some (.int .u64 a0_2) ∧ w'.cell? ⟨gb101, 3, none⟩ = some (.int .u64 a0_3) ∧ w'.cell? ⟨gb101, 4, none⟩ = some (.int .u64 a0_4) ∧ w'.cell? ⟨gb101, 5, none⟩ = some (.int .u64 a0_5) ∧ w'.cell? ⟨gb107, 0, none⟩ = some (.int .u64 x108000_2) ∧ w'.cell? ⟨gb107, 1, none⟩ = some (.int .u64 x108001_2) ∧ w'.cell? ⟨gb107, 2, none⟩ = some (.int .u64 x108002_2) ∧ w'.cell? ⟨gb107, 3, none⟩ = some (.bool x108003_2) ∧ w'.cell? (ad111.add ((x8_2).toNat * 3)) = some (.int .u64 ((rd_T28 l1 x8_2).f0)) ∧ w'.cell? ⟨(ad111.add ((x8_2).toNat * 3)).block, (ad111.add ((x8_2).toNat * 3)).off + 1, none⟩ = some (.int .i64 ((rd_T28 l1 x8_2).f1)) ∧ w'.cell? ⟨(ad111.add ((x8_2).toNat * 3)).block, (ad111.add ((x8_2).toNat * 3)).off + 2, none⟩ = some (.int .i64 ((rd_T28 l1 x8_2).f2))) ∧ (w'.heap[gb101]? = some (.cells #[.int .i64 a0_0, .bool a0_1, .int .u64 a0_2, .int .u64 a0_3, .int .u64 a0_4, .int .u64 a0_5] 24 (0, 0))) ∧ (w'.heap[gb107]? = some (.cells #[.int .u64 x108000_2, .int .u64 x108001_2, .int .u64 x108002_2, .bool x108003_2] 26 (0, 0))) ∧ (w'.heap[gb109]? = some (.cells #[.int .u64 t102, .int .u64 t103, .int .u64 t104, .bool t105] 26 (0, 0))) ∧ (w'.heap[s_]? = some (.cells #[.int .u64 0, .int .u64 0, .int .u64 0, .bool false] 26 (0, 0))) ∧ (w.heap.size ≤ s_) ∧ (w.heap.size ≤ s_) ∧ (gb101 ≠ s_) ∧ (s_ ≠ gb101) ∧ (gb107 ≠ s_) ∧ (s_ ≠ gb107) ∧ (gb109 ≠ s_) ∧ (s_ ≠ gb109) ∧ (Below w.heap.size w w')) ?_ ?_
         rotate_left
         ·
          intro hCont
          refine two_ (i := 7) (j := 11) (Ni := some 54) (Nj := some 10) #[true, true, true, true, true, true, true, true, false, false, false, false, false, false] #[true, true, true, true, true, true, true, false, false, false, false, true, false, false] rfl rfl rfl rfl (two_of HT_.out (by kernel_rfl)) (by decide) (by decide) (fun K hK => ?_) (fun K hK => ?_)
          ·
           skip
           refine goes_ Try.func22 (by kernel_rfl) rfl #[.agg #[.int .i64 a0_0, .bool a0_1, .int .u64 a0_2, .int .u64 a0_3, .int .u64 a0_4, .int .u64 a0_5], .agg #[.int .u64 x108000_2, .int .u64 x108001_2, .int .u64 x108002_2, .bool x108003_2], .int .u64 ((rd_T28 l1 x8_2).f0), .int .i64 0, .int .i64 0] (by rfl) rfl rfl (by (try simp only [List.map_toArray, List.map_cons, List.map_nil]); first | done | rfl | (simp only [List.length_drop, List.length_take]; rfl)) ?_
           with_reducible refine (single_Step.calls k2 a0_0 a0_1 a0_2 a0_3 a0_4 a0_5 x108000_2 x108001_2 x108002_2 x108003_2 ((rd_T28 l1 x8_2).f0) 0 0 t113 t114 t115 t116 t117 _ A24.out).mono ?_
           rintro e w29 ⟨rfl, hb⟩
           refine ⟨_, rfl, ?_⟩
           have n0_ := zq3 (zq10 (g := gb101) (o := .cells #[.int .i64 a0_0, .bool a0_1, .int .u64 a0_2, .int .u64 a0_3, .int .u64 a0_4, .int .u64 a0_5] 24 (0, 0)) (by (with_reducible repeat (first | refine zq0 ?_ _ | refine zq2 ?_ | refine zq1 ?_ _)); exact BK101.out) hb)
           have n1_ := zq3 (zq10 (g := gb107) (o := .cells #[.int .u64 x108000_2, .int .u64 x108001_2, .int .u64 x108002_2, .bool x108003_2] 26 (0, 0)) (by (with_reducible repeat (first | refine zq0 ?_ _ | refine zq2 ?_ | refine zq1 ?_ _)); exact BK107.out) hb)
           have n2_ := zq3 (zq10 (g := gb109) (o := .cells #[.int .u64 t102, .int .u64 t103, .int .u64 t104, .bool t105] 26 (0, 0)) (by (with_reducible repeat (first | refine zq0 ?_ _ | refine zq2 ?_ | refine zq1 ?_ _)); exact BK109.out) hb)
           have n3_ := zq3 (below_step (by repeat (first | (with_reducible first | exact HB.out | apply zq9 | apply zq7 | apply zq8 | refine zq6 ?_ GE101.out | refine zq6 ?_ GE107.out | refine zq6 ?_ GE109.out) | exact HB.out)) hb)
           clear BK101
           clear BK107
           clear BK109
           clear HB
           have BK101 := n0_
           have BK107 := n1_
           have BK109 := n2_
           have HB := n3_
           clear n0_ n1_ n2_ n3_
           (try clear hb)
           (try clear hb2)
           (try clear hk)
           (try clear hi)
           refine hK.out _ _ ⟨(zq5 BK101.out 0).trans rfl, (zq5 BK101.out 1).trans rfl, (zq5 BK101.out 2).trans rfl, (zq5 BK101.out 3).trans rfl, (zq5 BK101.out 4).trans rfl, (zq5 BK101.out 5).trans rfl, (zq5 BK107.out 0).trans rfl, (zq5 BK107.out 1).trans rfl, (zq5 BK107.out 2).trans rfl, (zq5 BK107.out 3).trans rfl, ((HB.out.cell (World.block_lt_of_cell? w _ hw112_0)).trans hw112_0), ((HB.out.cell (World.block_lt_of_cell? w _ hw112_1)).trans hw112_1), ((HB.out.cell (World.block_lt_of_cell? w _ hw112_2)).trans hw112_2)⟩ (fun hHeld => ?_)
           clear hK K
           refine norm_ (a' := ?_) ?_ ?_
           rotate_left
           ·
            show Act.put _ (some 54) _ = _
            simp only [Act.put, List.setIfInBounds_toArray, List.set_cons_zero, List.set_cons_succ, i64_w, i32_w]
            rfl
           refine pure_ (i := 8) (N := some 46) (v := ?_) (a' := ?_) #[true, true, true, true, true, true, true, true, true, false, false, false, false, false] rfl rfl (any_of HT_.out (by kernel_rfl)) (fun _ _ _ h => h) (Or.inl ⟨by rfl, ?_⟩) ?_ ?_
           rotate_left
           ·
            intro w'
            go_simp
            with_reducible rfl
           rotate_left
           ·
            simp only [Act.put, List.setIfInBounds_toArray, List.set_cons_zero, List.set_cons_succ, i64_w, i32_w]
            rfl
           refine pure_ (i := 9) (N := some 55) (v := ?_) (a' := ?_) #[true, true, true, true, true, true, true, true, true, true, false, false, false, false] rfl rfl (any_of HT_.out (by kernel_rfl)) (fun _ _ _ h => h) (Or.inl ⟨by rfl, ?_⟩) ?_ ?_
           rotate_left
           ·
            intro w'
            go_simp
            with_reducible rfl
           rotate_left
           ·
            simp only [Act.put, List.setIfInBounds_toArray, List.set_cons_zero, List.set_cons_succ, i64_w, i32_w]
            rfl
           refine pure_ (i := 10) (N := some 56) (v := ?_) (a' := ?_) #[true, true, true, true, true, true, true, true, true, true, true, false, false, false] rfl rfl (any_of HT_.out (by kernel_rfl)) (fun _ _ _ h => h) (Or.inl ⟨by rfl, ?_⟩) ?_ ?_
           rotate_left
           ·
            intro w'
            go_simp
            with_reducible rfl
           rotate_left
           ·
            simp only [Act.put, List.setIfInBounds_toArray, List.set_cons_zero, List.set_cons_succ, i64_w, i32_w]
            rfl
           refine one_ (i := 11) (N := some 10) #[true, true, true, true, true, true, true, true, true, true, true, true, false, false] rfl rfl (one_of HT_.out (by kernel_rfl)) (by decide) (fun K hK => ?_)
           refine box_step ?hg (N := 10) ?hd (cs := #[.int .u64 0, .int .u64 0, .int .u64 0, .bool false]) (t := 26) ?hr ?_; (case hd => rfl); (case hg => rfl); (case hr => first | (go_simp; done) | (go_simp; rfl))
           intro gb118 hg w30 hbox hb
           have n0_ := zq3 (zq10 (g := gb101) (o := .cells #[.int .i64 a0_0, .bool a0_1, .int .u64 a0_2, .int .u64 a0_3, .int .u64 a0_4, .int .u64 a0_5] 24 (0, 0)) (by (with_reducible repeat (first | refine zq0 ?_ _ | refine zq2 ?_ | refine zq1 ?_ _)); exact BK101.out) hb)
           have n1_ := zq3 (zq10 (g := gb107) (o := .cells #[.int .u64 x108000_2, .int .u64 x108001_2, .int .u64 x108002_2, .bool x108003_2] 26 (0, 0)) (by (with_reducible repeat (first | refine zq0 ?_ _ | refine zq2 ?_ | refine zq1 ?_ _)); exact BK107.out) hb)
           have n2_ := zq3 (zq10 (g := gb109) (o := .cells #[.int .u64 t102, .int .u64 t103, .int .u64 t104, .bool t105] 26 (0, 0)) (by (with_reducible repeat (first | refine zq0 ?_ _ | refine zq2 ?_ | refine zq1 ?_ _)); exact BK109.out) hb)
           have n3_ := zq3 (below_step (by repeat (first | (with_reducible first | exact HB.out | apply zq9 | apply zq7 | apply zq8 | refine zq6 ?_ GE101.out | refine zq6 ?_ GE107.out | refine zq6 ?_ GE109.out) | exact HB.out)) hb)
           have n4_ := zq3 (hbox)
           have n5_ := zq3 ((by rw [hg]; exact (below_size (by repeat (first | (with_reducible first | exact HB.out | apply zq9 | apply zq7 | apply zq8 | refine zq6 ?_ GE101.out | refine zq6 ?_ GE107.out | refine zq6 ?_ GE109.out) | exact HB.out))) : w.heap.size ≤ gb118))
           have n6_ := zq3 ((by rw [hg]; exact (below_size (by repeat (first | (with_reducible first | exact HB.out | apply zq9 | apply zq7 | apply zq8 | refine zq6 ?_ GE101.out | refine zq6 ?_ GE107.out | refine zq6 ?_ GE109.out) | exact HB.out))) : w.heap.size ≤ gb118))
           have n7_ := zq3 ((by rw [hg]; exact Nat.ne_of_lt (blk_lt (g := gb101) (o := .cells #[.int .i64 a0_0, .bool a0_1, .int .u64 a0_2, .int .u64 a0_3, .int .u64 a0_4, .int .u64 a0_5] 24 (0, 0)) (by (with_reducible repeat (first | refine zq0 ?_ _ | refine zq2 ?_ | refine zq1 ?_ _)); exact BK101.out)) : gb101 ≠ gb118))
           have n8_ := zq3 ((by rw [hg]; exact Nat.ne_of_gt (blk_lt (g := gb101) (o := .cells #[.int .i64 a0_0, .bool a0_1, .int .u64 a0_2, .int .u64 a0_3, .int .u64 a0_4, .int .u64 a0_5] 24 (0, 0)) (by (with_reducible repeat (first | refine zq0 ?_ _ | refine zq2 ?_ | refine zq1 ?_ _)); exact BK101.out)) : gb118 ≠ gb101))
           have n9_ := zq3 ((by rw [hg]; exact Nat.ne_of_lt (blk_lt (g := gb107) (o := .cells #[.int .u64 x108000_2, .int .u64 x108001_2, .int .u64 x108002_2, .bool x108003_2] 26 (0, 0)) (by (with_reducible repeat (first | refine zq0 ?_ _ | refine zq2 ?_ | refine zq1 ?_ _)); exact BK107.out)) : gb107 ≠ gb118))
           have n10_ := zq3 ((by rw [hg]; exact Nat.ne_of_gt (blk_lt (g := gb107) (o := .cells #[.int .u64 x108000_2, .int .u64 x108001_2, .int .u64 x108002_2, .bool x108003_2] 26 (0, 0)) (by (with_reducible repeat (first | refine zq0 ?_ _ | refine zq2 ?_ | refine zq1 ?_ _)); exact BK107.out)) : gb118 ≠ gb107))
           have n11_ := zq3 ((by rw [hg]; exact Nat.ne_of_lt (blk_lt (g := gb109) (o := .cells #[.int .u64 t102, .int .u64 t103, .int .u64 t104, .bool t105] 26 (0, 0)) (by (with_reducible repeat (first | refine zq0 ?_ _ | refine zq2 ?_ | refine zq1 ?_ _)); exact BK109.out)) : gb109 ≠ gb118))
           have n12_ := zq3 ((by rw [hg]; exact Nat.ne_of_gt (blk_lt (g := gb109) (o := .cells #[.int .u64 t102, .int .u64 t103, .int .u64 t104, .bool t105] 26 (0, 0)) (by (with_reducible repeat (first | refine zq0 ?_ _ | refine zq2 ?_ | refine zq1 ?_ _)); exact BK109.out)) : gb118 ≠ gb109))
           clear BK101
           clear BK107
           clear BK109
           clear HB
           have BK101 := n0_
           have BK107 := n1_
           have BK109 := n2_
           have HB := n3_
           have BK118 := n4_
           have GW118 := n5_
           have GE118 := n6_
           have NB101_118 := n7_
           have NB118_101 := n8_
           have NB107_118 := n9_
           have NB118_107 := n10_
           have NB109_118 := n11_
           have NB118_109 := n12_
           clear n0_ n1_ n2_ n3_ n4_ n5_ n6_ n7_ n8_ n9_ n10_ n11_ n12_
           clear hb hbox hg
           refine hK.out _ _ ⟨(zq5 BK101.out 0).trans rfl, (zq5 BK101.out 1).trans rfl, (zq5 BK101.out 2).trans rfl, (zq5 BK101.out 3).trans rfl, (zq5 BK101.out 4).trans rfl, (zq5 BK101.out 5).trans rfl, (zq5 BK107.out 0).trans rfl, (zq5 BK107.out 1).trans rfl, (zq5 BK107.out 2).trans rfl, (zq5 BK107.out 3).trans rfl, ((HB.out.cell (World.block_lt_of_cell? w _ hw112_0)).trans hw112_0), ((HB.out.cell (World.block_lt_of_cell? w _ hw112_1)).trans hw112_1), ((HB.out.cell (World.block_lt_of_cell? w _ hw112_2)).trans hw112_2)⟩ (fun hHeld => ?_)
           clear hK K
           refine norm_ (a' := ?_) ?_ ?_
           rotate_left
           ·
            show Act.put _ (some 10) _ = _
            simp only [Act.put, List.setIfInBounds_toArray, List.set_cons_zero, List.set_cons_succ, i64_w, i32_w]
            rfl
           exact norm_ (by simp only [putAll, Act.put, List.setIfInBounds_toArray, List.set_cons_zero, List.set_cons_succ]) (hCont (gb118) _ ⟨hHeld, (by (with_reducible repeat (first | refine zq0 ?_ _ | refine zq2 ?_ | refine zq1 ?_ _)); exact BK101.out), (by (with_reducible repeat (first | refine zq0 ?_ _ | refine zq2 ?_ | refine zq1 ?_ _)); exact BK107.out), (by (with_reducible repeat (first | refine zq0 ?_ _ | refine zq2 ?_ | refine zq1 ?_ _)); exact BK109.out), (by (with_reducible repeat (first | refine zq0 ?_ _ | refine zq2 ?_ | refine zq1 ?_ _)); exact BK118.out), GW118.out, GE118.out, NB101_118.out, NB118_101.out, NB107_118.out, NB118_107.out, NB109_118.out, NB118_109.out, (by repeat (first | (with_reducible first | exact HB.out | apply zq9 | apply zq7 | apply zq8 | refine zq6 ?_ GE101.out | refine zq6 ?_ GE107.out | refine zq6 ?_ GE109.out | refine zq6 ?_ GE118.out) | exact HB.out))⟩)
          ·
           skip
           refine box_step ?hg (N := 10) ?hd (cs := #[.int .u64 0, .int .u64 0, .int .u64 0, .bool false]) (t := 26) ?hr ?_; (case hd => rfl); (case hg => rfl); (case hr => first | (go_simp; done) | (go_simp; rfl))
           intro gb118 hg w29 hbox hb
           have n0_ := zq3 (zq10 (g := gb101) (o := .cells #[.int .i64 a0_0, .bool a0_1, .int .u64 a0_2, .int .u64 a0_3, .int .u64 a0_4, .int .u64 a0_5] 24 (0, 0)) (by (with_reducible repeat (first | refine zq0 ?_ _ | refine zq2 ?_ | refine zq1 ?_ _)); exact BK101.out) hb)
           have n1_ := zq3 (zq10 (g := gb107) (o := .cells #[.int .u64 x108000_2, .int .u64 x108001_2, .int .u64 x108002_2, .bool x108003_2] 26 (0, 0)) (by (with_reducible repeat (first | refine zq0 ?_ _ | refine zq2 ?_ | refine zq1 ?_ _)); exact BK107.out) hb)
           have n2_ := zq3 (zq10 (g := gb109) (o := .cells #[.int .u64 t102, .int .u64 t103, .int .u64 t104, .bool t105] 26 (0, 0)) (by (with_reducible repeat (first | refine zq0 ?_ _ | refine zq2 ?_ | refine zq1 ?_ _)); exact BK109.out) hb)
           have n3_ := zq3 (below_step (by repeat (first | (with_reducible first | exact HB.out | apply zq9 | apply zq7 | apply zq8 | refine zq6 ?_ GE101.out | refine zq6 ?_ GE107.out | refine zq6 ?_ GE109.out) | exact HB.out)) hb)
           have n4_ := zq3 (hbox)
           have n5_ := zq3 ((by rw [hg]; exact (below_size (by repeat (first | (with_reducible first | exact HB.out | apply zq9 | apply zq7 | apply zq8 | refine zq6 ?_ GE101.out | refine zq6 ?_ GE107.out | refine zq6 ?_ GE109.out) | exact HB.out))) : w.heap.size ≤ gb118))
           have n6_ := zq3 ((by rw [hg]; exact (below_size (by repeat (first | (with_reducible first | exact HB.out | apply zq9 | apply zq7 | apply zq8 | refine zq6 ?_ GE101.out | refine zq6 ?_ GE107.out | refine zq6 ?_ GE109.out) | exact HB.out))) : w.heap.size ≤ gb118))
           have n7_ := zq3 ((by rw [hg]; exact Nat.ne_of_lt (blk_lt (g := gb101) (o := .cells #[.int .i64 a0_0, .bool a0_1, .int .u64 a0_2, .int .u64 a0_3, .int .u64 a0_4, .int .u64 a0_5] 24 (0, 0)) (by (with_reducible repeat (first | refine zq0 ?_ _ | refine zq2 ?_ | refine zq1 ?_ _)); exact BK101.out)) : gb101 ≠ gb118))
           have n8_ := zq3 ((by rw [hg]; exact Nat.ne_of_gt (blk_lt (g := gb101) (o := .cells #[.int .i64 a0_0, .bool a0_1, .int .u64 a0_2, .int .u64 a0_3, .int .u64 a0_4, .int .u64 a0_5] 24 (0, 0)) (by (with_reducible repeat (first | refine zq0 ?_ _ | refine zq2 ?_ | refine zq1 ?_ _)); exact BK101.out)) : gb118 ≠ gb101))
           have n9_ := zq3 ((by rw [hg]; exact Nat.ne_of_lt (blk_lt (g := gb107) (o := .cells #[.int .u64 x108000_2, .int .u64 x108001_2, .int .u64 x108002_2, .bool x108003_2] 26 (0, 0)) (by (with_reducible repeat (first | refine zq0 ?_ _ | refine zq2 ?_ | refine zq1 ?_ _)); exact BK107.out)) : gb107 ≠ gb118))
           have n10_ := zq3 ((by rw [hg]; exact Nat.ne_of_gt (blk_lt (g := gb107) (o := .cells #[.int .u64 x108000_2, .int .u64 x108001_2, .int .u64 x108002_2, .bool x108003_2] 26 (0, 0)) (by (with_reducible repeat (first | refine zq0 ?_ _ | refine zq2 ?_ | refine zq1 ?_ _)); exact BK107.out)) : gb118 ≠ gb107))
           have n11_ := zq3 ((by rw [hg]; exact Nat.ne_of_lt (blk_lt (g := gb109) (o := .cells #[.int .u64 t102, .int .u64 t103, .int .u64 t104, .bool t105] 26 (0, 0)) (by (with_reducible repeat (first | refine zq0 ?_ _ | refine zq2 ?_ | refine zq1 ?_ _)); exact BK109.out)) : gb109 ≠ gb118))
           have n12_ := zq3 ((by rw [hg]; exact Nat.ne_of_gt (blk_lt (g := gb109) (o := .cells #[.int .u64 t102, .int .u64 t103, .int .u64 t104, .bool t105] 26 (0, 0)) (by (with_reducible repeat (first | refine zq0 ?_ _ | refine zq2 ?_ | refine zq1 ?_ _)); exact BK109.out)) : gb118 ≠ gb109))
           clear BK101
           clear BK107
           clear BK109
           clear HB
           have BK101 := n0_
           have BK107 := n1_
           have BK109 := n2_
           have HB := n3_
           have BK118 := n4_
           have GW118 := n5_
           have GE118 := n6_
           have NB101_118 := n7_
           have NB118_101 := n8_
           have NB107_118 := n9_
           have NB118_107 := n10_
           have NB109_118 := n11_
           have NB118_109 := n12_
           clear n0_ n1_ n2_ n3_ n4_ n5_ n6_ n7_ n8_ n9_ n10_ n11_ n12_
           clear hb hbox hg
           refine hK.out _ _ ⟨(zq5 BK101.out 0).trans rfl, (zq5 BK101.out 1).trans rfl, (zq5 BK101.out 2).trans rfl, (zq5 BK101.out 3).trans rfl, (zq5 BK101.out 4).trans rfl, (zq5 BK101.out 5).trans rfl, (zq5 BK107.out 0).trans rfl, (zq5 BK107.out 1).trans rfl, (zq5 BK107.out 2).trans rfl, (zq5 BK107.out 3).trans rfl, ((HB.out.cell (World.block_lt_of_cell? w _ hw112_0)).trans hw112_0), ((HB.out.cell (World.block_lt_of_cell? w _ hw112_1)).trans hw112_1), ((HB.out.cell (World.block_lt_of_cell? w _ hw112_2)).trans hw112_2)⟩ (fun hHeld => ?_)
           clear hK K
           refine norm_ (a' := ?_) ?_ ?_
           rotate_left
           ·
            show Act.put _ (some 10) _ = _
            simp only [Act.put, List.setIfInBounds_toArray, List.set_cons_zero, List.set_cons_succ, i64_w, i32_w]
            rfl
           refine one_ (i := 7) (N := some 54) #[true, true, true, true, true, true, true, true, false, false, false, true, false, false] rfl rfl (one_of HT_.out (by kernel_rfl)) (by decide) (fun K hK => ?_)
           refine goes_ Try.func22 (by kernel_rfl) rfl #[.agg #[.int .i64 a0_0, .bool a0_1, .int .u64 a0_2, .int .u64 a0_3, .int .u64 a0_4, .int .u64 a0_5], .agg #[.int .u64 x108000_2, .int .u64 x108001_2, .int .u64 x108002_2, .bool x108003_2], .int .u64 ((rd_T28 l1 x8_2).f0), .int .i64 0, .int .i64 0] (by rfl) rfl rfl (by (try simp only [List.map_toArray, List.map_cons, List.map_nil]); first | done | rfl | (simp only [List.length_drop, List.length_take]; rfl)) ?_
           with_reducible refine (single_Step.calls k2 a0_0 a0_1 a0_2 a0_3 a0_4 a0_5 x108000_2 x108001_2 x108002_2 x108003_2 ((rd_T28 l1 x8_2).f0) 0 0 t113 t114 t115 t116 t117 _ A24.out).mono ?_
           rintro e w30 ⟨rfl, hb⟩
           refine ⟨_, rfl, ?_⟩
           have n0_ := zq3 (zq10 (g := gb101) (o := .cells #[.int .i64 a0_0, .bool a0_1, .int .u64 a0_2, .int .u64 a0_3, .int .u64 a0_4, .int .u64 a0_5] 24 (0, 0)) (by (with_reducible repeat (first | refine zq0 ?_ _ | refine zq2 ?_ | refine zq1 ?_ _)); exact BK101.out) hb)
           have n1_ := zq3 (zq10 (g := gb107) (o := .cells #[.int .u64 x108000_2, .int .u64 x108001_2, .int .u64 x108002_2, .bool x108003_2] 26 (0, 0)) (by (with_reducible repeat (first | refine zq0 ?_ _ | refine zq2 ?_ | refine zq1 ?_ _)); exact BK107.out) hb)
           have n2_ := zq3 (zq10 (g := gb109) (o := .cells #[.int .u64 t102, .int .u64 t103, .int .u64 t104, .bool t105] 26 (0, 0)) (by (with_reducible repeat (first | refine zq0 ?_ _ | refine zq2 ?_ | refine zq1 ?_ _)); exact BK109.out) hb)
           have n3_ := zq3 (zq10 (g := gb118) (o := .cells #[.int .u64 0, .int .u64 0, .int .u64 0, .bool false] 26 (0, 0)) (by (with_reducible repeat (first | refine zq0 ?_ _ | refine zq2 ?_ | refine zq1 ?_ _)); exact BK118.out) hb)
           have n4_ := zq3 (below_step (by repeat (first | (with_reducible first | exact HB.out | apply zq9 | apply zq7 | apply zq8 | refine zq6 ?_ GE101.out | refine zq6 ?_ GE107.out | refine zq6 ?_ GE109.out | refine zq6 ?_ GE118.out) | exact HB.out)) hb)
           clear BK101
           clear BK107
           clear BK109
           clear BK118
           clear HB
           have BK101 := n0_
           have BK107 := n1_
           have BK109 := n2_
           have BK118 := n3_
           have HB := n4_
           clear n0_ n1_ n2_ n3_ n4_
           (try clear hb)
           (try clear hb2)
           (try clear hk)
           (try clear hi)
           refine hK.out _ _ ⟨(zq5 BK101.out 0).trans rfl, (zq5 BK101.out 1).trans rfl, (zq5 BK101.out 2).trans rfl, (zq5 BK101.out 3).trans rfl, (zq5 BK101.out 4).trans rfl, (zq5 BK101.out 5).trans rfl, (zq5 BK107.out 0).trans rfl, (zq5 BK107.out 1).trans rfl, (zq5 BK107.out 2).trans rfl, (zq5 BK107.out 3).trans rfl, ((HB.out.cell (World.block_lt_of_cell? w _ hw112_0)).trans hw112_0), ((HB.out.cell (World.block_lt_of_cell? w _ hw112_1)).trans hw112_1), ((HB.out.cell (World.block_lt_of_cell? w _ hw112_2)).trans hw112_2)⟩ (fun hHeld => ?_)
           clear hK K
           refine norm_ (a' := ?_) ?_ ?_
           rotate_left
           ·
            show Act.put _ (some 54) _ = _
            simp only [Act.put, List.setIfInBounds_toArray, List.set_cons_zero, List.set_cons_succ, i64_w, i32_w]
            rfl
           refine pure_ (i := 8) (N := some 46) (v := ?_) (a' := ?_) #[true, true, true, true, true, true, true, true, true, false, false, true, false, false] rfl rfl (any_of HT_.out (by kernel_rfl)) (fun _ _ _ h => h) (Or.inl ⟨by rfl, ?_⟩) ?_ ?_
           rotate_left
           ·
            intro w'
            go_simp
            with_reducible rfl
           rotate_left
           ·
            simp only [Act.put, List.setIfInBounds_toArray, List.set_cons_zero, List.set_cons_succ, i64_w, i32_w]
            rfl
           refine pure_ (i := 9) (N := some 55) (v := ?_) (a' := ?_) #[true, true, true, true, true, true, true, true, true, true, false, true, false, false] rfl rfl (any_of HT_.out (by kernel_rfl)) (fun _ _ _ h => h) (Or.inl ⟨by rfl, ?_⟩) ?_ ?_
           rotate_left
           ·
            intro w'
            go_simp
            with_reducible rfl
           rotate_left
           ·
            simp only [Act.put, List.setIfInBounds_toArray, List.set_cons_zero, List.set_cons_succ, i64_w, i32_w]
            rfl
           refine pure_ (i := 10) (N := some 56) (v := ?_) (a' := ?_) #[true, true, true, true, true, true, true, true, true, true, true, true, false, false] rfl rfl (any_of HT_.out (by kernel_rfl)) (fun _ _ _ h => h) (Or.inl ⟨by rfl, ?_⟩) ?_ ?_
           rotate_left
           ·
            intro w'
            go_simp
            with_reducible rfl
           rotate_left
           ·
            simp only [Act.put, List.setIfInBounds_toArray, List.set_cons_zero, List.set_cons_succ, i64_w, i32_w]
            rfl
           exact norm_ (by simp only [putAll, Act.put, List.setIfInBounds_toArray, List.set_cons_zero, List.set_cons_succ]) (hCont (gb118) _ ⟨hHeld, (by (with_reducible repeat (first | refine zq0 ?_ _ | refine zq2 ?_ | refine zq1 ?_ _)); exact BK101.out), (by (with_reducible repeat (first | refine zq0 ?_ _ | refine zq2 ?_ | refine zq1 ?_ _)); exact BK107.out), (by (with_reducible repeat (first | refine zq0 ?_ _ | refine zq2 ?_ | refine zq1 ?_ _)); exact BK109.out), (by (with_reducible repeat (first | refine zq0 ?_ _ | refine zq2 ?_ | refine zq1 ?_ _)); exact BK118.out), GW118.out, GE118.out, NB101_118.out, NB118_101.out, NB107_118.out, NB118_107.out, NB109_118.out, NB118_109.out, (by repeat (first | (with_reducible first | exact HB.out | apply zq9 | apply zq7 | apply zq8 | refine zq6 ?_ GE101.out | refine zq6 ?_ GE107.out | refine zq6 ?_ GE109.out | refine zq6 ?_ GE118.out) | exact HB.out))⟩)
         rintro gb118 w31 ⟨hS_, h0_, h1_, h2_, h3_, h4_, h5_, h6_, h7_, h8_, h9_, h10_, h11_, h12_⟩
         have n0_ : Aside0 (w31.heap[gb101]? = some (.cells #[.int .i64 a0_0, .bool a0_1, .int .u64 a0_2, .int .u64 a0_3, .int .u64 a0_4, .int .u64 a0_5] 24 (0, 0))) := ⟨h0_⟩
         have n1_ : Aside0 (w31.heap[gb107]? = some (.cells #[.int .u64 x108000_2, .int .u64 x108001_2, .int .u64 x108002_2, .bool x108003_2] 26 (0, 0))) := ⟨h1_⟩
         have n2_ : Aside0 (w31.heap[gb109]? = some (.cells #[.int .u64 t102, .int .u64 t103, .int .u64 t104, .bool t105] 26 (0, 0))) := ⟨h2_⟩
         have n3_ : Aside0 (w31.heap[gb118]? = some (.cells #[.int .u64 0, .int .u64 0, .int .u64 0, .bool false] 26 (0, 0))) := ⟨h3_⟩
         have n4_ : Aside0 (w.heap.size ≤ gb118) := ⟨h4_⟩
         have n5_ : Aside0 (w.heap.size ≤ gb118) := ⟨h5_⟩
         have n6_ : Aside0 (gb101 ≠ gb118) := ⟨h6_⟩
         have n7_ : Aside0 (gb118 ≠ gb101) := ⟨h7_⟩
         have n8_ : Aside0 (gb107 ≠ gb118) := ⟨h8_⟩
         have n9_ : Aside0 (gb118 ≠ gb107) := ⟨h9_⟩
         have n10_ : Aside0 (gb109 ≠ gb118) := ⟨h10_⟩
         have n11_ : Aside0 (gb118 ≠ gb109) := ⟨h11_⟩
         have n12_ : Aside0 (Below w.heap.size w w31) := ⟨h12_⟩
         clear BK101
         clear BK107
         clear BK109
         clear HB
         clear h0_ h1_ h2_ h3_ h4_ h5_ h6_ h7_ h8_ h9_ h10_ h11_ h12_
         have BK101 := n0_
         have BK107 := n1_
         have BK109 := n2_
         have BK118 := n3_
         have GW118 := n4_
         have GE118 := n5_
         have NB101_118 := n6_
         have NB118_101 := n7_
         have NB107_118 := n8_
         have NB118_107 := n9_
         have NB109_118 := n10_
         have NB118_109 := n11_
         have HB := n12_
         clear n0_ n1_ n2_ n3_ n4_ n5_ n6_ n7_ n8_ n9_ n10_ n11_ n12_
         have hHeld : w31.cell? ⟨gb101, 0, none⟩ = some (.int .i64 a0_0) ∧ w31.cell? ⟨gb101, 1, none⟩ = some (.bool a0_1) ∧ w31.cell? ⟨gb101, 2, none⟩ = some (.int .u64 a0_2) ∧ w31.cell? ⟨gb101, 3, none⟩ = some (.int .u64 a0_3) ∧ w31.cell? ⟨gb101, 4, none⟩ = some (.int .u64 a0_4) ∧ w31.cell? ⟨gb101, 5, none⟩ = some (.int .u64 a0_5) ∧ w31.cell? ⟨gb107, 0, none⟩ = some (.int .u64 x108000_2) ∧ w31.cell? ⟨gb107, 1, none⟩ = some (.int .u64 x108001_2) ∧ w31.cell? ⟨gb107, 2, none⟩ = some (.int .u64 x108002_2) ∧ w31.cell? ⟨gb107, 3, none⟩ = some (.bool x108003_2) ∧ w31.cell? (ad111.add ((x8_2).toNat * 3)) = some (.int .u64 ((rd_T28 l1 x8_2).f0)) ∧ w31.cell? ⟨(ad111.add ((x8_2).toNat * 3)).block, (ad111.add ((x8_2).toNat * 3)).off + 1, none⟩ = some (.int .i64 ((rd_T28 l1 x8_2).f1)) ∧ w31.cell? ⟨(ad111.add ((x8_2).toNat * 3)).block, (ad111.add ((x8_2).toNat * 3)).off + 2, none⟩ = some (.int .i64 ((rd_T28 l1 x8_2).f2)) := hS_
         refine norm_ (a' := ?_) ?_ ?_
         rotate_left
         ·
          simp only [putAll, Act.put, List.setIfInBounds_toArray, List.set_cons_zero, List.set_cons_succ]
          rfl
         refine one_ (i := 12) (N := none) #[true, true, true, true, true, true, true, true, true, true, true, true, true, false] rfl rfl (one_of HT_.out (by kernel_rfl)) (by decide) (fun K hK => ?_)
         have hs32 : w31.cell? ⟨gb118, 0, none⟩ = some (.int .u64 0) := (zq5 BK118.out 0).trans rfl
         have hfs32 := zq4 BK118.out 0
         have hns32_0 := NB101_118.out
         have hns32_1 := NB107_118.out
         have hns32_2 := NB109_118.out
         have hms32_0 := NB118_101.out
         have hms32_1 := NB118_107.out
         have hms32_2 := NB118_109.out
         have hs33 : w31.cell? ⟨gb118, 1, none⟩ = some (.int .u64 0) := (zq5 BK118.out 1).trans rfl
         have hfs33 := zq4 BK118.out 1
         have hns33_0 := NB101_118.out
         have hns33_1 := NB107_118.out
         have hns33_2 := NB109_118.out
         have hms33_0 := NB118_101.out
         have hms33_1 := NB118_107.out
         have hms33_2 := NB118_109.out
         have hs34 : w31.cell? ⟨gb118, 2, none⟩ = some (.int .u64 0) := (zq5 BK118.out 2).trans rfl
         have hfs34 := zq4 BK118.out 2
         have hns34_0 := NB101_118.out
         have hns34_1 := NB107_118.out
         have hns34_2 := NB109_118.out
         have hms34_0 := NB118_101.out
         have hms34_1 := NB118_107.out
         have hms34_2 := NB118_109.out
         have hs35 : w31.cell? ⟨gb118, 3, none⟩ = some (.bool false) := (zq5 BK118.out 3).trans rfl
         have hfs35 := zq4 BK118.out 3
         have hns35_0 := NB101_118.out
         have hns35_1 := NB107_118.out
         have hns35_2 := NB109_118.out
         have hms35_0 := NB118_101.out
         have hms35_1 := NB118_107.out
         have hms35_2 := NB118_109.out
         refine skip_ (w1 := ?_) (by rfl) rfl ?_ ?_
         rotate_left
         ·
          go_simp
          rfl
         refine hK.out _ _ ⟨((cell_far (p := ⟨gb118, _, none⟩) NB101_118.out _).trans (((cell_far (p := ⟨gb118, _, none⟩) NB101_118.out _).trans (((cell_far (p := ⟨gb118, _, none⟩) NB101_118.out _).trans (((cell_far (p := ⟨gb118, _, none⟩) NB101_118.out _).trans (hHeld.1)))))))), ((cell_far (p := ⟨gb118, _, none⟩) NB101_118.out _).trans (((cell_far (p := ⟨gb118, _, none⟩) NB101_118.out _).trans (((cell_far (p := ⟨gb118, _, none⟩) NB101_118.out _).trans (((cell_far (p := ⟨gb118, _, none⟩) NB101_118.out _).trans (hHeld.2.1)))))))), ((cell_far (p := ⟨gb118, _, none⟩) NB101_118.out _).trans (((cell_far (p := ⟨gb118, _, none⟩) NB101_118.out _).trans (((cell_far (p := ⟨gb118, _, none⟩) NB101_118.out _).trans (((cell_far (p := ⟨gb118, _, none⟩) NB101_118.out _).trans (hHeld.2.2.1)))))))), ((cell_far (p := ⟨gb118, _, none⟩) NB101_118.out _).trans (((cell_far (p := ⟨gb118, _, none⟩) NB101_118.out _).trans (((cell_far (p := ⟨gb118, _, none⟩) NB101_118.out _).trans (((cell_far (p := ⟨gb118, _, none⟩) NB101_118.out _).trans (hHeld.2.2.2.1)))))))), ((cell_far (p := ⟨gb118, _, none⟩) NB101_118.out _).trans (((cell_far (p := ⟨gb118, _, none⟩) NB101_118.out _).trans (((cell_far (p := ⟨gb118, _, none⟩) NB101_118.out _).trans (((cell_far (p := ⟨gb118, _, none⟩) NB101_118.out _).trans (hHeld.2.2.2.2.1)))))))), ((cell_far (p := ⟨gb118, _, none⟩) NB101_118.out _).trans (((cell_far (p := ⟨gb118, _, none⟩) NB101_118.out _).trans (((cell_far (p := ⟨gb118, _, none⟩) NB101_118.out _).trans (((cell_far (p := ⟨gb118, _, none⟩) NB101_118.out _).trans (hHeld.2.2.2.2.2.1)))))))), ((cell_far (p := ⟨gb118, _, none⟩) NB107_118.out _).trans (((cell_far (p := ⟨gb118, _, none⟩) NB107_118.out _).trans (((cell_far (p := ⟨gb118, _, none⟩) NB107_118.out _).trans (((cell_far (p := ⟨gb118, _, none⟩) NB107_118.out _).trans (hHeld.2.2.2.2.2.2.1)))))))), ((cell_far (p := ⟨gb118, _, none⟩) NB107_118.out _).trans (((cell_far (p := ⟨gb118, _, none⟩) NB107_118.out _).trans (((cell_far (p := ⟨gb118, _, none⟩) NB107_118.out _).trans (((cell_far (p := ⟨gb118, _, none⟩) NB107_118.out _).trans (hHeld.2.2.2.2.2.2.2.1)))))))), ((cell_far (p := ⟨gb118, _, none⟩) NB107_118.out _).trans (((cell_far (p := ⟨gb118, _, none⟩) NB107_118.out _).trans (((cell_far (p := ⟨gb118, _, none⟩) NB107_118.out _).trans (((cell_far (p := ⟨gb118, _, none⟩) NB107_118.out _).trans (hHeld.2.2.2.2.2.2.2.2.1)))))))), ((cell_far (p := ⟨gb118, _, none⟩) NB107_118.out _).trans (((cell_far (p := ⟨gb118, _, none⟩) NB107_118.out _).trans (((cell_far (p := ⟨gb118, _, none⟩) NB107_118.out _).trans (((cell_far (p := ⟨gb118, _, none⟩) NB107_118.out _).trans (hHeld.2.2.2.2.2.2.2.2.2.1)))))))), ((cell_far (p := ⟨gb118, _, none⟩) (by first | exact Nat.ne_of_lt (Nat.lt_of_lt_of_le (by have := World.block_lt_of_cell? _ _ hw112_0; first | rwa [add_block] at this | exact this) GW118.out) | (rw [add_block]; exact Nat.ne_of_lt (Nat.lt_of_lt_of_le (by have := World.block_lt_of_cell? _ _ hw112_0; first | rwa [add_block] at this | exact this) GW118.out)) | (show (Addr.add _ _).block ≠ _; rw [add_block]; exact Nat.ne_of_lt (Nat.lt_of_lt_of_le (by have := World.block_lt_of_cell? _ _ hw112_0; first | rwa [add_block] at this | exact this) GW118.out)) | (dsimp only; exact Nat.ne_of_lt (Nat.lt_of_lt_of_le (by have := World.block_lt_of_cell? _ _ hw112_0; first | rwa [add_block] at this | exact this) GW118.out))) _).trans (((cell_far (p := ⟨gb118, _, none⟩) (by first | exact Nat.ne_of_lt (Nat.lt_of_lt_of_le (by have := World.block_lt_of_cell? _ _ hw112_0; first | rwa [add_block] at this | exact this) GW118.out) | (rw [add_block]; exact Nat.ne_of_lt (Nat.lt_of_lt_of_le (by have := World.block_lt_of_cell? _ _ hw112_0; first | rwa [add_block] at this | exact this) GW118.out)) | (show (Addr.add _ _).block ≠ _; rw [add_block]; exact Nat.ne_of_lt (Nat.lt_of_lt_of_le (by have := World.block_lt_of_cell? _ _ hw112_0; first | rwa [add_block] at this | exact this) GW118.out)) | (dsimp only; exact Nat.ne_of_lt (Nat.lt_of_lt_of_le (by have := World.block_lt_of_cell? _ _ hw112_0; first | rwa [add_block] at this | exact this) GW118.out))) _).trans (((cell_far (p := ⟨gb118, _, none⟩) (by first | exact Nat.ne_of_lt (Nat.lt_of_lt_of_le (by have := World.block_lt_of_cell? _ _ hw112_0; first | rwa [add_block] at this | exact this) GW118.out) | (rw [add_block]; exact Nat.ne_of_lt (Nat.lt_of_lt_of_le (by have := World.block_lt_of_cell? _ _ hw112_0; first | rwa [add_block] at this | exact this) GW118.out)) | (show (Addr.add _ _).block ≠ _; rw [add_block]; exact Nat.ne_of_lt (Nat.lt_of_lt_of_le (by have := World.block_lt_of_cell? _ _ hw112_0; first | rwa [add_block] at this | exact this) GW118.out)) | (dsimp only; exact Nat.ne_of_lt (Nat.lt_of_lt_of_le (by have := World.block_lt_of_cell? _ _ hw112_0; first | rwa [add_block] at this | exact this) GW118.out))) _).trans (((cell_far (p := ⟨gb118, _, none⟩) (by first | exact Nat.ne_of_lt (Nat.lt_of_lt_of_le (by have := World.block_lt_of_cell? _ _ hw112_0; first | rwa [add_block] at this | exact this) GW118.out) | (rw [add_block]; exact Nat.ne_of_lt (Nat.lt_of_lt_of_le (by have := World.block_lt_of_cell? _ _ hw112_0; first | rwa [add_block] at this | exact this) GW118.out)) | (show (Addr.add _ _).block ≠ _; rw [add_block]; exact Nat.ne_of_lt (Nat.lt_of_lt_of_le (by have := World.block_lt_of_cell? _ _ hw112_0; first | rwa [add_block] at this | exact this) GW118.out)) | (dsimp only; exact Nat.ne_of_lt (Nat.lt_of_lt_of_le (by have := World.block_lt_of_cell? _ _ hw112_0; first | rwa [add_block] at this | exact this) GW118.out))) _).trans (hHeld.2.2.2.2.2.2.2.2.2.2.1)))))))), ((cell_far (p := ⟨gb118, _, none⟩) (by first | exact Nat.ne_of_lt (Nat.lt_of_lt_of_le (by have := World.block_lt_of_cell? _ _ hw112_1; first | rwa [add_block] at this | exact this) GW118.out) | (rw [add_block]; exact Nat.ne_of_lt (Nat.lt_of_lt_of_le (by have := World.block_lt_of_cell? _ _ hw112_1; first | rwa [add_block] at this | exact this) GW118.out)) | (show (Addr.add _ _).block ≠ _; rw [add_block]; exact Nat.ne_of_lt (Nat.lt_of_lt_of_le (by have := World.block_lt_of_cell? _ _ hw112_1; first | rwa [add_block] at this | exact this) GW118.out)) | (dsimp only; exact Nat.ne_of_lt (Nat.lt_of_lt_of_le (by have := World.block_lt_of_cell? _ _ hw112_1; first | rwa [add_block] at this | exact this) GW118.out))) _).trans (((cell_far (p := ⟨gb118, _, none⟩) (by first | exact Nat.ne_of_lt (Nat.lt_of_lt_of_le (by have := World.block_lt_of_cell? _ _ hw112_1; first | rwa [add_block] at this | exact this) GW118.out) | (rw [add_block]; exact Nat.ne_of_lt (Nat.lt_of_lt_of_le (by have := World.block_lt_of_cell? _ _ hw112_1; first | rwa [add_block] at this | exact this) GW118.out)) | (show (Addr.add _ _).block ≠ _; rw [add_block]; exact Nat.ne_of_lt (Nat.lt_of_lt_of_le (by have := World.block_lt_of_cell? _ _ hw112_1; first | rwa [add_block] at this | exact this) GW118.out)) | (dsimp only; exact Nat.ne_of_lt (Nat.lt_of_lt_of_le (by have := World.block_lt_of_cell? _ _ hw112_1; first | rwa [add_block] at this | exact this) GW118.out))) _).trans (((cell_far (p := ⟨gb118, _, none⟩) (by first | exact Nat.ne_of_lt (Nat.lt_of_lt_of_le (by have := World.block_lt_of_cell? _ _ hw112_1; first | rwa [add_block] at this | exact this) GW118.out) | (rw [add_block]; exact Nat.ne_of_lt (Nat.lt_of_lt_of_le (by have := World.block_lt_of_cell? _ _ hw112_1; first | rwa [add_block] at this | exact this) GW118.out)) | (show (Addr.add _ _).block ≠ _; rw [add_block]; exact Nat.ne_of_lt (Nat.lt_of_lt_of_le (by have := World.block_lt_of_cell? _ _ hw112_1; first | rwa [add_block] at this | exact this) GW118.out)) | (dsimp only; exact Nat.ne_of_lt (Nat.lt_of_lt_of_le (by have := World.block_lt_of_cell? _ _ hw112_1; first | rwa [add_block] at this | exact this) GW118.out))) _).trans (((cell_far (p := ⟨gb118, _, none⟩) (by first | exact Nat.ne_of_lt (Nat.lt_of_lt_of_le (by have := World.block_lt_of_cell? _ _ hw112_1; first | rwa [add_block] at this | exact this) GW118.out) | (rw [add_block]; exact Nat.ne_of_lt (Nat.lt_of_lt_of_le (by have := World.block_lt_of_cell? _ _ hw112_1; first | rwa [add_block] at this | exact this) GW118.out)) | (show (Addr.add _ _).block ≠ _; rw [add_block]; exact Nat.ne_of_lt (Nat.lt_of_lt_of_le (by have := World.block_lt_of_cell? _ _ hw112_1; first | rwa [add_block] at this | exact this) GW118.out)) | (dsimp only; exact Nat.ne_of_lt (Nat.lt_of_lt_of_le (by have := World.block_lt_of_cell? _ _ hw112_1; first | rwa [add_block] at this | exact this) GW118.out))) _).trans (hHeld.2.2.2.2.2.2.2.2.2.2.2.1)))))))), ((cell_far (p := ⟨gb118, _, none⟩) (by first | exact Nat.ne_of_lt (Nat.lt_of_lt_of_le (by have := World.block_lt_of_cell? _ _ hw112_2; first | rwa [add_block] at this | exact this) GW118.out) | (rw [add_block]; exact Nat.ne_of_lt (Nat.lt_of_lt_of_le (by have := World.block_lt_of_cell? _ _ hw112_2; first | rwa [add_block] at this | exact this) GW118.out)) | (show (Addr.add _ _).block ≠ _; rw [add_block]; exact Nat.ne_of_lt (Nat.lt_of_lt_of_le (by have := World.block_lt_of_cell? _ _ hw112_2; first | rwa [add_block] at this | exact this) GW118.out)) | (dsimp only; exact Nat.ne_of_lt (Nat.lt_of_lt_of_le (by have := World.block_lt_of_cell? _ _ hw112_2; first | rwa [add_block] at this | exact this) GW118.out))) _).trans (((cell_far (p := ⟨gb118, _, none⟩) (by first | exact Nat.ne_of_lt (Nat.lt_of_lt_of_le (by have := World.block_lt_of_cell? _ _ hw112_2; first | rwa [add_block] at this | exact this) GW118.out) | (rw [add_block]; exact Nat.ne_of_lt (Nat.lt_of_lt_of_le (by have := World.block_lt_of_cell? _ _ hw112_2; first | rwa [add_block] at this | exact this) GW118.out)) | (show (Addr.add _ _).block ≠ _; rw [add_block]; exact Nat.ne_of_lt (Nat.lt_of_lt_of_le (by have := World.block_lt_of_cell? _ _ hw112_2; first | rwa [add_block] at this | exact this) GW118.out)) | (dsimp only; exact Nat.ne_of_lt (Nat.lt_of_lt_of_le (by have := World.block_lt_of_cell? _ _ hw112_2; first | rwa [add_block] at this | exact this) GW118.out))) _).trans (((cell_far (p := ⟨gb118, _, none⟩) (by first | exact Nat.ne_of_lt (Nat.lt_of_lt_of_le (by have := World.block_lt_of_cell? _ _ hw112_2; first | rwa [add_block] at this | exact this) GW118.out) | (rw [add_block]; exact Nat.ne_of_lt (Nat.lt_of_lt_of_le (by have := World.block_lt_of_cell? _ _ hw112_2; first | rwa [add_block] at this | exact this) GW118.out)) | (show (Addr.add _ _).block ≠ _; rw [add_block]; exact Nat.ne_of_lt (Nat.lt_of_lt_of_le (by have := World.block_lt_of_cell? _ _ hw112_2; first | rwa [add_block] at this | exact this) GW118.out)) | (dsimp only; exact Nat.ne_of_lt (Nat.lt_of_lt_of_le (by have := World.block_lt_of_cell? _ _ hw112_2; first | rwa [add_block] at this | exact this) GW118.out))) _).trans (((cell_far (p := ⟨gb118, _, none⟩) (by first | exact Nat.ne_of_lt (Nat.lt_of_lt_of_le (by have := World.block_lt_of_cell? _ _ hw112_2; first | rwa [add_block] at this | exact this) GW118.out) | (rw [add_block]; exact Nat.ne_of_lt (Nat.lt_of_lt_of_le (by have := World.block_lt_of_cell? _ _ hw112_2; first | rwa [add_block] at this | exact this) GW118.out)) | (show (Addr.add _ _).block ≠ _; rw [add_block]; exact Nat.ne_of_lt (Nat.lt_of_lt_of_le (by have := World.block_lt_of_cell? _ _ hw112_2; first | rwa [add_block] at this | exact this) GW118.out)) | (dsimp only; exact Nat.ne_of_lt (Nat.lt_of_lt_of_le (by have := World.block_lt_of_cell? _ _ hw112_2; first | rwa [add_block] at this | exact this) GW118.out))) _).trans (hHeld.2.2.2.2.2.2.2.2.2.2.2.2))))))))⟩ (fun hHeld => ?_)
         clear hK K
         refine pure_ (i := 13) (N := some 11) (v := ?_) (a' := ?_) #[true, true, true, true, true, true, true, true, true, true, true, true, true, true] rfl rfl (any_of HT_.out (by kernel_rfl)) (fun _ _ _ h => h) (Or.inl ⟨by rfl, ?_⟩) ?_ ?_
         rotate_left
         ·
          intro w'
          go_simp
          with_reducible rfl
         rotate_left
         ·
          simp only [Act.put, List.setIfInBounds_toArray, List.set_cons_zero, List.set_cons_succ, i64_w, i32_w]
          rfl
         refine done_ (done_of HT_.out (by kernel_rfl)) ?_
         try go_wp2
         have n0_ : Aside0 (((((w31.setCell ⟨gb118, 0, none⟩ (.int .u64 t113)).setCell ⟨gb118, 1, none⟩ (.int .u64 t114)).setCell ⟨gb118, 2, none⟩ (.int .u64 t115)).setCell ⟨gb118, 3, none⟩ (.bool t116)).heap[gb101]? = some (.cells #[.int .i64 a0_0, .bool a0_1, .int .u64 a0_2, .int .u64 a0_3, .int .u64 a0_4, .int .u64 a0_5] 24 (0, 0))) := ⟨by (with_reducible repeat (first | refine zq0 ?_ _ | refine zq2 ?_ | refine zq1 ?_ _)); refine zq11 ?_ NB101_118.out _; (with_reducible repeat (first | refine zq0 ?_ _ | refine zq2 ?_ | refine zq1 ?_ _)); refine zq11 ?_ NB101_118.out _; (with_reducible repeat (first | refine zq0 ?_ _ | refine zq2 ?_ | refine zq1 ?_ _)); refine zq11 ?_ NB101_118.out _; (with_reducible repeat (first | refine zq0 ?_ _ | refine zq2 ?_ | refine zq1 ?_ _)); refine zq11 ?_ NB101_118.out _; (with_reducible repeat (first | refine zq0 ?_ _ | refine zq2 ?_ | refine zq1 ?_ _)); exact BK101.out⟩
         have n1_ : Aside0 (((((w31.setCell ⟨gb118, 0, none⟩ (.int .u64 t113)).setCell ⟨gb118, 1, none⟩ (.int .u64 t114)).setCell ⟨gb118, 2, none⟩ (.int .u64 t115)).setCell ⟨gb118, 3, none⟩ (.bool t116)).heap[gb107]? = some (.cells #[.int .u64 x108000_2, .int .u64 x108001_2, .int .u64 x108002_2, .bool x108003_2] 26 (0, 0))) := ⟨by (with_reducible repeat (first | refine zq0 ?_ _ | refine zq2 ?_ | refine zq1 ?_ _)); refine zq11 ?_ NB107_118.out _; (with_reducible repeat (first | refine zq0 ?_ _ | refine zq2 ?_ | refine zq1 ?_ _)); refine zq11 ?_ NB107_118.out _; (with_reducible repeat (first | refine zq0 ?_ _ | refine zq2 ?_ | refine zq1 ?_ _)); refine zq11 ?_ NB107_118.out _; (with_reducible repeat (first | refine zq0 ?_ _ | refine zq2 ?_ | refine zq1 ?_ _)); refine zq11 ?_ NB107_118.out _; (with_reducible repeat (first | refine zq0 ?_ _ | refine zq2 ?_ | refine zq1 ?_ _)); exact BK107.out⟩
         have n2_ : Aside0 (((((w31.setCell ⟨gb118, 0, none⟩ (.int .u64 t113)).setCell ⟨gb118, 1, none⟩ (.int .u64 t114)).setCell ⟨gb118, 2, none⟩ (.int .u64 t115)).setCell ⟨gb118, 3, none⟩ (.bool t116)).heap[gb109]? = some (.cells #[.int .u64 t102, .int .u64 t103, .int .u64 t104, .bool t105] 26 (0, 0))) := ⟨by (with_reducible repeat (first | refine zq0 ?_ _ | refine zq2 ?_ | refine zq1 ?_ _)); refine zq11 ?_ NB109_118.out _; (with_reducible repeat (first | refine zq0 ?_ _ | refine zq2 ?_ | refine zq1 ?_ _)); refine zq11 ?_ NB109_118.out _; (with_reducible repeat (first | refine zq0 ?_ _ | refine zq2 ?_ | refine zq1 ?_ _)); refine zq11 ?_ NB109_118.out _; (with_reducible repeat (first | refine zq0 ?_ _ | refine zq2 ?_ | refine zq1 ?_ _)); refine zq11 ?_ NB109_118.out _; (with_reducible repeat (first | refine zq0 ?_ _ | refine zq2 ?_ | refine zq1 ?_ _)); exact BK109.out⟩
         have n3_ : Aside0 (((((w31.setCell ⟨gb118, 0, none⟩ (.int .u64 t113)).setCell ⟨gb118, 1, none⟩ (.int .u64 t114)).setCell ⟨gb118, 2, none⟩ (.int .u64 t115)).setCell ⟨gb118, 3, none⟩ (.bool t116)).heap[gb118]? = some (.cells #[.int .u64 t113, .int .u64 t114, .int .u64 t115, .bool t116] 26 (0, 0))) := ⟨by (with_reducible repeat (first | refine zq0 ?_ _ | refine zq2 ?_ | refine zq1 ?_ _)); refine blk_put (cs := #[.int .u64 t113, .int .u64 t114, .int .u64 t115, .bool false]) ?_ 3 _ rfl; (with_reducible repeat (first | refine zq0 ?_ _ | refine zq2 ?_ | refine zq1 ?_ _)); refine blk_put (cs := #[.int .u64 t113, .int .u64 t114, .int .u64 0, .bool false]) ?_ 2 _ rfl; (with_reducible repeat (first | refine zq0 ?_ _ | refine zq2 ?_ | refine zq1 ?_ _)); refine blk_put (cs := #[.int .u64 t113, .int .u64 0, .int .u64 0, .bool false]) ?_ 1 _ rfl; (with_reducible repeat (first | refine zq0 ?_ _ | refine zq2 ?_ | refine zq1 ?_ _)); refine blk_put (cs := #[.int .u64 0, .int .u64 0, .int .u64 0, .bool false]) ?_ 0 _ rfl; (with_reducible repeat (first | refine zq0 ?_ _ | refine zq2 ?_ | refine zq1 ?_ _)); exact BK118.out⟩
         have n4_ : Aside0 (Below w.heap.size w ((((w31.setCell ⟨gb118, 0, none⟩ (.int .u64 t113)).setCell ⟨gb118, 1, none⟩ (.int .u64 t114)).setCell ⟨gb118, 2, none⟩ (.int .u64 t115)).setCell ⟨gb118, 3, none⟩ (.bool t116))) := ⟨by repeat (first | (with_reducible first | exact HB.out | apply zq9 | apply zq7 | apply zq8 | refine zq6 ?_ GE101.out | refine zq6 ?_ GE107.out | refine zq6 ?_ GE109.out | refine zq6 ?_ GE118.out) | exact HB.out)⟩
         (try clear BK101)
         (try clear BK107)
         (try clear BK109)
         (try clear BK118)
         (try clear HB)
         generalize ((((w31.setCell ⟨gb118, 0, none⟩ (.int .u64 t113)).setCell ⟨gb118, 1, none⟩ (.int .u64 t114)).setCell ⟨gb118, 2, none⟩ (.int .u64 t115)).setCell ⟨gb118, 3, none⟩ (.bool t116)) = w36 at n0_ n1_ n2_ n3_ n4_ ⊢
         have BK101 := n0_
         have BK107 := n1_
         have BK109 := n2_
         have BK118 := n3_
         have HB := n4_
         clear n0_ n1_ n2_ n3_ n4_
         have n0_ := zq3 (zq2 BK101.out)
         have n1_ := zq3 (zq2 BK107.out)
         have n2_ := zq3 (zq2 BK109.out)
         have n3_ := zq3 (zq2 BK118.out)
         have n4_ := zq3 (zq8 HB.out)
         clear BK101
         clear BK107
         clear BK109
         clear BK118
         clear HB
         have BK101 := n0_
         have BK107 := n1_
         have BK109 := n2_
         have BK118 := n3_
         have HB := n4_
         clear n0_ n1_ n2_ n3_ n4_
         have p119 : 0 ≤ (x8_2 : Int) := of_decide_eq_true (by first | (with_reducible assumption) | assumption)
         have q119 : x8_2 < (l1.length : Int) := of_decide_eq_true (by first | (with_reducible assumption) | assumption)
         obtain ⟨ad119, e119, hx119_0, hx119_1, hx119_2⟩ := at_T28 HR1.out x8_2 p119 q119
         have hw119_2 := hx119_2
         have hw119_1 := hx119_1
         have hw119_0 := hx119_0
         obtain rfl : ad111 = ad119 := (by injection e119)
         replace hx119_0 := (HB.out.cell (World.block_lt_of_cell? w _ hx119_0)).trans hx119_0
         replace hx119_1 := (HB.out.cell (World.block_lt_of_cell? w _ hx119_1)).trans hx119_1
         replace hx119_2 := (HB.out.cell (World.block_lt_of_cell? w _ hx119_2)).trans hx119_2
         replace p119 := eq_true p119
         replace q119 := eq_true q119
         have p120 : 0 ≤ (x8_2 : Int) := of_decide_eq_true (by first | (with_reducible assumption) | assumption)
         have q120 : x8_2 < (l1.length : Int) := of_decide_eq_true (by first | (with_reducible assumption) | assumption)
         obtain ⟨ad120, e120, hx120_0, hx120_1, hx120_2⟩ := at_T28 HR1.out x8_2 p120 q120
         have hw120_2 := hx120_2
         have hw120_1 := hx120_1
         have hw120_0 := hx120_0
         obtain rfl : ad111 = ad120 := (by injection e120)
         replace hx120_0 := (HB.out.cell (World.block_lt_of_cell? w _ hx120_0)).trans hx120_0
         replace hx120_1 := (HB.out.cell (World.block_lt_of_cell? w _ hx120_1)).trans hx120_1
         replace hx120_2 := (HB.out.cell (World.block_lt_of_cell? w _ hx120_2)).trans hx120_2
         replace p120 := eq_true p120
         replace q120 := eq_true q120
         refine start_ (n := 20) (S := fun w' => w'.cell? ⟨gb101, 0, none⟩ = some (.int .i64 a0_0) ∧ w'.cell? ⟨gb101, 1, none⟩ = some (.bool a0_1) ∧ w'.cell? ⟨gb101, 2, none⟩ = some (.int .u64 a0_2) ∧ w'.cell? ⟨gb101, 3, none⟩ = some (.int .u64 a0_3) ∧ w'.cell? ⟨gb101, 4, none⟩ = some (.int .u64 a0_4) ∧ w'.cell? ⟨gb101, 5, none⟩ = some (.int .u64 a0_5) ∧ w'.cell? ⟨gb107, 0, none⟩ = some (.int .u64 x108000_2) ∧ w'.cell? ⟨gb107, 1, none⟩ = some (.int .u64 x108001_2) ∧ w'.cell? ⟨gb107, 2, none⟩ = some (.int .u64 x108002_2) ∧ w'.cell? ⟨gb107, 3, none⟩ = some (.bool x108003_2) ∧ w'.cell? (ad111.add ((x8_2).toNat * 3)) = some (.int .u64 ((rd_T28 l1 x8_2).f0)) ∧ w'.cell? ⟨(ad111.add ((x8_2).toNat * 3)).block, (ad111.add ((x8_2).toNat * 3)).off + 1, none⟩ = some (.int .i64 ((rd_T28 l1 x8_2).f1)) ∧ w'.cell? ⟨(ad111.add ((x8_2).toNat * 3)).block, (ad111.add ((x8_2).toNat * 3)).off + 2, none⟩ = some (.int .i64 ((rd_T28 l1 x8_2).f2)) ∧ w'.cell? (ad111.add ((x8_2).toNat * 3)) = some (.int .u64 ((rd_T28 l1 x8_2).f0)) ∧ w'.cell? ⟨(ad111.add ((x8_2).toNat * 3)).block, (ad111.add ((x8_2).toNat * 3)).off + 1, none⟩ = some (.int .i64 ((rd_T28 l1 x8_2).f1)) ∧ w'.cell? ⟨(ad111.add ((x8_2).toNat * 3)).block, (ad111.add ((x8_2).toNat * 3)).off + 2, none⟩ = some (.int .i64 ((rd_T28 l1 x8_2).f2))) (ds := []) #[false, false, false, false, false, false, false, false, false, false, false, false, false, false, false, false, false, false, false, false] (by kernel_rfl) rfl rfl ⟨(zq5 BK101.out 0).trans rfl, (zq5 BK101.out 1).trans rfl, (zq5 BK101.out 2).trans rfl, (zq5 BK101.out 3).trans rfl, (zq5 BK101.out 4).trans rfl, (zq5 BK101.out 5).trans rfl, (zq5 BK107.out 0).trans rfl, (zq5 BK107.out 1).trans rfl, (zq5 BK107.out 2).trans rfl, (zq5 BK107.out 3).trans rfl, ((HB.out.cell (World.block_lt_of_cell? w _ hw119_0)).trans hw119_0), ((HB.out.cell (World.block_lt_of_cell? w _ hw119_1)).trans hw119_1), ((HB.out.cell (World.block_lt_of_cell? w _ hw119_2)).trans hw119_2), ((HB.out.cell (World.block_lt_of_cell? w _ hw120_0)).trans hw120_0), ((HB.out.cell (World.block_lt_of_cell? w _ hw120_1)).trans hw120_1), ((HB.out.cell (World.block_lt_of_cell? w _ hw120_2)).trans hw120_2)⟩ (fun hHeld => ?_); refine with_tabW weighbridgelaw26_SingleTakes.tab11 weighbridgelaw26_SingleTakes.bits11 (fun HT_ HW_ => ?_)
         generalize w36.drew = w37 at BK101 BK107 BK109 BK118 HB hx119_0 hx119_1 hx119_2 hx120_0 hx120_1 hx120_2 hHeld ⊢
         refine pure_ (i := 2) (N := some 60) (v := ?_) (a' := ?_) #[false, false, true, false, false, false, false, false, false, false, false, false, false, false, false, false, false, false, false, false] rfl rfl (any_of HT_.out (by kernel_rfl)) (fun _ _ _ h => h) (Or.inl ⟨by rfl, ?_⟩) ?_ ?_
         rotate_left
         ·
          intro w'
          go_simp
          with_reducible rfl
         rotate_left
         ·
          simp only [Act.put, List.setIfInBounds_toArray, List.set_cons_zero, List.set_cons_succ, i64_w, i32_w]
          rfl
         refine pure_ (i := 3) (N := some 61) (v := ?_) (a' := ?_) #[false, false, true, true, false, false, false, false, false, false, false, false, false, false, false, false, false, false, false, false] rfl rfl (any_of HT_.out (by kernel_rfl)) (fun _ _ _ h => h) (Or.inl ⟨by rfl, ?_⟩) ?_ ?_
         rotate_left
         ·
          intro w'
          go_simp
          with_reducible rfl
         rotate_left
         ·
          simp only [Act.put, List.setIfInBounds_toArray, List.set_cons_zero, List.set_cons_succ, i64_w, i32_w]
          rfl
         refine pure_ (i := 4) (N := some 62) (v := ?_) (a' := ?_) #[false, false, true, true, true, false, false, false, false, false, false, false, false, false, false, false, false, false, false, false] rfl rfl (any_of HT_.out (by kernel_rfl)) (fun _ _ _ h => h) (Or.inl ⟨by rfl, ?_⟩) ?_ ?_
         rotate_left
         ·
          intro w'
          go_simp
          with_reducible rfl
         rotate_left
         ·
          simp only [Act.put, List.setIfInBounds_toArray, List.set_cons_zero, List.set_cons_succ, i64_w, i32_w]
          rfl
         refine pure_ (i := 5) (N := some 63) (v := ?_) (a' := ?_) #[false, false, true, true, true, true, false, false, false, false, false, false, false, false, false, false, false, false, false, false] rfl rfl (any_of HT_.out (by kernel_rfl)) (fun _ _ _ h => h) (Or.inl ⟨by rfl, ?_⟩) ?_ ?_
         rotate_left
         ·
          intro w'
          go_simp
          with_reducible rfl
         rotate_left
         ·
          simp only [Act.put, List.setIfInBounds_toArray, List.set_cons_zero, List.set_cons_succ, i64_w, i32_w]
          rfl
         refine pure_ (i := 7) (N := some 65) (v := ?_) (a' := ?_) #[false, false, true, true, true, true, false, true, false, false, false, false, false, false, false, false, false, false, false, false] rfl rfl (any_of HT_.out (by kernel_rfl)) (fun _ _ _ h => h) (Or.inl ⟨by rfl, ?_⟩) ?_ ?_
         rotate_left
         ·
          intro w'
          go_simp
          with_reducible rfl
         rotate_left
         ·
          simp only [Act.put, List.setIfInBounds_toArray, List.set_cons_zero, List.set_cons_succ, i64_w, i32_w]
          rfl
         refine pure_ (i := 8) (N := some 66) (v := ?_) (a' := ?_) #[false, false, true, true, true, true, false, true, true, false, false, false, false, false, false, false, false, false, false, false] rfl rfl (any_of HT_.out (by kernel_rfl)) (fun _ _ _ h => h) (Or.inl ⟨by rfl, ?_⟩) ?_ ?_
         rotate_left
         ·
          intro w'
          go_simp
          with_reducible rfl
         rotate_left
         ·
          simp only [Act.put, List.setIfInBounds_toArray, List.set_cons_zero, List.set_cons_succ, i64_w, i32_w]
          rfl
         refine pure_ (i := 9) (N := some 67) (v := ?_) (a' := ?_) #[false, false, true, true, true, true, false, true, true, true, false, false, false, false, false, false, false, false, false, false] rfl rfl (any_of HT_.out (by kernel_rfl)) (fun _ _ _ h => h) (Or.inl ⟨by rfl, ?_⟩) ?_ ?_
         rotate_left
         ·
          intro w'
          go_simp
          with_reducible rfl
         rotate_left
         ·
          simp only [Act.put, List.setIfInBounds_toArray, List.set_cons_zero, List.set_cons_succ, i64_w, i32_w]
          rfl
         refine pure_ (i := 10) (N := some 68) (v := ?_) (a' := ?_) #[false, false, true, true, true, true, false, true, true, true, true, false, false, false, false, false, false, false, false, false] rfl rfl (any_of HT_.out (by kernel_rfl)) (fun _ _ _ h => h) (Or.inl ⟨by rfl, ?_⟩) ?_ ?_
         rotate_left
         ·
          intro w'
          go_simp
          with_reducible rfl
         rotate_left
         ·
          simp only [Act.put, List.setIfInBounds_toArray, List.set_cons_zero, List.set_cons_succ, i64_w, i32_w]
          rfl
         refine pure_ (i := 11) (N := some 69) (v := ?_) (a' := ?_) #[false, false, true, true, true, true, false, true, true, true, true, true, false, false, false, false, false, false, false, false] rfl rfl (any_of HT_.out (by kernel_rfl)) (fun _ _ _ h => h) (Or.inl ⟨by rfl, ?_⟩) ?_ ?_
         rotate_left
         ·
          intro w'
          go_simp
          with_reducible rfl
         rotate_left
         ·
          simp only [Act.put, List.setIfInBounds_toArray, List.set_cons_zero, List.set_cons_succ, i64_w, i32_w]
          rfl
         refine take_ (i := 0) (N := some 58) (v := ?_) (a' := ?_) #[true, false, true, true, true, true, false, true, true, true, true, true, false, false, false, false, false, false, false, false] rfl rfl (take_ofW HT_.out HW_.out (by kernel_rfl)) (fun _ _ _ h => h) (Or.inl ⟨by rfl, ?_⟩) hHeld ?_ ?_
         rotate_left
         ·
          rintro w' ⟨s0, s1, s2, s3, s4, s5, s6, s7, s8, s9, s10, s11, s12, s13, s14, s15⟩
          go_simp
          with_reducible rfl
         rotate_left
         ·
          simp only [Act.put, List.setIfInBounds_toArray, List.set_cons_zero, List.set_cons_succ, i64_w, i32_w]
          rfl
         refine take_ (i := 1) (N := some 59) (v := ?_) (a' := ?_) #[true, true, true, true, true, true, false, true, true, true, true, true, false, false, false, false, false, false, false, false] rfl rfl (take_ofW HT_.out HW_.out (by kernel_rfl)) (fun _ _ _ h => h) (Or.inl ⟨by rfl, ?_⟩) hHeld ?_ ?_
         rotate_left
         ·
          rintro w' ⟨s0, s1, s2, s3, s4, s5, s6, s7, s8, s9, s10, s11, s12, s13, s14, s15⟩
          go_simp
          with_reducible rfl
         rotate_left
         ·
          simp only [Act.put, List.setIfInBounds_toArray, List.set_cons_zero, List.set_cons_succ, i64_w, i32_w]
          rfl
         refine take_ (i := 6) (N := some 64) (v := ?_) (a' := ?_) #[true, true, true, true, true, true, true, true, true, true, true, true, false, false, false, false, false, false, false, false] rfl rfl (take_ofW HT_.out HW_.out (by kernel_rfl)) (fun _ _ _ h => h) (Or.inl ⟨by rfl, ?_⟩) hHeld ?_ ?_
         rotate_left
         ·
          rintro w' ⟨s0, s1, s2, s3, s4, s5, s6, s7, s8, s9, s10, s11, s12, s13, s14, s15⟩
          go_simp
          with_reducible rfl
         rotate_left
         ·
          simp only [Act.put, List.setIfInBounds_toArray, List.set_cons_zero, List.set_cons_succ, i64_w, i32_w]
          rfl
         refine take_ (i := 12) (N := some 70) (v := ?_) (a' := ?_) #[true, true, true, true, true, true, true, true, true, true, true, true, true, false, false, false, false, false, false, false] rfl rfl (take_ofW HT_.out HW_.out (by kernel_rfl)) (fun _ _ _ h => h) (Or.inl ⟨by rfl, ?_⟩) hHeld ?_ ?_
         rotate_left
         ·
          rintro w' ⟨s0, s1, s2, s3, s4, s5, s6, s7, s8, s9, s10, s11, s12, s13, s14, s15⟩
          go_simp
          with_reducible rfl
         rotate_left
         ·
          simp only [Act.put, List.setIfInBounds_toArray, List.set_cons_zero, List.set_cons_succ, i64_w, i32_w]
          rfl
         refine join_ (σ := Nat) 2 #[true, true, true, true, true, true, true, true, true, true, true, true, true, true, true, true, true, true, false, false] (fun s_ => [(71, .tuple #[.agg #[.int .u64 t121, .int .u64 t122, .int .u64 t123, .bool t124], .int .i64 t125]), (12, .pointer (some ⟨s_, 0, none⟩)), (57, .tuple #[.agg #[.int .u64 t121, .int .u64 t122, .int .u64 t123, .bool t124], .int .i64 t125]), (72, .agg #[.int .u64 t121, .int .u64 t122, .int .u64 t123, .bool t124]), (73, .int .i64 t125)]) (fun s_ w' => (w'.cell? ⟨gb101, 0, none⟩ = some (.int .i64 a0_0) ∧ w'.cell? ⟨gb101, 1, none⟩ = some (.bool a0_1) ∧ w'.cell? ⟨gb101, 2, none⟩ = some (.int .u64 a0_2) ∧ w'.cell? ⟨gb101, 3, none⟩ = some (.int .u64 a0_3) ∧ w'.cell? ⟨gb101, 4, none⟩ = some (.int .u64 a0_4) ∧ w'.cell? ⟨gb101, 5, none⟩ = some (.int .u64 a0_5) ∧ w'.cell? ⟨gb107, 0, none⟩ = some (.int .u64 x108000_2) ∧ w'.cell? ⟨gb107, 1, none⟩ = some (.int .u64 x108001_2) ∧ w'.cell? ⟨gb107, 2, none⟩ = some (.int .u64 x108002_2) ∧ w'.cell? ⟨gb107, 3, none⟩ = some (.bool x108003_2) ∧ w'.cell? (ad111.add ((x8_2).toNat * 3)) = some (.int .u64 ((rd_T28 l1 x8_2).f0)) ∧ w'.cell? ⟨(ad111.add ((x8_2).toNat * 3)).block, (ad111.add ((x8_2).toNat * 3)).off + 1, none⟩ = some (.int .i64 ((rd_T28 l1 x8_2).f1)) ∧ w'.cell? ⟨(ad111.add ((x8_2).toNat * 3)).block, (ad111.add ((x8_2).toNat * 3)).off + 2, none⟩ = some (.int .i64 ((rd_T28 l1 x8_2).f2)) ∧ w'.cell? (ad111.add ((x8_2).toNat * 3)) = some (.int .u64 ((rd_T28 l1 x8_2).f0)) ∧ w'.cell? ⟨(ad111.add ((x8_2).toNat * 3)).block, (ad111.add ((x8_2).toNat * 3)).off + 1, none⟩ = some (.int .i64 ((rd_T28 l1 x8_2).f1)) ∧ w'.cell? ⟨(ad111.add ((x8_2).toNat * 3)).block, (ad111.add ((x8_2).toNat * 3)).off + 2, none⟩ = some (.int .i64 ((rd_T28 l1 x8_2).f2))) ∧ (w'.heap[gb101]? = some (.cells #[.int .i64 a0_0, .bool a0_1, .int .u64 a0_2, .int .u64 a0_3, .int .u64 a0_4, .int .u64 a0_5] 24 (0, 0))) ∧ (w'.heap[gb107]? = some (.cells #[.int .u64 x108000_2, .int .u64 x108001_2, .int .u64 x108002_2, .bool x108003_2] 26 (0, 0))) ∧ (w'.heap[gb109]? = some (.cells #[.int .u64 t102, .int .u64 t103, .int .u64 t104, .bool t105] 26 (0, 0))) ∧ (w'.heap[gb118]? = some (.cells #[.int .u64 t113, .int .u64 t114, .int .u64 t115, .bool t116] 26 (0, 0))) ∧ (w'.heap[s_]? = some (.cells #[.int .u64 0, .int .u64 0, .int .u64 0, .bool false] 26 (0, 0))) ∧ (w.heap.size ≤ s_) ∧ (w.heap.size ≤ s_) ∧ (gb101 ≠ s_) ∧ (s_ ≠ gb101) ∧ (gb107 ≠ s_) ∧ (s_ ≠ gb107) ∧ (gb109 ≠ s_) ∧ (s_ ≠ gb109) ∧ (gb118 ≠ s_) ∧ (s_ ≠ gb118) ∧ (Below w.heap.size w w')) ?_ ?_
         rotate_left
         ·
          intro hCont
          refine two_ (i := 13) (j := 17) (Ni := some 71) (Nj := some 12) #[true, true, true, true, true, true, true, true, true, true, true, true, true, true, false, false, false, false, false, false] #[true, true, true, true, true, true, true, true, true, true, true, true, true, false, false, false, false, true, false, false] rfl rfl rfl rfl (two_of HT_.out (by kernel_rfl)) (by decide) (by decide) (fun K hK => ?_) (fun K hK => ?_)
          ·
           skip
           refine goes_ Try.func22 (by kernel_rfl) rfl #[.agg #[.int .i64 a0_0, .bool a0_1, .int .u64 a0_2, .int .u64 a0_3, .int .u64 a0_4, .int .u64 a0_5], .agg #[.int .u64 x108000_2, .int .u64 x108001_2, .int .u64 x108002_2, .bool x108003_2], .int .u64 ((rd_T28 l1 x8_2).f0), .int .i64 ((rd_T28 l1 x8_2).f1), .int .i64 ((rd_T28 l1 x8_2).f2)] (by rfl) rfl rfl (by (try simp only [List.map_toArray, List.map_cons, List.map_nil]); first | done | rfl | (simp only [List.length_drop, List.length_take]; rfl)) ?_
           with_reducible refine (single_Step.calls k2 a0_0 a0_1 a0_2 a0_3 a0_4 a0_5 x108000_2 x108001_2 x108002_2 x108003_2 ((rd_T28 l1 x8_2).f0) ((rd_T28 l1 x8_2).f1) ((rd_T28 l1 x8_2).f2) t121 t122 t123 t124 t125 _ A25.out).mono ?_
           rintro e w38 ⟨rfl, hb⟩
           refine ⟨_, rfl, ?_⟩
           have n0_ := zq3 (zq10 (g := gb101) (o := .cells #[.int .i64 a0_0, .bool a0_1, .int .u64 a0_2, .int .u64 a0_3, .int .u64 a0_4, .int .u64 a0_5] 24 (0, 0)) (by (with_reducible repeat (first | refine zq0 ?_ _ | refine zq2 ?_ | refine zq1 ?_ _)); exact BK101.out) hb)
           have n1_ := zq3 (zq10 (g := gb107) (o := .cells #[.int .u64 x108000_2, .int .u64 x108001_2, .int .u64 x108002_2, .bool x108003_2] 26 (0, 0)) (by (with_reducible repeat (first | refine zq0 ?_ _ | refine zq2 ?_ | refine zq1 ?_ _)); exact BK107.out) hb)
           have n2_ := zq3 (zq10 (g := gb109) (o := .cells #[.int .u64 t102, .int .u64 t103, .int .u64 t104, .bool t105] 26 (0, 0)) (by (with_reducible repeat (first | refine zq0 ?_ _ | refine zq2 ?_ | refine zq1 ?_ _)); exact BK109.out) hb)
           have n3_ := zq3 (zq10 (g := gb118) (o := .cells #[.int .u64 t113, .int .u64 t114, .int .u64 t115, .bool t116] 26 (0, 0)) (by (with_reducible repeat (first | refine zq0 ?_ _ | refine zq2 ?_ | refine zq1 ?_ _)); exact BK118.out) hb)
           have n4_ := zq3 (below_step (by repeat (first | (with_reducible first | exact HB.out | apply zq9 | apply zq7 | apply zq8 | refine zq6 ?_ GE101.out | refine zq6 ?_ GE107.out | refine zq6 ?_ GE109.out | refine zq6 ?_ GE118.out) | exact HB.out)) hb)
           clear BK101
           clear BK107
           clear BK109
           clear BK118
           clear HB
           have BK101 := n0_
           have BK107 := n1_
           have BK109 := n2_
           have BK118 := n3_
           have HB := n4_
           clear n0_ n1_ n2_ n3_ n4_
           (try clear hb)
           (try clear hb2)
           (try clear hk)
           (try clear hi)
           refine hK.out _ _ ⟨(zq5 BK101.out 0).trans rfl, (zq5 BK101.out 1).trans rfl, (zq5 BK101.out 2).trans rfl, (zq5 BK101.out 3).trans rfl, (zq5 BK101.out 4).trans rfl, (zq5 BK101.out 5).trans rfl, (zq5 BK107.out 0).trans rfl, (zq5 BK107.out 1).trans rfl, (zq5 BK107.out 2).trans rfl, (zq5 BK107.out 3).trans rfl, ((HB.out.cell (World.block_lt_of_cell? w _ hw119_0)).trans hw119_0), ((HB.out.cell (World.block_lt_of_cell? w _ hw119_1)).trans hw119_1), ((HB.out.cell (World.block_lt_of_cell? w _ hw119_2)).trans hw119_2), ((HB.out.cell (World.block_lt_of_cell? w _ hw120_0)).trans hw120_0), ((HB.out.cell (World.block_lt_of_cell? w _ hw120_1)).trans hw120_1), ((HB.out.cell (World.block_lt_of_cell? w _ hw120_2)).trans hw120_2)⟩ (fun hHeld => ?_)
           clear hK K
           refine norm_ (a' := ?_) ?_ ?_
           rotate_left
           ·
            show Act.put _ (some 71) _ = _
            simp only [Act.put, List.setIfInBounds_toArray, List.set_cons_zero, List.set_cons_succ, i64_w, i32_w]
            rfl
           refine pure_ (i := 14) (N := some 57) (v := ?_) (a' := ?_) #[true, true, true, true, true, true, true, true, true, true, true, true, true, true, true, false, false, false, false, false] rfl rfl (any_of HT_.out (by kernel_rfl)) (fun _ _ _ h => h) (Or.inl ⟨by rfl, ?_⟩) ?_ ?_
           rotate_left
           ·
            intro w'
            go_simp
            with_reducible rfl
           rotate_left
           ·
            simp only [Act.put, List.setIfInBounds_toArray, List.set_cons_zero, List.set_cons_succ, i64_w, i32_w]
            rfl
           refine pure_ (i := 15) (N := some 72) (v := ?_) (a' := ?_) #[true, true, true, true, true, true, true, true, true, true, true, true, true, true, true, true, false, false, false, false] rfl rfl (any_of HT_.out (by kernel_rfl)) (fun _ _ _ h => h) (Or.inl ⟨by rfl, ?_⟩) ?_ ?_
           rotate_left
           ·
            intro w'
            go_simp
            with_reducible rfl
           rotate_left
           ·
            simp only [Act.put, List.setIfInBounds_toArray, List.set_cons_zero, List.set_cons_succ, i64_w, i32_w]
            rfl
           refine pure_ (i := 16) (N := some 73) (v := ?_) (a' := ?_) #[true, true, true, true, true, true, true, true, true, true, true, true, true, true, true, true, true, false, false, false] rfl rfl (any_of HT_.out (by kernel_rfl)) (fun _ _ _ h => h) (Or.inl ⟨by rfl, ?_⟩) ?_ ?_
           rotate_left
           ·
            intro w'
            go_simp
            with_reducible rfl
           rotate_left
           ·
            simp only [Act.put, List.setIfInBounds_toArray, List.set_cons_zero, List.set_cons_succ, i64_w, i32_w]
            rfl
           refine one_ (i := 17) (N := some 12) #[true, true, true, true, true, true, true, true, true, true, true, true, true, true, true, true, true, true, false, false] rfl rfl (one_of HT_.out (by kernel_rfl)) (by decide) (fun K hK => ?_)
           refine box_step ?hg (N := 12) ?hd (cs := #[.int .u64 0, .int .u64 0, .int .u64 0, .bool false]) (t := 26) ?hr ?_; (case hd => rfl); (case hg => rfl); (case hr => first | (go_simp; done) | (go_simp; rfl))
           intro gb126 hg w39 hbox hb
           have n0_ := zq3 (zq10 (g := gb101) (o := .cells #[.int .i64 a0_0, .bool a0_1, .int .u64 a0_2, .int .u64 a0_3, .int .u64 a0_4, .int .u64 a0_5] 24 (0, 0)) (by (with_reducible repeat (first | refine zq0 ?_ _ | refine zq2 ?_ | refine zq1 ?_ _)); exact BK101.out) hb)
           have n1_ := zq3 (zq10 (g := gb107) (o := .cells #[.int .u64 x108000_2, .int .u64 x108001_2, .int .u64 x108002_2, .bool x108003_2] 26 (0, 0)) (by (with_reducible repeat (first | refine zq0 ?_ _ | refine zq2 ?_ | refine zq1 ?_ _)); exact BK107.out) hb)
           have n2_ := zq3 (zq10 (g := gb109) (o := .cells #[.int .u64 t102, .int .u64 t103, .int .u64 t104, .bool t105] 26 (0, 0)) (by (with_reducible repeat (first | refine zq0 ?_ _ | refine zq2 ?_ | refine zq1 ?_ _)); exact BK109.out) hb)
           have n3_ := zq3 (zq10 (g := gb118) (o := .cells #[.int .u64 t113, .int .u64 t114, .int .u64 t115, .bool t116] 26 (0, 0)) (by (with_reducible repeat (first | refine zq0 ?_ _ | refine zq2 ?_ | refine zq1 ?_ _)); exact BK118.out) hb)
           have n4_ := zq3 (below_step (by repeat (first | (with_reducible first | exact HB.out | apply zq9 | apply zq7 | apply zq8 | refine zq6 ?_ GE101.out | refine zq6 ?_ GE107.out | refine zq6 ?_ GE109.out | refine zq6 ?_ GE118.out) | exact HB.out)) hb)
           have n5_ := zq3 (hbox)
           have n6_ := zq3 ((by rw [hg]; exact (below_size (by repeat (first | (with_reducible first | exact HB.out | apply zq9 | apply zq7 | apply zq8 | refine zq6 ?_ GE101.out | refine zq6 ?_ GE107.out | refine zq6 ?_ GE109.out | refine zq6 ?_ GE118.out) | exact HB.out))) : w.heap.size ≤ gb126))
           have n7_ := zq3 ((by rw [hg]; exact (below_size (by repeat (first | (with_reducible first | exact HB.out | apply zq9 | apply zq7 | apply zq8 | refine zq6 ?_ GE101.out | refine zq6 ?_ GE107.out | refine zq6 ?_ GE109.out | refine zq6 ?_ GE118.out) | exact HB.out))) : w.heap.size ≤ gb126))
           have n8_ := zq3 ((by rw [hg]; exact Nat.ne_of_lt (blk_lt (g := gb101) (o := .cells #[.int .i64 a0_0, .bool a0_1, .int .u64 a0_2, .int .u64 a0_3, .int .u64 a0_4, .int .u64 a0_5] 24 (0, 0)) (by (with_reducible repeat (first | refine zq0 ?_ _ | refine zq2 ?_ | refine zq1 ?_ _)); exact BK101.out)) : gb101 ≠ gb126))
           have n9_ := zq3 ((by rw [hg]; exact Nat.ne_of_gt (blk_lt (g := gb101) (o := .cells #[.int .i64 a0_0, .bool a0_1, .int .u64 a0_2, .int .u64 a0_3, .int .u64 a0_4, .int .u64 a0_5] 24 (0, 0)) (by (with_reducible repeat (first | refine zq0 ?_ _ | refine zq2 ?_ | refine zq1 ?_ _)); exact BK101.out)) : gb126 ≠ gb101))
           have n10_ := zq3 ((by rw [hg]; exact Nat.ne_of_lt (blk_lt (g := gb107) (o := .cells #[.int .u64 x108000_2, .int .u64 x108001_2, .int .u64 x108002_2, .bool x108003_2] 26 (0, 0)) (by (with_reducible repeat (first | refine zq0 ?_ _ | refine zq2 ?_ | refine zq1 ?_ _)); exact BK107.out)) : gb107 ≠ gb126))
           have n11_ := zq3 ((by rw [hg]; exact Nat.ne_of_gt (blk_lt (g := gb107) (o := .cells #[.int .u64 x108000_2, .int .u64 x108001_2, .int .u64 x108002_2, .bool x108003_2] 26 (0, 0)) (by (with_reducible repeat (first | refine zq0 ?_ _ | refine zq2 ?_ | refine zq1 ?_ _)); exact BK107.out)) : gb126 ≠ gb107))
           have n12_ := zq3 ((by rw [hg]; exact Nat.ne_of_lt (blk_lt (g := gb109) (o := .cells #[.int .u64 t102, .int .u64 t103, .int .u64 t104, .bool t105] 26 (0, 0)) (by (with_reducible repeat (first | refine zq0 ?_ _ | refine zq2 ?_ | refine zq1 ?_ _)); exact BK109.out)) : gb109 ≠ gb126))
           have n13_ := zq3 ((by rw [hg]; exact Nat.ne_of_gt (blk_lt (g := gb109) (o := .cells #[.int .u64 t102, .int .u64 t103, .int .u64 t104, .bool t105] 26 (0, 0)) (by (with_reducible repeat (first | refine zq0 ?_ _ | refine zq2 ?_ | refine zq1 ?_ _)); exact BK109.out)) : gb126 ≠ gb109))
           have n14_ := zq3 ((by rw [hg]; exact Nat.ne_of_lt (blk_lt (g := gb118) (o := .cells #[.int .u64 t113, .int .u64 t114, .int .u64 t115, .bool t116] 26 (0, 0)) (by (with_reducible repeat (first | refine zq0 ?_ _ | refine zq2 ?_ | refine zq1 ?_ _)); exact BK118.out)) : gb118 ≠ gb126))
           have n15_ := zq3 ((by rw [hg]; exact Nat.ne_of_gt (blk_lt (g := gb118) (o := .cells #[.int .u64 t113, .int .u64 t114, .int .u64 t115, .bool t116] 26 (0, 0)) (by (with_reducible repeat (first | refine zq0 ?_ _ | refine zq2 ?_ | refine zq1 ?_ _)); exact BK118.out)) : gb126 ≠ gb118))
           clear BK101
           clear BK107
           clear BK109
           clear BK118
           clear HB
           have BK101 := n0_
           have BK107 := n1_
           have BK109 := n2_
           have BK118 := n3_
           have HB := n4_
           have BK126 := n5_
           have GW126 := n6_
           have GE126 := n7_
           have NB101_126 := n8_
           have NB126_101 := n9_
           have NB107_126 := n10_
           have NB126_107 := n11_
           have NB109_126 := n12_
           have NB126_109 := n13_
           have NB118_126 := n14_
           have NB126_118 := n15_
           clear n0_ n1_ n2_ n3_ n4_ n5_ n6_ n7_ n8_ n9_ n10_ n11_ n12_ n13_ n14_ n15_
           clear hb hbox hg
           refine hK.out _ _ ⟨(zq5 BK101.out 0).trans rfl, (zq5 BK101.out 1).trans rfl, (zq5 BK101.out 2).trans rfl, (zq5 BK101.out 3).trans rfl, (zq5 BK101.out 4).trans rfl, (zq5 BK101.out 5).trans rfl, (zq5 BK107.out 0).trans rfl, (zq5 BK107.out 1).trans rfl, (zq5 BK107.out 2).trans rfl, (zq5 BK107.out 3).trans rfl, ((HB.out.cell (World.block_lt_of_cell? w _ hw119_0)).trans hw119_0), ((HB.out.cell (World.block_lt_of_cell? w _ hw119_1)).trans hw119_1), ((HB.out.cell (World.block_lt_of_cell? w _ hw119_2)).trans hw119_2), ((HB.out.cell (World.block_lt_of_cell? w _ hw120_0)).trans hw120_0), ((HB.out.cell (World.block_lt_of_cell? w _ hw120_1)).trans hw120_1), ((HB.out.cell (World.block_lt_of_cell? w _ hw120_2)).trans hw120_2)⟩ (fun hHeld => ?_)
           clear hK K
           refine norm_ (a' := ?_) ?_ ?_
           rotate_left
           ·
            show Act.put _ (some 12) _ = _
            simp only [Act.put, List.setIfInBounds_toArray, List.set_cons_zero, List.set_cons_succ, i64_w, i32_w]
            rfl
           exact norm_ (by simp only [putAll, Act.put, List.setIfInBounds_toArray, List.set_cons_zero, List.set_cons_succ]) (hCont (gb126) _ ⟨hHeld, (by (with_reducible repeat (first | refine zq0 ?_ _ | refine zq2 ?_ | refine zq1 ?_ _)); exact BK101.out), (by (with_reducible repeat (first | refine zq0 ?_ _ | refine zq2 ?_ | refine zq1 ?_ _)); exact BK107.out), (by (with_reducible repeat (first | refine zq0 ?_ _ | refine zq2 ?_ | refine zq1 ?_ _)); exact BK109.out), (by (with_reducible repeat (first | refine zq0 ?_ _ | refine zq2 ?_ | refine zq1 ?_ _)); exact BK118.out), (by (with_reducible repeat (first | refine zq0 ?_ _ | refine zq2 ?_ | refine zq1 ?_ _)); exact BK126.out), GW126.out, GE126.out, NB101_126.out, NB126_101.out, NB107_126.out, NB126_107.out, NB109_126.out, NB126_109.out, NB118_126.out, NB126_118.out, (by repeat (first | (with_reducible first | exact HB.out | apply zq9 | apply zq7 | apply zq8 | refine zq6 ?_ GE101.out | refine zq6 ?_ GE107.out | refine zq6 ?_ GE109.out | refine zq6 ?_ GE118.out | refine zq6 ?_ GE126.out) | exact HB.out))⟩)
          ·
           skip
           refine box_step ?hg (N := 12) ?hd (cs := #[.int .u64 0, .int .u64 0, .int .u64 0, .bool false]) (t := 26) ?hr ?_; (case hd => rfl); (case hg => rfl); (case hr => first | (go_simp; done) | (go_simp; rfl))
           intro gb126 hg w38 hbox hb
           have n0_ := zq3 (zq10 (g := gb101) (o := .cells #[.int .i64 a0_0, .bool a0_1, .int .u64 a0_2, .int .u64 a0_3, .int .u64 a0_4, .int .u64 a0_5] 24 (0, 0)) (by (with_reducible repeat (first | refine zq0 ?_ _ | refine zq2 ?_ | refine zq1 ?_ _)); exact BK101.out) hb)
           have n1_ := zq3 (zq10 (g := gb107) (o := .cells #[.int .u64 x108000_2, .int .u64 x108001_2, .int .u64 x108002_2, .bool x108003_2] 26 (0, 0)) (by (with_reducible repeat (first | refine zq0 ?_ _ | refine zq2 ?_ | refine zq1 ?_ _)); exact BK107.out) hb)
           have n2_ := zq3 (zq10 (g := gb109) (o := .cells #[.int .u64 t102, .int .u64 t103, .int .u64 t104, .bool t105] 26 (0, 0)) (by (with_reducible repeat (first | refine zq0 ?_ _ | refine zq2 ?_ | refine zq1 ?_ _)); exact BK109.out) hb)
           have n3_ := zq3 (zq10 (g := gb118) (o := .cells #[.int .u64 t113, .int .u64 t114, .int .u64 t115, .bool t116] 26 (0, 0)) (by (with_reducible repeat (first | refine zq0 ?_ _ | refine zq2 ?_ | refine zq1 ?_ _)); exact BK118.out) hb)
           have n4_ := zq3 (below_step (by repeat (first | (with_reducible first | exact HB.out | apply zq9 | apply zq7 | apply zq8 | refine zq6 ?_ GE101.out | refine zq6 ?_ GE107.out | refine zq6 ?_ GE109.out | refine zq6 ?_ GE118.out) | exact HB.out)) hb)
           have n5_ := zq3 (hbox)
           have n6_ := zq3 ((by rw [hg]; exact (below_size (by repeat (first | (with_reducible first | exact HB.out | apply zq9 | apply zq7 | apply zq8 | refine zq6 ?_ GE101.out | refine zq6 ?_ GE107.out | refine zq6 ?_ GE109.out | refine zq6 ?_ GE118.out) | exact HB.out))) : w.heap.size ≤ gb126))
           have n7_ := zq3 ((by rw [hg]; exact (below_size (by repeat (first | (with_reducible first | exact HB.out | apply zq9 | apply zq7 | apply zq8 | refine zq6 ?_ GE101.out | refine zq6 ?_ GE107.out | refine zq6 ?_ GE109.out | refine zq6 ?_ GE118.out) | exact HB.out))) : w.heap.size ≤ gb126))
           have n8_ := zq3 ((by rw [hg]; exact Nat.ne_of_lt (blk_lt (g := gb101) (o := .cells #[.int .i64 a0_0, .bool a0_1, .int .u64 a0_2, .int .u64 a0_3, .int .u64 a0_4, .int .u64 a0_5] 24 (0, 0)) (by (with_reducible repeat (first | refine zq0 ?_ _ | refine zq2 ?_ | refine zq1 ?_ _)); exact BK101.out)) : gb101 ≠ gb126))
           have n9_ := zq3 ((by rw [hg]; exact Nat.ne_of_gt (blk_lt (g := gb101) (o := .cells #[.int .i64 a0_0, .bool a0_1, .int .u64 a0_2, .int .u64 a0_3, .int .u64 a0_4, .int .u64 a0_5] 24 (0, 0)) (by (with_reducible repeat (first | refine zq0 ?_ _ | refine zq2 ?_ | refine zq1 ?_ _)); exact BK101.out)) : gb126 ≠ gb101))
           have n10_ := zq3 ((by rw [hg]; exact Nat.ne_of_lt (blk_lt (g := gb107) (o := .cells #[.int .u64 x108000_2, .int .u64 x108001_2, .int .u64 x108002_2, .bool x108003_2] 26 (0, 0)) (by (with_reducible repeat (first | refine zq0 ?_ _ | refine zq2 ?_ | refine zq1 ?_ _)); exact BK107.out)) : gb107 ≠ gb126))
           have n11_ := zq3 ((by rw [hg]; exact Nat.ne_of_gt (blk_lt (g := gb107) (o := .cells #[.int .u64 x108000_2, .int .u64 x108001_2, .int .u64 x108002_2, .bool x108003_2] 26 (0, 0)) (by (with_reducible repeat (first | refine zq0 ?_ _ | refine zq2 ?_ | refine zq1 ?_ _)); exact BK107.out)) : gb126 ≠ gb107))
           have n12_ := zq3 ((by rw [hg]; exact Nat.ne_of_lt (blk_lt (g := gb109) (o := .cells #[.int .u64 t102, .int .u64 t103, .int .u64 t104, .bool t105] 26 (0, 0)) (by (with_reducible repeat (first | refine zq0 ?_ _ | refine zq2 ?_ | refine zq1 ?_ _)); exact BK109.out)) : gb109 ≠ gb126))
           have n13_ := zq3 ((by rw [hg]; exact Nat.ne_of_gt (blk_lt (g := gb109) (o := .cells #[.int .u64 t102, .int .u64 t103, .int .u64 t104, .bool t105] 26 (0, 0)) (by (with_reducible repeat (first | refine zq0 ?_ _ | refine zq2 ?_ | refine zq1 ?_ _)); exact BK109.out)) : gb126 ≠ gb109))
           have n14_ := zq3 ((by rw [hg]; exact Nat.ne_of_lt (blk_lt (g := gb118) (o := .cells #[.int .u64 t113, .int .u64 t114, .int .u64 t115, .bool t116] 26 (0, 0)) (by (with_reducible repeat (first | refine zq0 ?_ _ | refine zq2 ?_ | refine zq1 ?_ _)); exact BK118.out)) : gb118 ≠ gb126))
           have n15_ := zq3 ((by rw [hg]; exact Nat.ne_of_gt (blk_lt (g := gb118) (o := .cells #[.int .u64 t113, .int .u64 t114, .int .u64 t115, .bool t116] 26 (0, 0)) (by (with_reducible repeat (first | refine zq0 ?_ _ | refine zq2 ?_ | refine zq1 ?_ _)); exact BK118.out)) : gb126 ≠ gb118))
           clear BK101
           clear BK107
           clear BK109
           clear BK118
           clear HB
           have BK101 := n0_
           have BK107 := n1_
           have BK109 := n2_
           have BK118 := n3_
           have HB := n4_
           have BK126 := n5_
           have GW126 := n6_
           have GE126 := n7_
           have NB101_126 := n8_
           have NB126_101 := n9_
           have NB107_126 := n10_
           have NB126_107 := n11_
           have NB109_126 := n12_
           have NB126_109 := n13_
           have NB118_126 := n14_
           have NB126_118 := n15_
           clear n0_ n1_ n2_ n3_ n4_ n5_ n6_ n7_ n8_ n9_ n10_ n11_ n12_ n13_ n14_ n15_
           clear hb hbox hg
           refine hK.out _ _ ⟨(zq5 BK101.out 0).trans rfl, (zq5 BK101.out 1).trans rfl, (zq5 BK101.out 2).trans rfl, (zq5 BK101.out 3).trans rfl, (zq5 BK101.out 4).trans rfl, (zq5 BK101.out 5).trans rfl, (zq5 BK107.out 0).trans rfl, (zq5 BK107.out 1).trans rfl, (zq5 BK107.out 2).trans rfl, (zq5 BK107.out 3).trans rfl, ((HB.out.cell (World.block_lt_of_cell? w _ hw119_0)).trans hw119_0), ((HB.out.cell (World.block_lt_of_cell? w _ hw119_1)).trans hw119_1), ((HB.out.cell (World.block_lt_of_cell? w _ hw119_2)).trans hw119_2), ((HB.out.cell (World.block_lt_of_cell? w _ hw120_0)).trans hw120_0), ((HB.out.cell (World.block_lt_of_cell? w _ hw120_1)).trans hw120_1), ((HB.out.cell (World.block_lt_of_cell? w _ hw120_2)).trans hw120_2)⟩ (fun hHeld => ?_)
           clear hK K
           refine norm_ (a' := ?_) ?_ ?_
           rotate_left
           ·
            show Act.put _ (some 12) _ = _
            simp only [Act.put, List.setIfInBounds_toArray, List.set_cons_zero, List.set_cons_succ, i64_w, i32_w]
            rfl
           refine one_ (i := 13) (N := some 71) #[true, true, true, true, true, true, true, true, true, true, true, true, true, true, false, false, false, true, false, false] rfl rfl (one_of HT_.out (by kernel_rfl)) (by decide) (fun K hK => ?_)
           refine goes_ Try.func22 (by kernel_rfl) rfl #[.agg #[.int .i64 a0_0, .bool a0_1, .int .u64 a0_2, .int .u64 a0_3, .int .u64 a0_4, .int .u64 a0_5], .agg #[.int .u64 x108000_2, .int .u64 x108001_2, .int .u64 x108002_2, .bool x108003_2], .int .u64 ((rd_T28 l1 x8_2).f0), .int .i64 ((rd_T28 l1 x8_2).f1), .int .i64 ((rd_T28 l1 x8_2).f2)] (by rfl) rfl rfl (by (try simp only [List.map_toArray, List.map_cons, List.map_nil]); first | done | rfl | (simp only [List.length_drop, List.length_take]; rfl)) ?_
           with_reducible refine (single_Step.calls k2 a0_0 a0_1 a0_2 a0_3 a0_4 a0_5 x108000_2 x108001_2 x108002_2 x108003_2 ((rd_T28 l1 x8_2).f0) ((rd_T28 l1 x8_2).f1) ((rd_T28 l1 x8_2).f2) t121 t122 t123 t124 t125 _ A25.out).mono ?_
           rintro e w39 ⟨rfl, hb⟩
           refine ⟨_, rfl, ?_⟩
           have n0_ := zq3 (zq10 (g := gb101) (o := .cells #[.int .i64 a0_0, .bool a0_1, .int .u64 a0_2, .int .u64 a0_3, .int .u64 a0_4, .int .u64 a0_5] 24 (0, 0)) (by (with_reducible repeat (first | refine zq0 ?_ _ | refine zq2 ?_ | refine zq1 ?_ _)); exact BK101.out) hb)
           have n1_ := zq3 (zq10 (g := gb107) (o := .cells #[.int .u64 x108000_2, .int .u64 x108001_2, .int .u64 x108002_2, .bool x108003_2] 26 (0, 0)) (by (with_reducible repeat (first | refine zq0 ?_ _ | refine zq2 ?_ | refine zq1 ?_ _)); exact BK107.out) hb)
           have n2_ := zq3 (zq10 (g := gb109) (o := .cells #[.int .u64 t102, .int .u64 t103, .int .u64 t104, .bool t105] 26 (0, 0)) (by (with_reducible repeat (first | refine zq0 ?_ _ | refine zq2 ?_ | refine zq1 ?_ _)); exact BK109.out) hb)
           have n3_ := zq3 (zq10 (g := gb118) (o := .cells #[.int .u64 t113, .int .u64 t114, .int .u64 t115, .bool t116] 26 (0, 0)) (by (with_reducible repeat (first | refine zq0 ?_ _ | refine zq2 ?_ | refine zq1 ?_ _)); exact BK118.out) hb)
           have n4_ := zq3 (zq10 (g := gb126) (o := .cells #[.int .u64 0, .int .u64 0, .int .u64 0, .bool false] 26 (0, 0)) (by (with_reducible repeat (first | refine zq0 ?_ _ | refine zq2 ?_ | refine zq1 ?_ _)); exact BK126.out) hb)
           have n5_ := zq3 (below_step (by repeat (first | (with_reducible first | exact HB.out | apply zq9 | apply zq7 | apply zq8 | refine zq6 ?_ GE101.out | refine zq6 ?_ GE107.out | refine zq6 ?_ GE109.out | refine zq6 ?_ GE118.out | refine zq6 ?_ GE126.out) | exact HB.out)) hb)
           clear BK101
           clear BK107
           clear BK109
           clear BK118
           clear BK126
           clear HB
           have BK101 := n0_
           have BK107 := n1_
           have BK109 := n2_
           have BK118 := n3_
           have BK126 := n4_
           have HB := n5_
           clear n0_ n1_ n2_ n3_ n4_ n5_
           (try clear hb)
           (try clear hb2)
           (try clear hk)
           (try clear hi)
           refine hK.out _ _ ⟨(zq5 BK101.out 0).trans rfl, (zq5 BK101.out 1).trans rfl, (zq5 BK101.out 2).trans rfl, (zq5 BK101.out 3).trans rfl, (zq5 BK101.out 4).trans rfl, (zq5 BK101.out 5).trans rfl, (zq5 BK107.out 0).trans rfl, (zq5 BK107.out 1).trans rfl, (zq5 BK107.out 2).trans rfl, (zq5 BK107.out 3).trans rfl, ((HB.out.cell (World.block_lt_of_cell? w _ hw119_0)).trans hw119_0), ((HB.out.cell (World.block_lt_of_cell? w _ hw119_1)).trans hw119_1), ((HB.out.cell (World.block_lt_of_cell? w _ hw119_2)).trans hw119_2), ((HB.out.cell (World.block_lt_of_cell? w _ hw120_0)).trans hw120_0), ((HB.out.cell (World.block_lt_of_cell? w _ hw120_1)).trans hw120_1), ((HB.out.cell (World.block_lt_of_cell? w _ hw120_2)).trans hw120_2)⟩ (fun hHeld => ?_)
           clear hK K
           refine norm_ (a' := ?_) ?_ ?_
           rotate_left
           ·
            show Act.put _ (some 71) _ = _
            simp only [Act.put, List.setIfInBounds_toArray, List.set_cons_zero, List.set_cons_succ, i64_w, i32_w]
            rfl
           refine pure_ (i := 14) (N := some 57) (v := ?_) (a' := ?_) #[true, true, true, true, true, true, true, true, true, true, true, true, true, true, true, false, false, true, false, false] rfl rfl (any_of HT_.out (by kernel_rfl)) (fun _ _ _ h => h) (Or.inl ⟨by rfl, ?_⟩) ?_ ?_
           rotate_left
           ·
            intro w'
            go_simp
            with_reducible rfl
           rotate_left
           ·
            simp only [Act.put, List.setIfInBounds_toArray, List.set_cons_zero, List.set_cons_succ, i64_w, i32_w]
            rfl
           refine pure_ (i := 15) (N := some 72) (v := ?_) (a' := ?_) #[true, true, true, true, true, true, true, true, true, true, true, true, true, true, true, true, false, true, false, false] rfl rfl (any_of HT_.out (by kernel_rfl)) (fun _ _ _ h => h) (Or.inl ⟨by rfl, ?_⟩) ?_ ?_
           rotate_left
           ·
            intro w'
            go_simp
            with_reducible rfl
           rotate_left
           ·
            simp only [Act.put, List.setIfInBounds_toArray, List.set_cons_zero, List.set_cons_succ, i64_w, i32_w]
            rfl
           refine pure_ (i := 16) (N := some 73) (v := ?_) (a' := ?_) #[true, true, true, true, true, true, true, true, true, true, true, true, true, true, true, true, true, true, false, false] rfl rfl (any_of HT_.out (by kernel_rfl)) (fun _ _ _ h => h) (Or.inl ⟨by rfl, ?_⟩) ?_ ?_
           rotate_left
           ·
            intro w'
            go_simp
            with_reducible rfl
           rotate_left
           ·
            simp only [Act.put, List.setIfInBounds_toArray, List.set_cons_zero, List.set_cons_succ, i64_w, i32_w]
            rfl
           exact norm_ (by simp only [putAll, Act.put, List.setIfInBounds_toArray, List.set_cons_zero, List.set_cons_succ]) (hCont (gb126) _ ⟨hHeld, (by (with_reducible repeat (first | refine zq0 ?_ _ | refine zq2 ?_ | refine zq1 ?_ _)); exact BK101.out), (by (with_reducible repeat (first | refine zq0 ?_ _ | refine zq2 ?_ | refine zq1 ?_ _)); exact BK107.out), (by (with_reducible repeat (first | refine zq0 ?_ _ | refine zq2 ?_ | refine zq1 ?_ _)); exact BK109.out), (by (with_reducible repeat (first | refine zq0 ?_ _ | refine zq2 ?_ | refine zq1 ?_ _)); exact BK118.out), (by (with_reducible repeat (first | refine zq0 ?_ _ | refine zq2 ?_ | refine zq1 ?_ _)); exact BK126.out), GW126.out, GE126.out, NB101_126.out, NB126_101.out, NB107_126.out, NB126_107.out, NB109_126.out, NB126_109.out, NB118_126.out, NB126_118.out, (by repeat (first | (with_reducible first | exact HB.out | apply zq9 | apply zq7 | apply zq8 | refine zq6 ?_ GE101.out | refine zq6 ?_ GE107.out | refine zq6 ?_ GE109.out | refine zq6 ?_ GE118.out | refine zq6 ?_ GE126.out) | exact HB.out))⟩)
         rintro gb126 w40 ⟨hS_, h0_, h1_, h2_, h3_, h4_, h5_, h6_, h7_, h8_, h9_, h10_, h11_, h12_, h13_, h14_, h15_⟩
         have n0_ : Aside0 (w40.heap[gb101]? = some (.cells #[.int .i64 a0_0, .bool a0_1, .int .u64 a0_2, .int .u64 a0_3, .int .u64 a0_4, .int .u64 a0_5] 24 (0, 0))) := ⟨h0_⟩
         have n1_ : Aside0 (w40.heap[gb107]? = some (.cells #[.int .u64 x108000_2, .int .u64 x108001_2, .int .u64 x108002_2, .bool x108003_2] 26 (0, 0))) := ⟨h1_⟩
         have n2_ : Aside0 (w40.heap[gb109]? = some (.cells #[.int .u64 t102, .int .u64 t103, .int .u64 t104, .bool t105] 26 (0, 0))) := ⟨h2_⟩
         have n3_ : Aside0 (w40.heap[gb118]? = some (.cells #[.int .u64 t113, .int .u64 t114, .int .u64 t115, .bool t116] 26 (0, 0))) := ⟨h3_⟩
         have n4_ : Aside0 (w40.heap[gb126]? = some (.cells #[.int .u64 0, .int .u64 0, .int .u64 0, .bool false] 26 (0, 0))) := ⟨h4_⟩
         have n5_ : Aside0 (w.heap.size ≤ gb126) := ⟨h5_⟩
         have n6_ : Aside0 (w.heap.size ≤ gb126) := ⟨h6_⟩
         have n7_ : Aside0 (gb101 ≠ gb126) := ⟨h7_⟩
         have n8_ : Aside0 (gb126 ≠ gb101) := ⟨h8_⟩
         have n9_ : Aside0 (gb107 ≠ gb126) := ⟨h9_⟩
         have n10_ : Aside0 (gb126 ≠ gb107) := ⟨h10_⟩
         have n11_ : Aside0 (gb109 ≠ gb126) := ⟨h11_⟩
         have n12_ : Aside0 (gb126 ≠ gb109) := ⟨h12_⟩
         have n13_ : Aside0 (gb118 ≠ gb126) := ⟨h13_⟩
         have n14_ : Aside0 (gb126 ≠ gb118) := ⟨h14_⟩
         have n15_ : Aside0 (Below w.heap.size w w40) := ⟨h15_⟩
         clear BK101
         clear BK107
         clear BK109
         clear BK118
         clear HB
         clear h0_ h1_ h2_ h3_ h4_ h5_ h6_ h7_ h8_ h9_ h10_ h11_ h12_ h13_ h14_ h15_
         have BK101 := n0_
         have BK107 := n1_
         have BK109 := n2_
         have BK118 := n3_
         have BK126 := n4_
         have GW126 := n5_
         have GE126 := n6_
         have NB101_126 := n7_
         have NB126_101 := n8_
         have NB107_126 := n9_
         have NB126_107 := n10_
         have NB109_126 := n11_
         have NB126_109 := n12_
         have NB118_126 := n13_
         have NB126_118 := n14_
         have HB := n15_
         clear n0_ n1_ n2_ n3_ n4_ n5_ n6_ n7_ n8_ n9_ n10_ n11_ n12_ n13_ n14_ n15_
         have hHeld : w40.cell? ⟨gb101, 0, none⟩ = some (.int .i64 a0_0) ∧ w40.cell? ⟨gb101, 1, none⟩ = some (.bool a0_1) ∧ w40.cell? ⟨gb101, 2, none⟩ = some (.int .u64 a0_2) ∧ w40.cell? ⟨gb101, 3, none⟩ = some (.int .u64 a0_3) ∧ w40.cell? ⟨gb101, 4, none⟩ = some (.int .u64 a0_4) ∧ w40.cell? ⟨gb101, 5, none⟩ = some (.int .u64 a0_5) ∧ w40.cell? ⟨gb107, 0, none⟩ = some (.int .u64 x108000_2) ∧ w40.cell? ⟨gb107, 1, none⟩ = some (.int .u64 x108001_2) ∧ w40.cell? ⟨gb107, 2, none⟩ = some (.int .u64 x108002_2) ∧ w40.cell? ⟨gb107, 3, none⟩ = some (.bool x108003_2) ∧ w40.cell? (ad111.add ((x8_2).toNat * 3)) = some (.int .u64 ((rd_T28 l1 x8_2).f0)) ∧ w40.cell? ⟨(ad111.add ((x8_2).toNat * 3)).block, (ad111.add ((x8_2).toNat * 3)).off + 1, none⟩ = some (.int .i64 ((rd_T28 l1 x8_2).f1)) ∧ w40.cell? ⟨(ad111.add ((x8_2).toNat * 3)).block, (ad111.add ((x8_2).toNat * 3)).off + 2, none⟩ = some (.int .i64 ((rd_T28 l1 x8_2).f2)) ∧ w40.cell? (ad111.add ((x8_2).toNat * 3)) = some (.int .u64 ((rd_T28 l1 x8_2).f0)) ∧ w40.cell? ⟨(ad111.add ((x8_2).toNat * 3)).block, (ad111.add ((x8_2).toNat * 3)).off + 1, none⟩ = some (.int .i64 ((rd_T28 l1 x8_2).f1)) ∧ w40.cell? ⟨(ad111.add ((x8_2).toNat * 3)).block, (ad111.add ((x8_2).toNat * 3)).off + 2, none⟩ = some (.int .i64 ((rd_T28 l1 x8_2).f2)) := hS_
         refine norm_ (a' := ?_) ?_ ?_
         rotate_left
         ·
          simp only [putAll, Act.put, List.setIfInBounds_toArray, List.set_cons_zero, List.set_cons_succ]
          rfl
         refine one_ (i := 18) (N := none) #[true, true, true, true, true, true, true, true, true, true, true, true, true, true, true, true, true, true, true, false] rfl rfl (one_of HT_.out (by kernel_rfl)) (by decide) (fun K hK => ?_)
         have hs41 : w40.cell? ⟨gb126, 0, none⟩ = some (.int .u64 0) := (zq5 BK126.out 0).trans rfl
         have hfs41 := zq4 BK126.out 0
         have hns41_0 := NB101_126.out
         have hns41_1 := NB107_126.out
         have hns41_2 := NB109_126.out
         have hns41_3 := NB118_126.out
         have hms41_0 := NB126_101.out
         have hms41_1 := NB126_107.out
         have hms41_2 := NB126_109.out
         have hms41_3 := NB126_118.out
         have hs42 : w40.cell? ⟨gb126, 1, none⟩ = some (.int .u64 0) := (zq5 BK126.out 1).trans rfl
         have hfs42 := zq4 BK126.out 1
         have hns42_0 := NB101_126.out
         have hns42_1 := NB107_126.out
         have hns42_2 := NB109_126.out
         have hns42_3 := NB118_126.out
         have hms42_0 := NB126_101.out
         have hms42_1 := NB126_107.out
         have hms42_2 := NB126_109.out
         have hms42_3 := NB126_118.out
         have hs43 : w40.cell? ⟨gb126, 2, none⟩ = some (.int .u64 0) := (zq5 BK126.out 2).trans rfl
         have hfs43 := zq4 BK126.out 2
         have hns43_0 := NB101_126.out
         have hns43_1 := NB107_126.out
         have hns43_2 := NB109_126.out
         have hns43_3 := NB118_126.out
         have hms43_0 := NB126_101.out
         have hms43_1 := NB126_107.out
         have hms43_2 := NB126_109.out
         have hms43_3 := NB126_118.out
         have hs44 : w40.cell? ⟨gb126, 3, none⟩ = some (.bool false) := (zq5 BK126.out 3).trans rfl
         have hfs44 := zq4 BK126.out 3
         have hns44_0 := NB101_126.out
         have hns44_1 := NB107_126.out
         have hns44_2 := NB109_126.out
         have hns44_3 := NB118_126.out
         have hms44_0 := NB126_101.out
         have hms44_1 := NB126_107.out
         have hms44_2 := NB126_109.out
         have hms44_3 := NB126_118.out
         refine skip_ (w1 := ?_) (by rfl) rfl ?_ ?_
         rotate_left
         ·
          go_simp
          rfl
         refine hK.out _ _ ⟨((cell_far (p := ⟨gb126, _, none⟩) NB101_126.out _).trans (((cell_far (p := ⟨gb126, _, none⟩) NB101_126.out _).trans (((cell_far (p := ⟨gb126, _, none⟩) NB101_126.out _).trans (((cell_far (p := ⟨gb126, _, none⟩) NB101_126.out _).trans (hHeld.1)))))))), ((cell_far (p := ⟨gb126, _, none⟩) NB101_126.out _).trans (((cell_far (p := ⟨gb126, _, none⟩) NB101_126.out _).trans (((cell_far (p := ⟨gb126, _, none⟩) NB101_126.out _).trans (((cell_far (p := ⟨gb126, _, none⟩) NB101_126.out _).trans (hHeld.2.1)))))))), ((cell_far (p := ⟨gb126, _, none⟩) NB101_126.out _).trans (((cell_far (p := ⟨gb126, _, none⟩) NB101_126.out _).trans (((cell_far (p := ⟨gb126, _, none⟩) NB101_126.out _).trans (((cell_far (p := ⟨gb126, _, none⟩) NB101_126.out _).trans (hHeld.2.2.1)))))))), ((cell_far (p := ⟨gb126, _, none⟩) NB101_126.out _).trans (((cell_far (p := ⟨gb126, _, none⟩) NB101_126.out _).trans (((cell_far (p := ⟨gb126, _, none⟩) NB101_126.out _).trans (((cell_far (p := ⟨gb126, _, none⟩) NB101_126.out _).trans (hHeld.2.2.2.1)))))))), ((cell_far (p := ⟨gb126, _, none⟩) NB101_126.out _).trans (((cell_far (p := ⟨gb126, _, none⟩) NB101_126.out _).trans (((cell_far (p := ⟨gb126, _, none⟩) NB101_126.out _).trans (((cell_far (p := ⟨gb126, _, none⟩) NB101_126.out _).trans (hHeld.2.2.2.2.1)))))))), ((cell_far (p := ⟨gb126, _, none⟩) NB101_126.out _).trans (((cell_far (p := ⟨gb126, _, none⟩) NB101_126.out _).trans (((cell_far (p := ⟨gb126, _, none⟩) NB101_126.out _).trans (((cell_far (p := ⟨gb126, _, none⟩) NB101_126.out _).trans (hHeld.2.2.2.2.2.1)))))))), ((cell_far (p := ⟨gb126, _, none⟩) NB107_126.out _).trans (((cell_far (p := ⟨gb126, _, none⟩) NB107_126.out _).trans (((cell_far (p := ⟨gb126, _, none⟩) NB107_126.out _).trans (((cell_far (p := ⟨gb126, _, none⟩) NB107_126.out _).trans (hHeld.2.2.2.2.2.2.1)))))))), ((cell_far (p := ⟨gb126, _, none⟩) NB107_126.out _).trans (((cell_far (p := ⟨gb126, _, none⟩) NB107_126.out _).trans (((cell_far (p := ⟨gb126, _, none⟩) NB107_126.out _).trans (((cell_far (p := ⟨gb126, _, none⟩) NB107_126.out _).trans (hHeld.2.2.2.2.2.2.2.1)))))))), ((cell_far (p := ⟨gb126, _, none⟩) NB107_126.out _).trans (((cell_far (p := ⟨gb126, _, none⟩) NB107_126.out _).trans (((cell_far (p := ⟨gb126, _, none⟩) NB107_126.out _).trans (((cell_far (p := ⟨gb126, _, none⟩) NB107_126.out _).trans (hHeld.2.2.2.2.2.2.2.2.1)))))))), ((cell_far (p := ⟨gb126, _, none⟩) NB107_126.out _).trans (((cell_far (p := ⟨gb126, _, none⟩) NB107_126.out _).trans (((cell_far (p := ⟨gb126, _, none⟩) NB107_126.out _).trans (((cell_far (p := ⟨gb126, _, none⟩) NB107_126.out _).trans (hHeld.2.2.2.2.2.2.2.2.2.1)))))))), ((cell_far (p := ⟨gb126, _, none⟩) (by first | exact Nat.ne_of_lt (Nat.lt_of_lt_of_le (by have := World.block_lt_of_cell? _ _ hw119_0; first | rwa [add_block] at this | exact this) GW126.out) | (rw [add_block]; exact Nat.ne_of_lt (Nat.lt_of_lt_of_le (by have := World.block_lt_of_cell? _ _ hw119_0; first | rwa [add_block] at this | exact this) GW126.out)) | (show (Addr.add _ _).block ≠ _; rw [add_block]; exact Nat.ne_of_lt (Nat.lt_of_lt_of_le (by have := World.block_lt_of_cell? _ _ hw119_0; first | rwa [add_block] at this | exact this) GW126.out)) | (dsimp only; exact Nat.ne_of_lt (Nat.lt_of_lt_of_le (by have := World.block_lt_of_cell? _ _ hw119_0; first | rwa [add_block] at this | exact this) GW126.out))) _).trans (((cell_far (p := ⟨gb126, _, none⟩) (by first | exact Nat.ne_of_lt (Nat.lt_of_lt_of_le (by have := World.block_lt_of_cell? _ _ hw119_0; first | rwa [add_block] at this | exact this) GW126.out) | (rw [add_block]; exact Nat.ne_of_lt (Nat.lt_of_lt_of_le (by have := World.block_lt_of_cell? _ _ hw119_0; first | rwa [add_block] at this | exact this) GW126.out)) | (show (Addr.add _ _).block ≠ _; rw [add_block]; exact Nat.ne_of_lt (Nat.lt_of_lt_of_le (by have := World.block_lt_of_cell? _ _ hw119_0; first | rwa [add_block] at this | exact this) GW126.out)) | (dsimp only; exact Nat.ne_of_lt (Nat.lt_of_lt_of_le (by have := World.block_lt_of_cell? _ _ hw119_0; first | rwa [add_block] at this | exact this) GW126.out))) _).trans (((cell_far (p := ⟨gb126, _, none⟩) (by first | exact Nat.ne_of_lt (Nat.lt_of_lt_of_le (by have := World.block_lt_of_cell? _ _ hw119_0; first | rwa [add_block] at this | exact this) GW126.out) | (rw [add_block]; exact Nat.ne_of_lt (Nat.lt_of_lt_of_le (by have := World.block_lt_of_cell? _ _ hw119_0; first | rwa [add_block] at this | exact this) GW126.out)) | (show (Addr.add _ _).block ≠ _; rw [add_block]; exact Nat.ne_of_lt (Nat.lt_of_lt_of_le (by have := World.block_lt_of_cell? _ _ hw119_0; first | rwa [add_block] at this | exact this) GW126.out)) | (dsimp only; exact Nat.ne_of_lt (Nat.lt_of_lt_of_le (by have := World.block_lt_of_cell? _ _ hw119_0; first | rwa [add_block] at this | exact this) GW126.out))) _).trans (((cell_far (p := ⟨gb126, _, none⟩) (by first | exact Nat.ne_of_lt (Nat.lt_of_lt_of_le (by have := World.block_lt_of_cell? _ _ hw119_0; first | rwa [add_block] at this | exact this) GW126.out) | (rw [add_block]; exact Nat.ne_of_lt (Nat.lt_of_lt_of_le (by have := World.block_lt_of_cell? _ _ hw119_0; first | rwa [add_block] at this | exact this) GW126.out)) | (show (Addr.add _ _).block ≠ _; rw [add_block]; exact Nat.ne_of_lt (Nat.lt_of_lt_of_le (by have := World.block_lt_of_cell? _ _ hw119_0; first | rwa [add_block] at this | exact this) GW126.out)) | (dsimp only; exact Nat.ne_of_lt (Nat.lt_of_lt_of_le (by have := World.block_lt_of_cell? _ _ hw119_0; first | rwa [add_block] at this | exact this) GW126.out))) _).trans (hHeld.2.2.2.2.2.2.2.2.2.2.1)))))))), ((cell_far (p := ⟨gb126, _, none⟩) (by first | exact Nat.ne_of_lt (Nat.lt_of_lt_of_le (by have := World.block_lt_of_cell? _ _ hw119_1; first | rwa [add_block] at this | exact this) GW126.out) | (rw [add_block]; exact Nat.ne_of_lt (Nat.lt_of_lt_of_le (by have := World.block_lt_of_cell? _ _ hw119_1; first | rwa [add_block] at this | exact this) GW126.out)) | (show (Addr.add _ _).block ≠ _; rw [add_block]; exact Nat.ne_of_lt (Nat.lt_of_lt_of_le (by have := World.block_lt_of_cell? _ _ hw119_1; first | rwa [add_block] at this | exact this) GW126.out)) | (dsimp only; exact Nat.ne_of_lt (Nat.lt_of_lt_of_le (by have := World.block_lt_of_cell? _ _ hw119_1; first | rwa [add_block] at this | exact this) GW126.out))) _).trans (((cell_far (p := ⟨gb126, _, none⟩) (by first | exact Nat.ne_of_lt (Nat.lt_of_lt_of_le (by have := World.block_lt_of_cell? _ _ hw119_1; first | rwa [add_block] at this | exact this) GW126.out) | (rw [add_block]; exact Nat.ne_of_lt (Nat.lt_of_lt_of_le (by have := World.block_lt_of_cell? _ _ hw119_1; first | rwa [add_block] at this | exact this) GW126.out)) | (show (Addr.add _ _).block ≠ _; rw [add_block]; exact Nat.ne_of_lt (Nat.lt_of_lt_of_le (by have := World.block_lt_of_cell? _ _ hw119_1; first | rwa [add_block] at this | exact this) GW126.out)) | (dsimp only; exact Nat.ne_of_lt (Nat.lt_of_lt_of_le (by have := World.block_lt_of_cell? _ _ hw119_1; first | rwa [add_block] at this | exact this) GW126.out))) _).trans (((cell_far (p := ⟨gb126, _, none⟩) (by first | exact Nat.ne_of_lt (Nat.lt_of_lt_of_le (by have := World.block_lt_of_cell? _ _ hw119_1; first | rwa [add_block] at this | exact this) GW126.out) | (rw [add_block]; exact Nat.ne_of_lt (Nat.lt_of_lt_of_le (by have := World.block_lt_of_cell? _ _ hw119_1; first | rwa [add_block] at this | exact this) GW126.out)) | (show (Addr.add _ _).block ≠ _; rw [add_block]; exact Nat.ne_of_lt (Nat.lt_of_lt_of_le (by have := World.block_lt_of_cell? _ _ hw119_1; first | rwa [add_block] at this | exact this) GW126.out)) | (dsimp only; exact Nat.ne_of_lt (Nat.lt_of_lt_of_le (by have := World.block_lt_of_cell? _ _ hw119_1; first | rwa [add_block] at this | exact this) GW126.out))) _).trans (((cell_far (p := ⟨gb126, _, none⟩) (by first | exact Nat.ne_of_lt (Nat.lt_of_lt_of_le (by have := World.block_lt_of_cell? _ _ hw119_1; first | rwa [add_block] at this | exact this) GW126.out) | (rw [add_block]; exact Nat.ne_of_lt (Nat.lt_of_lt_of_le (by have := World.block_lt_of_cell? _ _ hw119_1; first | rwa [add_block] at this | exact this) GW126.out)) | (show (Addr.add _ _).block ≠ _; rw [add_block]; exact Nat.ne_of_lt (Nat.lt_of_lt_of_le (by have := World.block_lt_of_cell? _ _ hw119_1; first | rwa [add_block] at this | exact this) GW126.out)) | (dsimp only; exact Nat.ne_of_lt (Nat.lt_of_lt_of_le (by have := World.block_lt_of_cell? _ _ hw119_1; first | rwa [add_block] at this | exact this) GW126.out))) _).trans (hHeld.2.2.2.2.2.2.2.2.2.2.2.1)))))))), ((cell_far (p := ⟨gb126, _, none⟩) (by first | exact Nat.ne_of_lt (Nat.lt_of_lt_of_le (by have := World.block_lt_of_cell? _ _ hw119_2; first | rwa [add_block] at this | exact this) GW126.out) | (rw [add_block]; exact Nat.ne_of_lt (Nat.lt_of_lt_of_le (by have := World.block_lt_of_cell? _ _ hw119_2; first | rwa [add_block] at this | exact this) GW126.out)) | (show (Addr.add _ _).block ≠ _; rw [add_block]; exact Nat.ne_of_lt (Nat.lt_of_lt_of_le (by have := World.block_lt_of_cell? _ _ hw119_2; first | rwa [add_block] at this | exact this) GW126.out)) | (dsimp only; exact Nat.ne_of_lt (Nat.lt_of_lt_of_le (by have := World.block_lt_of_cell? _ _ hw119_2; first | rwa [add_block] at this | exact this) GW126.out))) _).trans (((cell_far (p := ⟨gb126, _, none⟩) (by first | exact Nat.ne_of_lt (Nat.lt_of_lt_of_le (by have := World.block_lt_of_cell? _ _ hw119_2; first | rwa [add_block] at this | exact this) GW126.out) | (rw [add_block]; exact Nat.ne_of_lt (Nat.lt_of_lt_of_le (by have := World.block_lt_of_cell? _ _ hw119_2; first | rwa [add_block] at this | exact this) GW126.out)) | (show (Addr.add _ _).block ≠ _; rw [add_block]; exact Nat.ne_of_lt (Nat.lt_of_lt_of_le (by have := World.block_lt_of_cell? _ _ hw119_2; first | rwa [add_block] at this | exact this) GW126.out)) | (dsimp only; exact Nat.ne_of_lt (Nat.lt_of_lt_of_le (by have := World.block_lt_of_cell? _ _ hw119_2; first | rwa [add_block] at this | exact this) GW126.out))) _).trans (((cell_far (p := ⟨gb126, _, none⟩) (by first | exact Nat.ne_of_lt (Nat.lt_of_lt_of_le (by have := World.block_lt_of_cell? _ _ hw119_2; first | rwa [add_block] at this | exact this) GW126.out) | (rw [add_block]; exact Nat.ne_of_lt (Nat.lt_of_lt_of_le (by have := World.block_lt_of_cell? _ _ hw119_2; first | rwa [add_block] at this | exact this) GW126.out)) | (show (Addr.add _ _).block ≠ _; rw [add_block]; exact Nat.ne_of_lt (Nat.lt_of_lt_of_le (by have := World.block_lt_of_cell? _ _ hw119_2; first | rwa [add_block] at this | exact this) GW126.out)) | (dsimp only; exact Nat.ne_of_lt (Nat.lt_of_lt_of_le (by have := World.block_lt_of_cell? _ _ hw119_2; first | rwa [add_block] at this | exact this) GW126.out))) _).trans (((cell_far (p := ⟨gb126, _, none⟩) (by first | exact Nat.ne_of_lt (Nat.lt_of_lt_of_le (by have := World.block_lt_of_cell? _ _ hw119_2; first | rwa [add_block] at this | exact this) GW126.out) | (rw [add_block]; exact Nat.ne_of_lt (Nat.lt_of_lt_of_le (by have := World.block_lt_of_cell? _ _ hw119_2; first | rwa [add_block] at this | exact this) GW126.out)) | (show (Addr.add _ _).block ≠ _; rw [add_block]; exact Nat.ne_of_lt (Nat.lt_of_lt_of_le (by have := World.block_lt_of_cell? _ _ hw119_2; first | rwa [add_block] at this | exact this) GW126.out)) | (dsimp only; exact Nat.ne_of_lt (Nat.lt_of_lt_of_le (by have := World.block_lt_of_cell? _ _ hw119_2; first | rwa [add_block] at this | exact this) GW126.out))) _).trans (hHeld.2.2.2.2.2.2.2.2.2.2.2.2.1)))))))), ((cell_far (p := ⟨gb126, _, none⟩) (by first | exact Nat.ne_of_lt (Nat.lt_of_lt_of_le (by have := World.block_lt_of_cell? _ _ hw120_0; first | rwa [add_block] at this | exact this) GW126.out) | (rw [add_block]; exact Nat.ne_of_lt (Nat.lt_of_lt_of_le (by have := World.block_lt_of_cell? _ _ hw120_0; first | rwa [add_block] at this | exact this) GW126.out)) | (show (Addr.add _ _).block ≠ _; rw [add_block]; exact Nat.ne_of_lt (Nat.lt_of_lt_of_le (by have := World.block_lt_of_cell? _ _ hw120_0; first | rwa [add_block] at this | exact this) GW126.out)) | (dsimp only; exact Nat.ne_of_lt (Nat.lt_of_lt_of_le (by have := World.block_lt_of_cell? _ _ hw120_0; first | rwa [add_block] at this | exact this) GW126.out))) _).trans (((cell_far (p := ⟨gb126, _, none⟩) (by first | exact Nat.ne_of_lt (Nat.lt_of_lt_of_le (by have := World.block_lt_of_cell? _ _ hw120_0; first | rwa [add_block] at this | exact this) GW126.out) | (rw [add_block]; exact Nat.ne_of_lt (Nat.lt_of_lt_of_le (by have := World.block_lt_of_cell? _ _ hw120_0; first | rwa [add_block] at this | exact this) GW126.out)) | (show (Addr.add _ _).block ≠ _; rw [add_block]; exact Nat.ne_of_lt (Nat.lt_of_lt_of_le (by have := World.block_lt_of_cell? _ _ hw120_0; first | rwa [add_block] at this | exact this) GW126.out)) | (dsimp only; exact Nat.ne_of_lt (Nat.lt_of_lt_of_le (by have := World.block_lt_of_cell? _ _ hw120_0; first | rwa [add_block] at this | exact this) GW126.out))) _).trans (((cell_far (p := ⟨gb126, _, none⟩) (by first | exact Nat.ne_of_lt (Nat.lt_of_lt_of_le (by have := World.block_lt_of_cell? _ _ hw120_0; first | rwa [add_block] at this | exact this) GW126.out) | (rw [add_block]; exact Nat.ne_of_lt (Nat.lt_of_lt_of_le (by have := World.block_lt_of_cell? _ _ hw120_0; first | rwa [add_block] at this | exact this) GW126.out)) | (show (Addr.add _ _).block ≠ _; rw [add_block]; exact Nat.ne_of_lt (Nat.lt_of_lt_of_le (by have := World.block_lt_of_cell? _ _ hw120_0; first | rwa [add_block] at this | exact this) GW126.out)) | (dsimp only; exact Nat.ne_of_lt (Nat.lt_of_lt_of_le (by have := World.block_lt_of_cell? _ _ hw120_0; first | rwa [add_block] at this | exact this) GW126.out))) _).trans (((cell_far (p := ⟨gb126, _, none⟩) (by first | exact Nat.ne_of_lt (Nat.lt_of_lt_of_le (by have := World.block_lt_of_cell? _ _ hw120_0; first | rwa [add_block] at this | exact this) GW126.out) | (rw [add_block]; exact Nat.ne_of_lt (Nat.lt_of_lt_of_le (by have := World.block_lt_of_cell? _ _ hw120_0; first | rwa [add_block] at this | exact this) GW126.out)) | (show (Addr.add _ _).block ≠ _; rw [add_block]; exact Nat.ne_of_lt (Nat.lt_of_lt_of_le (by have := World.block_lt_of_cell? _ _ hw120_0; first | rwa [add_block] at this | exact this) GW126.out)) | (dsimp only; exact Nat.ne_of_lt (Nat.lt_of_lt_of_le (by have := World.block_lt_of_cell? _ _ hw120_0; first | rwa [add_block] at this | exact this) GW126.out))) _).trans (hHeld.2.2.2.2.2.2.2.2.2.2.2.2.2.1)))))))), ((cell_far (p := ⟨gb126, _, none⟩) (by first | exact Nat.ne_of_lt (Nat.lt_of_lt_of_le (by have := World.block_lt_of_cell? _ _ hw120_1; first | rwa [add_block] at this | exact this) GW126.out) | (rw [add_block]; exact Nat.ne_of_lt (Nat.lt_of_lt_of_le (by have := World.block_lt_of_cell? _ _ hw120_1; first | rwa [add_block] at this | exact this) GW126.out)) | (show (Addr.add _ _).block ≠ _; rw [add_block]; exact Nat.ne_of_lt (Nat.lt_of_lt_of_le (by have := World.block_lt_of_cell? _ _ hw120_1; first | rwa [add_block] at this | exact this) GW126.out)) | (dsimp only; exact Nat.ne_of_lt (Nat.lt_of_lt_of_le (by have := World.block_lt_of_cell? _ _ hw120_1; first | rwa [add_block] at this | exact this) GW126.out))) _).trans (((cell_far (p := ⟨gb126, _, none⟩) (by first | exact Nat.ne_of_lt (Nat.lt_of_lt_of_le (by have := World.block_lt_of_cell? _ _ hw120_1; first | rwa [add_block] at this | exact this) GW126.out) | (rw [add_block]; exact Nat.ne_of_lt (Nat.lt_of_lt_of_le (by have := World.block_lt_of_cell? _ _ hw120_1; first | rwa [add_block] at this | exact this) GW126.out)) | (show (Addr.add _ _).block ≠ _; rw [add_block]; exact Nat.ne_of_lt (Nat.lt_of_lt_of_le (by have := World.block_lt_of_cell? _ _ hw120_1; first | rwa [add_block] at this | exact this) GW126.out)) | (dsimp only; exact Nat.ne_of_lt (Nat.lt_of_lt_of_le (by have := World.block_lt_of_cell? _ _ hw120_1; first | rwa [add_block] at this | exact this) GW126.out))) _).trans (((cell_far (p := ⟨gb126, _, none⟩) (by first | exact Nat.ne_of_lt (Nat.lt_of_lt_of_le (by have := World.block_lt_of_cell? _ _ hw120_1; first | rwa [add_block] at this | exact this) GW126.out) | (rw [add_block]; exact Nat.ne_of_lt (Nat.lt_of_lt_of_le (by have := World.block_lt_of_cell? _ _ hw120_1; first | rwa [add_block] at this | exact this) GW126.out)) | (show (Addr.add _ _).block ≠ _; rw [add_block]; exact Nat.ne_of_lt (Nat.lt_of_lt_of_le (by have := World.block_lt_of_cell? _ _ hw120_1; first | rwa [add_block] at this | exact this) GW126.out)) | (dsimp only; exact Nat.ne_of_lt (Nat.lt_of_lt_of_le (by have := World.block_lt_of_cell? _ _ hw120_1; first | rwa [add_block] at this | exact this) GW126.out))) _).trans (((cell_far (p := ⟨gb126, _, none⟩) (by first | exact Nat.ne_of_lt (Nat.lt_of_lt_of_le (by have := World.block_lt_of_cell? _ _ hw120_1; first | rwa [add_block] at this | exact this) GW126.out) | (rw [add_block]; exact Nat.ne_of_lt (Nat.lt_of_lt_of_le (by have := World.block_lt_of_cell? _ _ hw120_1; first | rwa [add_block] at this | exact this) GW126.out)) | (show (Addr.add _ _).block ≠ _; rw [add_block]; exact Nat.ne_of_lt (Nat.lt_of_lt_of_le (by have := World.block_lt_of_cell? _ _ hw120_1; first | rwa [add_block] at this | exact this) GW126.out)) | (dsimp only; exact Nat.ne_of_lt (Nat.lt_of_lt_of_le (by have := World.block_lt_of_cell? _ _ hw120_1; first | rwa [add_block] at this | exact this) GW126.out))) _).trans (hHeld.2.2.2.2.2.2.2.2.2.2.2.2.2.2.1)))))))), ((cell_far (p := ⟨gb126, _, none⟩) (by first | exact Nat.ne_of_lt (Nat.lt_of_lt_of_le (by have := World.block_lt_of_cell? _ _ hw120_2; first | rwa [add_block] at this | exact this) GW126.out) | (rw [add_block]; exact Nat.ne_of_lt (Nat.lt_of_lt_of_le (by have := World.block_lt_of_cell? _ _ hw120_2; first | rwa [add_block] at this | exact this) GW126.out)) | (show (Addr.add _ _).block ≠ _; rw [add_block]; exact Nat.ne_of_lt (Nat.lt_of_lt_of_le (by have := World.block_lt_of_cell? _ _ hw120_2; first | rwa [add_block] at this | exact this) GW126.out)) | (dsimp only; exact Nat.ne_of_lt (Nat.lt_of_lt_of_le (by have := World.block_lt_of_cell? _ _ hw120_2; first | rwa [add_block] at this | exact this) GW126.out))) _).trans (((cell_far (p := ⟨gb126, _, none⟩) (by first | exact Nat.ne_of_lt (Nat.lt_of_lt_of_le (by have := World.block_lt_of_cell? _ _ hw120_2; first | rwa [add_block] at this | exact this) GW126.out) | (rw [add_block]; exact Nat.ne_of_lt (Nat.lt_of_lt_of_le (by have := World.block_lt_of_cell? _ _ hw120_2; first | rwa [add_block] at this | exact this) GW126.out)) | (show (Addr.add _ _).block ≠ _; rw [add_block]; exact Nat.ne_of_lt (Nat.lt_of_lt_of_le (by have := World.block_lt_of_cell? _ _ hw120_2; first | rwa [add_block] at this | exact this) GW126.out)) | (dsimp only; exact Nat.ne_of_lt (Nat.lt_of_lt_of_le (by have := World.block_lt_of_cell? _ _ hw120_2; first | rwa [add_block] at this | exact this) GW126.out))) _).trans (((cell_far (p := ⟨gb126, _, none⟩) (by first | exact Nat.ne_of_lt (Nat.lt_of_lt_of_le (by have := World.block_lt_of_cell? _ _ hw120_2; first | rwa [add_block] at this | exact this) GW126.out) | (rw [add_block]; exact Nat.ne_of_lt (Nat.lt_of_lt_of_le (by have := World.block_lt_of_cell? _ _ hw120_2; first | rwa [add_block] at this | exact this) GW126.out)) | (show (Addr.add _ _).block ≠ _; rw [add_block]; exact Nat.ne_of_lt (Nat.lt_of_lt_of_le (by have := World.block_lt_of_cell? _ _ hw120_2; first | rwa [add_block] at this | exact this) GW126.out)) | (dsimp only; exact Nat.ne_of_lt (Nat.lt_of_lt_of_le (by have := World.block_lt_of_cell? _ _ hw120_2; first | rwa [add_block] at this | exact this) GW126.out))) _).trans (((cell_far (p := ⟨gb126, _, none⟩) (by first | exact Nat.ne_of_lt (Nat.lt_of_lt_of_le (by have := World.block_lt_of_cell? _ _ hw120_2; first | rwa [add_block] at this | exact this) GW126.out) | (rw [add_block]; exact Nat.ne_of_lt (Nat.lt_of_lt_of_le (by have := World.block_lt_of_cell? _ _ hw120_2; first | rwa [add_block] at this | exact this) GW126.out)) | (show (Addr.add _ _).block ≠ _; rw [add_block]; exact Nat.ne_of_lt (Nat.lt_of_lt_of_le (by have := World.block_lt_of_cell? _ _ hw120_2; first | rwa [add_block] at this | exact this) GW126.out)) | (dsimp only; exact Nat.ne_of_lt (Nat.lt_of_lt_of_le (by have := World.block_lt_of_cell? _ _ hw120_2; first | rwa [add_block] at this | exact this) GW126.out))) _).trans (hHeld.2.2.2.2.2.2.2.2.2.2.2.2.2.2.2))))))))⟩ (fun hHeld => ?_)
         clear hK K
         refine pure_ (i := 19) (N := some 13) (v := ?_) (a' := ?_) #[true, true, true, true, true, true, true, true, true, true, true, true, true, true, true, true, true, true, true, true] rfl rfl (any_of HT_.out (by kernel_rfl)) (fun _ _ _ h => h) (Or.inl ⟨by rfl, ?_⟩) ?_ ?_
         rotate_left
         ·
          intro w'
          go_simp
          with_reducible rfl
         rotate_left
         ·
          simp only [Act.put, List.setIfInBounds_toArray, List.set_cons_zero, List.set_cons_succ, i64_w, i32_w]
          rfl
         refine done_ (done_of HT_.out (by kernel_rfl)) ?_
         try go_wp2_with (first | ((with_reducible refine gate_callee (f := 19) rfl ?_); refine goesL_ (some 76) rfl rfl Try.func19 (by kernel_rfl) rfl #[.int .i64 ((rd_T28 l1 x8_2).f1)] rfl (by (try simp only [List.map_toArray, List.map_cons, List.map_nil]); first | done | rfl | (simp only [List.length_drop, List.length_take]; rfl)) ?_; (with_reducible refine (bucket_Need.calls ((rd_T28 l1 x8_2).f1) t127 t128 _ A26.out).mono ?_); rintro e w45 ⟨rfl, hb⟩; refine ⟨_, rfl, ?_⟩; have n0_ := zq3 (zq10 (g := gb101) (o := .cells #[.int .i64 a0_0, .bool a0_1, .int .u64 a0_2, .int .u64 a0_3, .int .u64 a0_4, .int .u64 a0_5] 24 (0, 0)) (by (with_reducible repeat (first | refine zq0 ?_ _ | refine zq2 ?_ | refine zq1 ?_ _)); refine zq11 ?_ NB101_126.out _; (with_reducible repeat (first | refine zq0 ?_ _ | refine zq2 ?_ | refine zq1 ?_ _)); refine zq11 ?_ NB101_126.out _; (with_reducible repeat (first | refine zq0 ?_ _ | refine zq2 ?_ | refine zq1 ?_ _)); refine zq11 ?_ NB101_126.out _; (with_reducible repeat (first | refine zq0 ?_ _ | refine zq2 ?_ | refine zq1 ?_ _)); refine zq11 ?_ NB101_126.out _; (with_reducible repeat (first | refine zq0 ?_ _ | refine zq2 ?_ | refine zq1 ?_ _)); exact BK101.out) hb); have n1_ := zq3 (zq10 (g := gb107) (o := .cells #[.int .u64 x108000_2, .int .u64 x108001_2, .int .u64 x108002_2, .bool x108003_2] 26 (0, 0)) (by (with_reducible repeat (first | refine zq0 ?_ _ | refine zq2 ?_ | refine zq1 ?_ _)); refine zq11 ?_ NB107_126.out _; (with_reducible repeat (first | refine zq0 ?_ _ | refine zq2 ?_ | refine zq1 ?_ _)); refine zq11 ?_ NB107_126.out _; (with_reducible repeat (first | refine zq0 ?_ _ | refine zq2 ?_ | refine zq1 ?_ _)); refine zq11 ?_ NB107_126.out _; (with_reducible repeat (first | refine zq0 ?_ _ | refine zq2 ?_ | refine zq1 ?_ _)); refine zq11 ?_ NB107_126.out _; (with_reducible repeat (first | refine zq0 ?_ _ | refine zq2 ?_ | refine zq1 ?_ _)); exact BK107.out) hb); have n2_ := zq3 (zq10 (g := gb109) (o := .cells #[.int .u64 t102, .int .u64 t103, .int .u64 t104, .bool t105] 26 (0, 0)) (by (with_reducible repeat (first | refine zq0 ?_ _ | refine zq2 ?_ | refine zq1 ?_ _)); refine zq11 ?_ NB109_126.out _; (with_reducible repeat (first | refine zq0 ?_ _ | refine zq2 ?_ | refine zq1 ?_ _)); refine zq11 ?_ NB109_126.out _; (with_reducible repeat (first | refine zq0 ?_ _ | refine zq2 ?_ | refine zq1 ?_ _)); refine zq11 ?_ NB109_126.out _; (with_reducible repeat (first | refine zq0 ?_ _ | refine zq2 ?_ | refine zq1 ?_ _)); refine zq11 ?_ NB109_126.out _; (with_reducible repeat (first | refine zq0 ?_ _ | refine zq2 ?_ | refine zq1 ?_ _)); exact BK109.out) hb); have n3_ := zq3 (zq10 (g := gb118) (o := .cells #[.int .u64 t113, .int .u64 t114, .int .u64 t115, .bool t116] 26 (0, 0)) (by (with_reducible repeat (first | refine zq0 ?_ _ | refine zq2 ?_ | refine zq1 ?_ _)); refine zq11 ?_ NB118_126.out _; (with_reducible repeat (first | refine zq0 ?_ _ | refine zq2 ?_ | refine zq1 ?_ _)); refine zq11 ?_ NB118_126.out _; (with_reducible repeat (first | refine zq0 ?_ _ | refine zq2 ?_ | refine zq1 ?_ _)); refine zq11 ?_ NB118_126.out _; (with_reducible repeat (first | refine zq0 ?_ _ | refine zq2 ?_ | refine zq1 ?_ _)); refine zq11 ?_ NB118_126.out _; (with_reducible repeat (first | refine zq0 ?_ _ | refine zq2 ?_ | refine zq1 ?_ _)); exact BK118.out) hb); have n4_ := zq3 (zq10 (g := gb126) (o := .cells #[.int .u64 t121, .int .u64 t122, .int .u64 t123, .bool t124] 26 (0, 0)) (by (with_reducible repeat (first | refine zq0 ?_ _ | refine zq2 ?_ | refine zq1 ?_ _)); refine blk_put (cs := #[.int .u64 t121, .int .u64 t122, .int .u64 t123, .bool false]) ?_ 3 _ rfl; (with_reducible repeat (first | refine zq0 ?_ _ | refine zq2 ?_ | refine zq1 ?_ _)); refine blk_put (cs := #[.int .u64 t121, .int .u64 t122, .int .u64 0, .bool false]) ?_ 2 _ rfl; (with_reducible repeat (first | refine zq0 ?_ _ | refine zq2 ?_ | refine zq1 ?_ _)); refine blk_put (cs := #[.int .u64 t121, .int .u64 0, .int .u64 0, .bool false]) ?_ 1 _ rfl; (with_reducible repeat (first | refine zq0 ?_ _ | refine zq2 ?_ | refine zq1 ?_ _)); refine blk_put (cs := #[.int .u64 0, .int .u64 0, .int .u64 0, .bool false]) ?_ 0 _ rfl; (with_reducible repeat (first | refine zq0 ?_ _ | refine zq2 ?_ | refine zq1 ?_ _)); exact BK126.out) hb); have n5_ := zq3 (below_step (by repeat (first | (with_reducible first | exact HB.out | apply zq9 | apply zq7 | apply zq8 | refine zq6 ?_ GE101.out | refine zq6 ?_ GE107.out | refine zq6 ?_ GE109.out | refine zq6 ?_ GE118.out | refine zq6 ?_ GE126.out) | exact HB.out)) hb); clear BK101; clear BK107; clear BK109; clear BK118; clear BK126; clear HB; have BK101 := n0_; have BK107 := n1_; have BK109 := n2_; have BK118 := n3_; have BK126 := n4_; have HB := n5_; clear n0_ n1_ n2_ n3_ n4_ n5_; (try clear hb); (try clear hb2); (try clear hk); (try clear hi)))
         have n0_ := zq3 (zq2 BK101.out)
         have n1_ := zq3 (zq2 BK107.out)
         have n2_ := zq3 (zq2 BK109.out)
         have n3_ := zq3 (zq2 BK118.out)
         have n4_ := zq3 (zq2 BK126.out)
         have n5_ := zq3 (zq8 HB.out)
         clear BK101
         clear BK107
         clear BK109
         clear BK118
         clear BK126
         clear HB
         have BK101 := n0_
         have BK107 := n1_
         have BK109 := n2_
         have BK118 := n3_
         have BK126 := n4_
         have HB := n5_
         clear n0_ n1_ n2_ n3_ n4_ n5_
         refine start_ (n := 12) (S := fun w' => w'.cell? ⟨gb118, 0, none⟩ = some (.int .u64 t113) ∧ w'.cell? ⟨gb118, 1, none⟩ = some (.int .u64 t114) ∧ w'.cell? ⟨gb118, 2, none⟩ = some (.int .u64 t115) ∧ w'.cell? ⟨gb118, 3, none⟩ = some (.bool t116) ∧ w'.cell? ⟨gb126, 0, none⟩ = some (.int .u64 t121) ∧ w'.cell? ⟨gb126, 1, none⟩ = some (.int .u64 t122) ∧ w'.cell? ⟨gb126, 2, none⟩ = some (.int .u64 t123) ∧ w'.cell? ⟨gb126, 3, none⟩ = some (.bool t124)) (ds := []) #[false, false, false, false, false, false, false, false, false, false, false, false] (by kernel_rfl) rfl rfl ⟨(zq5 BK118.out 0).trans rfl, (zq5 BK118.out 1).trans rfl, (zq5 BK118.out 2).trans rfl, (zq5 BK118.out 3).trans rfl, (zq5 BK126.out 0).trans rfl, (zq5 BK126.out 1).trans rfl, (zq5 BK126.out 2).trans rfl, (zq5 BK126.out 3).trans rfl⟩ (fun hHeld => ?_); refine with_tabW weighbridgelaw26_SingleTakes.tab13 weighbridgelaw26_SingleTakes.bits13 (fun HT_ HW_ => ?_)
         generalize w45.drew = w46 at BK101 BK107 BK109 BK118 BK126 HB hHeld ⊢
         refine pure_ (i := 0) (N := some 79) (v := ?_) (a' := ?_) #[true, false, false, false, false, false, false, false, false, false, false, false] rfl rfl (any_of HT_.out (by kernel_rfl)) (fun _ _ _ h => h) (Or.inl ⟨by rfl, ?_⟩) ?_ ?_
         rotate_left
         ·
          intro w'
          go_simp
          with_reducible rfl
         rotate_left
         ·
          simp only [Act.put, List.setIfInBounds_toArray, List.set_cons_zero, List.set_cons_succ, i64_w, i32_w]
          rfl
         refine pure_ (i := 2) (N := some 81) (v := ?_) (a' := ?_) #[true, false, true, false, false, false, false, false, false, false, false, false] rfl rfl (any_of HT_.out (by kernel_rfl)) (fun _ _ _ h => h) (Or.inl ⟨by rfl, ?_⟩) ?_ ?_
         rotate_left
         ·
          intro w'
          go_simp
          with_reducible rfl
         rotate_left
         ·
          simp only [Act.put, List.setIfInBounds_toArray, List.set_cons_zero, List.set_cons_succ, i64_w, i32_w]
          rfl
         refine pure_ (i := 5) (N := some 84) (v := ?_) (a' := ?_) #[true, false, true, false, false, true, false, false, false, false, false, false] rfl rfl (any_of HT_.out (by kernel_rfl)) (fun _ _ _ h => h) (Or.inl ⟨by rfl, ?_⟩) ?_ ?_
         rotate_left
         ·
          intro w'
          go_simp
          with_reducible rfl
         rotate_left
         ·
          simp only [Act.put, List.setIfInBounds_toArray, List.set_cons_zero, List.set_cons_succ, i64_w, i32_w]
          rfl
         refine pure_ (i := 7) (N := some 86) (v := ?_) (a' := ?_) #[true, false, true, false, false, true, false, true, false, false, false, false] rfl rfl (any_of HT_.out (by kernel_rfl)) (fun _ _ _ h => h) (Or.inl ⟨by rfl, ?_⟩) ?_ ?_
         rotate_left
         ·
          intro w'
          go_simp
          with_reducible rfl
         rotate_left
         ·
          simp only [Act.put, List.setIfInBounds_toArray, List.set_cons_zero, List.set_cons_succ, i64_w, i32_w]
          rfl
         refine take_ (i := 1) (N := some 80) (v := ?_) (a' := ?_) #[true, true, true, false, false, true, false, true, false, false, false, false] rfl rfl (take_ofW HT_.out HW_.out (by kernel_rfl)) (fun _ _ _ h => h) (Or.inl ⟨by rfl, ?_⟩) hHeld ?_ ?_
         rotate_left
         ·
          rintro w' ⟨s0, s1, s2, s3, s4, s5, s6, s7⟩
          go_simp
          with_reducible rfl
         rotate_left
         ·
          simp only [Act.put, List.setIfInBounds_toArray, List.set_cons_zero, List.set_cons_succ, i64_w, i32_w]
          rfl
         refine take_ (i := 3) (N := some 82) (v := ?_) (a' := ?_) #[true, true, true, true, false, true, false, true, false, false, false, false] rfl rfl (take_ofW HT_.out HW_.out (by kernel_rfl)) (fun _ _ _ h => h) (Or.inl ⟨by rfl, ?_⟩) hHeld ?_ ?_
         rotate_left
         ·
          rintro w' ⟨s0, s1, s2, s3, s4, s5, s6, s7⟩
          go_simp
          with_reducible rfl
         rotate_left
         ·
          simp only [Act.put, List.setIfInBounds_toArray, List.set_cons_zero, List.set_cons_succ, i64_w, i32_w]
          rfl
         refine pure_ (i := 4) (N := some 83) (v := ?_) (a' := ?_) #[true, true, true, true, true, true, false, true, false, false, false, false] rfl rfl (any_of HT_.out (by kernel_rfl)) (fun _ _ _ h => h) (Or.inl ⟨by rfl, ?_⟩) ?_ ?_
         rotate_left
         ·
          intro w'
          go_simp
          with_reducible rfl
         rotate_left
         ·
          simp only [Act.put, List.setIfInBounds_toArray, List.set_cons_zero, List.set_cons_succ, i64_w, i32_w]
          rfl
         refine pure_ (i := 10) (N := some 16) (v := ?_) (a' := ?_) #[true, true, true, true, true, true, false, true, false, false, true, false] rfl rfl (any_of HT_.out (by kernel_rfl)) (fun _ _ _ h => h) (Or.inl ⟨by rfl, ?_⟩) ?_ ?_
         rotate_left
         ·
          intro w'
          go_simp
          with_reducible rfl
         rotate_left
         ·
          simp only [Act.put, List.setIfInBounds_toArray, List.set_cons_zero, List.set_cons_succ, i64_w, i32_w]
          rfl
         refine take_ (i := 6) (N := some 85) (v := ?_) (a' := ?_) #[true, true, true, true, true, true, true, true, false, false, true, false] rfl rfl (take_ofW HT_.out HW_.out (by kernel_rfl)) (fun _ _ _ h => h) (Or.inl ⟨by rfl, ?_⟩) hHeld ?_ ?_
         rotate_left
         ·
          rintro w' ⟨s0, s1, s2, s3, s4, s5, s6, s7⟩
          go_simp
          with_reducible rfl
         rotate_left
         ·
          simp only [Act.put, List.setIfInBounds_toArray, List.set_cons_zero, List.set_cons_succ, i64_w, i32_w]
          rfl
         refine take_ (i := 8) (N := some 87) (v := ?_) (a' := ?_) #[true, true, true, true, true, true, true, true, true, false, true, false] rfl rfl (take_ofW HT_.out HW_.out (by kernel_rfl)) (fun _ _ _ h => h) (Or.inl ⟨by rfl, ?_⟩) hHeld ?_ ?_
         rotate_left
         ·
          rintro w' ⟨s0, s1, s2, s3, s4, s5, s6, s7⟩
          go_simp
          with_reducible rfl
         rotate_left
         ·
          simp only [Act.put, List.setIfInBounds_toArray, List.set_cons_zero, List.set_cons_succ, i64_w, i32_w]
          rfl
         refine pure_ (i := 9) (N := some 88) (v := ?_) (a' := ?_) #[true, true, true, true, true, true, true, true, true, true, true, false] rfl rfl (any_of HT_.out (by kernel_rfl)) (fun _ _ _ h => h) (Or.inl ⟨by rfl, ?_⟩) ?_ ?_
         rotate_left
         ·
          intro w'
          go_simp
          with_reducible rfl
         rotate_left
         ·
          simp only [Act.put, List.setIfInBounds_toArray, List.set_cons_zero, List.set_cons_succ, i64_w, i32_w]
          rfl
         refine pure_ (i := 11) (N := some 17) (v := ?_) (a' := ?_) #[true, true, true, true, true, true, true, true, true, true, true, true] rfl rfl (any_of HT_.out (by kernel_rfl)) (fun _ _ _ h => h) (Or.inl ⟨by rfl, ?_⟩) ?_ ?_
         rotate_left
         ·
          intro w'
          go_simp
          with_reducible rfl
         rotate_left
         ·
          simp only [Act.put, List.setIfInBounds_toArray, List.set_cons_zero, List.set_cons_succ, i64_w, i32_w]
          rfl
         refine done_ (done_of HT_.out (by kernel_rfl)) ?_
         go_upto_region 14 with (fail)
         go_cut [137] (fun v137 wc => ∃ (kq : Nat) (x137_26 : Bool), v137 = .bool x137_26 ∧ Aside0 (weighbridgelaw26_SingleTakes.j2 kq l1 x8_2 t125 t127 t128 (IntKind.u64.wrap (t113 - t121)) (IntKind.u64.wrap (t114 - t122)) x137_26 a0_0 a0_1 a0_2 a0_3 a0_4 a0_5 t102 t103 t104 t105 t121 t122 t123 t124 = some r) ∧ Aside0 (kq ≤ k2) ∧ Aside0 (wc.heap[gb101]? = some (.cells #[.int .i64 a0_0, .bool a0_1, .int .u64 a0_2, .int .u64 a0_3, .int .u64 a0_4, .int .u64 a0_5] 24 (0, 0))) ∧ Aside0 (wc.heap[gb107]? = some (.cells #[.int .u64 x108000_2, .int .u64 x108001_2, .int .u64 x108002_2, .bool x108003_2] 26 (0, 0))) ∧ Aside0 (wc.heap[gb109]? = some (.cells #[.int .u64 t102, .int .u64 t103, .int .u64 t104, .bool t105] 26 (0, 0))) ∧ Aside0 (wc.heap[gb118]? = some (.cells #[.int .u64 t113, .int .u64 t114, .int .u64 t115, .bool t116] 26 (0, 0))) ∧ Aside0 (wc.heap[gb126]? = some (.cells #[.int .u64 t121, .int .u64 t122, .int .u64 t123, .bool t124] 26 (0, 0))) ∧ Aside0 (Below w.heap.size w wc))
         case first =>
          have H := HC27.out
          clear HC27
          by_cases c47 : t121 > t102
          ·
           rw [if_pos c47] at H
           exact absurd H (by simp)
          ·
           rw [if_neg c47] at H
           have c47b0 : decide (t102 < t121) = false := decide_eq_false c47
           clear c47
           (first | rw [c47b0] | (simp only [i64_w, i32_w]; rw [c47b0]) | skip)
           by_cases c48 : t122 > t103
           ·
            rw [if_pos c48] at H
            exact absurd H (by simp)
           ·
            rw [if_neg c48] at H
            have c48b0 : decide (t103 < t122) = false := decide_eq_false c48
            clear c48
            by_cases c49 : t123 = t115
            ·
             rw [if_pos c49] at H
             have c49b0 : (t123 == t115) = true := beq_iff_eq.mpr c49
             have c49b1 : (t123 != t115) = false := bne_eq_false_iff_eq.mpr c49
             clear c49
             by_cases c50 : t124 = true
             ·
              subst c50
              have H1 : (if x108003_2 = true then (if t123 < x108002_2 then (none) else (if a0_1 = true then (weighbridgelaw26_SingleTakes.j2 k2 l1 x8_2 t125 t127 t128 (IntKind.u64.wrap (t113 - t121)) (IntKind.u64.wrap (t114 - t122)) (decide (t125 < (mn ((rd_T28 l1 x8_2).f2) 2))) a0_0 a0_1 a0_2 a0_3 a0_4 a0_5 t102 t103 t104 t105 t121 t122 t123 true) else (weighbridgelaw26_SingleTakes.j2 k2 l1 x8_2 t125 t127 t128 (IntKind.u64.wrap (t113 - t121)) (IntKind.u64.wrap (t114 - t122)) false a0_0 a0_1 a0_2 a0_3 a0_4 a0_5 t102 t103 t104 t105 t121 t122 t123 true))) else (if a0_1 = true then (weighbridgelaw26_SingleTakes.j2 k2 l1 x8_2 t125 t127 t128 (IntKind.u64.wrap (t113 - t121)) (IntKind.u64.wrap (t114 - t122)) (decide (t125 < (mn ((rd_T28 l1 x8_2).f2) 2))) a0_0 a0_1 a0_2 a0_3 a0_4 a0_5 t102 t103 t104 t105 t121 t122 t123 true) else (weighbridgelaw26_SingleTakes.j2 k2 l1 x8_2 t125 t127 t128 (IntKind.u64.wrap (t113 - t121)) (IntKind.u64.wrap (t114 - t122)) false a0_0 a0_1 a0_2 a0_3 a0_4 a0_5 t102 t103 t104 t105 t121 t122 t123 true))) = some r := by rw [if_pos rfl] at H; exact H
              clear H
              have H := H1
              clear H1
              by_cases c51 : x108003_2 = true
              ·
               subst c51
               have H1 : (if t123 < x108002_2 then (none) else (if a0_1 = true then (weighbridgelaw26_SingleTakes.j2 k2 l1 x8_2 t125 t127 t128 (IntKind.u64.wrap (t113 - t121)) (IntKind.u64.wrap (t114 - t122)) (decide (t125 < (mn ((rd_T28 l1 x8_2).f2) 2))) a0_0 a0_1 a0_2 a0_3 a0_4 a0_5 t102 t103 t104 t105 t121 t122 t123 true) else (weighbridgelaw26_SingleTakes.j2 k2 l1 x8_2 t125 t127 t128 (IntKind.u64.wrap (t113 - t121)) (IntKind.u64.wrap (t114 - t122)) false a0_0 a0_1 a0_2 a0_3 a0_4 a0_5 t102 t103 t104 t105 t121 t122 t123 true))) = some r := by rw [if_pos rfl] at H; exact H
               clear H
               have H := H1
               clear H1
               by_cases c52 : t123 < x108002_2
               ·
                rw [if_pos c52] at H
                exact absurd H (by simp)
               ·
                rw [if_neg c52] at H
                have c52b0 : decide (t123 < x108002_2) = false := decide_eq_false c52
                clear c52
                by_cases c53 : a0_1 = true
                ·
                 subst c53
                 have H1 : (weighbridgelaw26_SingleTakes.j2 k2 l1 x8_2 t125 t127 t128 (IntKind.u64.wrap (t113 - t121)) (IntKind.u64.wrap (t114 - t122)) (decide (t125 < (mn ((rd_T28 l1 x8_2).f2) 2))) a0_0 true a0_2 a0_3 a0_4 a0_5 t102 t103 t104 t105 t121 t122 t123 true) = some r := by rw [if_pos rfl] at H; exact H
                 clear H
                 have H := H1
                 clear H1
                 obtain ⟨ji54, hji54⟩ : ∃ j_ : Int, (mn ((rd_T28 l1 x8_2).f2) 2) = j_ := ⟨_, rfl⟩
                 replace H : (weighbridgelaw26_SingleTakes.j2 k2 l1 x8_2 t125 t127 t128 (IntKind.u64.wrap (t113 - t121)) (IntKind.u64.wrap (t114 - t122)) (decide (t125 < (ji54))) a0_0 true a0_2 a0_3 a0_4 a0_5 t102 t103 t104 t105 t121 t122 t123 true) = some r := by first | (rw [hji54] at H; exact H) | (simp only [hji54] at H ⊢; exact H)
                 have hji54_ : (if 2 < ((rd_T28 l1 x8_2).f2) then 2 else ((rd_T28 l1 x8_2).f2)) = ji54 := hji54
                 have H' := zq3 H
                 clear H
                 have hnb55 := NB126_101.out
                 have hnc55 := NB101_126.out
                 have hnb56 := NB126_107.out
                 have hnc56 := NB107_126.out
                 have hnb57 := NB126_109.out
                 have hnc57 := NB109_126.out
                 have hnb58 := NB126_118.out
                 have hnc58 := NB118_126.out
                 have hcz59_0 : w46.cell? ⟨gb126, 0, none⟩ = some (.int .u64 t121) := (zq5 BK126.out 0).trans rfl
                 have hcz59_1 : w46.cell? ⟨gb126, 1, none⟩ = some (.int .u64 t122) := (zq5 BK126.out 1).trans rfl
                 have hcz59_2 : w46.cell? ⟨gb126, 2, none⟩ = some (.int .u64 t123) := (zq5 BK126.out 2).trans rfl
                 have hcz59_3 : w46.cell? ⟨gb126, 3, none⟩ = some (.bool true) := (zq5 BK126.out 3).trans rfl
                 have hfz59_0 := zq4 BK126.out 0
                 have hfz59_1 := zq4 BK126.out 1
                 have hfz59_2 := zq4 BK126.out 2
                 have hfz59_3 := zq4 BK126.out 3
                 have hnb60 := NB109_101.out
                 have hnc60 := NB101_109.out
                 have hnb61 := NB109_107.out
                 have hnc61 := NB107_109.out
                 have hnb62 := NB109_118.out
                 have hnc62 := NB118_109.out
                 have hcz63_0 : w46.cell? ⟨gb109, 0, none⟩ = some (.int .u64 t102) := (zq5 BK109.out 0).trans rfl
                 have hcz63_1 : w46.cell? ⟨gb109, 1, none⟩ = some (.int .u64 t103) := (zq5 BK109.out 1).trans rfl
                 have hcz63_2 : w46.cell? ⟨gb109, 2, none⟩ = some (.int .u64 t104) := (zq5 BK109.out 2).trans rfl
                 have hcz63_3 : w46.cell? ⟨gb109, 3, none⟩ = some (.bool t105) := (zq5 BK109.out 3).trans rfl
                 have hfz63_0 := zq4 BK109.out 0
                 have hfz63_1 := zq4 BK109.out 1
                 have hfz63_2 := zq4 BK109.out 2
                 have hfz63_3 := zq4 BK109.out 3
                 have hnb64 := NB118_101.out
                 have hnc64 := NB101_118.out
                 have hnb65 := NB118_107.out
                 have hnc65 := NB107_118.out
                 have hcz66_0 : w46.cell? ⟨gb118, 0, none⟩ = some (.int .u64 t113) := (zq5 BK118.out 0).trans rfl
                 have hcz66_1 : w46.cell? ⟨gb118, 1, none⟩ = some (.int .u64 t114) := (zq5 BK118.out 1).trans rfl
                 have hcz66_2 : w46.cell? ⟨gb118, 2, none⟩ = some (.int .u64 t115) := (zq5 BK118.out 2).trans rfl
                 have hcz66_3 : w46.cell? ⟨gb118, 3, none⟩ = some (.bool t116) := (zq5 BK118.out 3).trans rfl
                 have hfz66_0 := zq4 BK118.out 0
                 have hfz66_1 := zq4 BK118.out 1
                 have hfz66_2 := zq4 BK118.out 2
                 have hfz66_3 := zq4 BK118.out 3
                 have hnb67 := NB107_101.out
                 have hnc67 := NB101_107.out
                 have hcz68_0 : w46.cell? ⟨gb107, 0, none⟩ = some (.int .u64 x108000_2) := (zq5 BK107.out 0).trans rfl
                 have hcz68_1 : w46.cell? ⟨gb107, 1, none⟩ = some (.int .u64 x108001_2) := (zq5 BK107.out 1).trans rfl
                 have hcz68_2 : w46.cell? ⟨gb107, 2, none⟩ = some (.int .u64 x108002_2) := (zq5 BK107.out 2).trans rfl
                 have hcz68_3 : w46.cell? ⟨gb107, 3, none⟩ = some (.bool true) := (zq5 BK107.out 3).trans rfl
                 have hfz68_0 := zq4 BK107.out 0
                 have hfz68_1 := zq4 BK107.out 1
                 have hfz68_2 := zq4 BK107.out 2
                 have hfz68_3 := zq4 BK107.out 3
                 have hcz69_0 : w46.cell? ⟨gb101, 0, none⟩ = some (.int .i64 a0_0) := (zq5 BK101.out 0).trans rfl
                 have hcz69_1 : w46.cell? ⟨gb101, 1, none⟩ = some (.bool true) := (zq5 BK101.out 1).trans rfl
                 have hcz69_2 : w46.cell? ⟨gb101, 2, none⟩ = some (.int .u64 a0_2) := (zq5 BK101.out 2).trans rfl
                 have hcz69_3 : w46.cell? ⟨gb101, 3, none⟩ = some (.int .u64 a0_3) := (zq5 BK101.out 3).trans rfl
                 have hcz69_4 : w46.cell? ⟨gb101, 4, none⟩ = some (.int .u64 a0_4) := (zq5 BK101.out 4).trans rfl
                 have hcz69_5 : w46.cell? ⟨gb101, 5, none⟩ = some (.int .u64 a0_5) := (zq5 BK101.out 5).trans rfl
                 have hfz69_0 := zq4 BK101.out 0
                 have hfz69_1 := zq4 BK101.out 1
                 have hfz69_2 := zq4 BK101.out 2
                 have hfz69_3 := zq4 BK101.out 3
                 have hfz69_4 := zq4 BK101.out 4
                 have hfz69_5 := zq4 BK101.out 5
                 have p129 : 0 ≤ (x8_2 : Int) := of_decide_eq_true (by first | (with_reducible assumption) | assumption)
                 have q129 : x8_2 < (l1.length : Int) := of_decide_eq_true (by first | (with_reducible assumption) | assumption)
                 obtain ⟨ad129, e129, hx129_0, hx129_1, hx129_2⟩ := at_T28 HR1.out x8_2 p129 q129
                 obtain rfl : ad111 = ad129 := (by injection e129)
                 replace hx129_0 := (HB.out.cell (World.block_lt_of_cell? w _ hx129_0)).trans hx129_0
                 replace hx129_1 := (HB.out.cell (World.block_lt_of_cell? w _ hx129_1)).trans hx129_1
                 replace hx129_2 := (HB.out.cell (World.block_lt_of_cell? w _ hx129_2)).trans hx129_2
                 replace p129 := eq_true p129
                 replace q129 := eq_true q129
                 go_wp2
                 go_meet
                 case rel => exact ⟨_, (decide (t125 < (ji54))), (by first | rfl | (simp; done) | (simp only [← hji54] <;> (first | rfl | simp)) | (simp [*]; done)), H', ⟨by have := HJ3.out; have := HK2.out; first | omega | exact Nat.le_refl _⟩, ⟨by (with_reducible repeat (first | refine zq0 ?_ _ | refine zq2 ?_ | refine zq1 ?_ _)); exact BK101.out⟩, ⟨by (with_reducible repeat (first | refine zq0 ?_ _ | refine zq2 ?_ | refine zq1 ?_ _)); exact BK107.out⟩, ⟨by (with_reducible repeat (first | refine zq0 ?_ _ | refine zq2 ?_ | refine zq1 ?_ _)); exact BK109.out⟩, ⟨by (with_reducible repeat (first | refine zq0 ?_ _ | refine zq2 ?_ | refine zq1 ?_ _)); exact BK118.out⟩, ⟨by (with_reducible repeat (first | refine zq0 ?_ _ | refine zq2 ?_ | refine zq1 ?_ _)); exact BK126.out⟩, ⟨by repeat (first | (with_reducible first | exact HB.out | apply zq9 | apply zq7 | apply zq8 | refine zq6 ?_ GE101.out | refine zq6 ?_ GE107.out | refine zq6 ?_ GE109.out | refine zq6 ?_ GE118.out | refine zq6 ?_ GE126.out) | exact HB.out)⟩⟩
                ·
                 replace c53 := Bool.eq_false_iff.mpr c53
                 subst c53
                 have H1 : (weighbridgelaw26_SingleTakes.j2 k2 l1 x8_2 t125 t127 t128 (IntKind.u64.wrap (t113 - t121)) (IntKind.u64.wrap (t114 - t122)) false a0_0 false a0_2 a0_3 a0_4 a0_5 t102 t103 t104 t105 t121 t122 t123 true) = some r := by rw [if_neg (show ¬ (false = true) by decide)] at H; exact H
                 clear H
                 have H := H1
                 clear H1
                 have H' := zq3 H
                 clear H
                 have hnb70 := NB126_101.out
                 have hnc70 := NB101_126.out
                 have hnb71 := NB126_107.out
                 have hnc71 := NB107_126.out
                 have hnb72 := NB126_109.out
                 have hnc72 := NB109_126.out
                 have hnb73 := NB126_118.out
                 have hnc73 := NB118_126.out
                 have hcz74_0 : w46.cell? ⟨gb126, 0, none⟩ = some (.int .u64 t121) := (zq5 BK126.out 0).trans rfl
                 have hcz74_1 : w46.cell? ⟨gb126, 1, none⟩ = some (.int .u64 t122) := (zq5 BK126.out 1).trans rfl
                 have hcz74_2 : w46.cell? ⟨gb126, 2, none⟩ = some (.int .u64 t123) := (zq5 BK126.out 2).trans rfl
                 have hcz74_3 : w46.cell? ⟨gb126, 3, none⟩ = some (.bool true) := (zq5 BK126.out 3).trans rfl
                 have hfz74_0 := zq4 BK126.out 0
                 have hfz74_1 := zq4 BK126.out 1
                 have hfz74_2 := zq4 BK126.out 2
                 have hfz74_3 := zq4 BK126.out 3
                 have hnb75 := NB109_101.out
                 have hnc75 := NB101_109.out
                 have hnb76 := NB109_107.out
                 have hnc76 := NB107_109.out
                 have hnb77 := NB109_118.out
                 have hnc77 := NB118_109.out
                 have hcz78_0 : w46.cell? ⟨gb109, 0, none⟩ = some (.int .u64 t102) := (zq5 BK109.out 0).trans rfl
                 have hcz78_1 : w46.cell? ⟨gb109, 1, none⟩ = some (.int .u64 t103) := (zq5 BK109.out 1).trans rfl
                 have hcz78_2 : w46.cell? ⟨gb109, 2, none⟩ = some (.int .u64 t104) := (zq5 BK109.out 2).trans rfl
                 have hcz78_3 : w46.cell? ⟨gb109, 3, none⟩ = some (.bool t105) := (zq5 BK109.out 3).trans rfl
                 have hfz78_0 := zq4 BK109.out 0
                 have hfz78_1 := zq4 BK109.out 1
                 have hfz78_2 := zq4 BK109.out 2
                 have hfz78_3 := zq4 BK109.out 3
                 have hnb79 := NB118_101.out
                 have hnc79 := NB101_118.out
                 have hnb80 := NB118_107.out
                 have hnc80 := NB107_118.out
                 have hcz81_0 : w46.cell? ⟨gb118, 0, none⟩ = some (.int .u64 t113) := (zq5 BK118.out 0).trans rfl
                 have hcz81_1 : w46.cell? ⟨gb118, 1, none⟩ = some (.int .u64 t114) := (zq5 BK118.out 1).trans rfl
                 have hcz81_2 : w46.cell? ⟨gb118, 2, none⟩ = some (.int .u64 t115) := (zq5 BK118.out 2).trans rfl
                 have hcz81_3 : w46.cell? ⟨gb118, 3, none⟩ = some (.bool t116) := (zq5 BK118.out 3).trans rfl
                 have hfz81_0 := zq4 BK118.out 0
                 have hfz81_1 := zq4 BK118.out 1
                 have hfz81_2 := zq4 BK118.out 2
                 have hfz81_3 := zq4 BK118.out 3
                 have hnb82 := NB107_101.out
                 have hnc82 := NB101_107.out
                 have hcz83_0 : w46.cell? ⟨gb107, 0, none⟩ = some (.int .u64 x108000_2) := (zq5 BK107.out 0).trans rfl
                 have hcz83_1 : w46.cell? ⟨gb107, 1, none⟩ = some (.int .u64 x108001_2) := (zq5 BK107.out 1).trans rfl
                 have hcz83_2 : w46.cell? ⟨gb107, 2, none⟩ = some (.int .u64 x108002_2) := (zq5 BK107.out 2).trans rfl
                 have hcz83_3 : w46.cell? ⟨gb107, 3, none⟩ = some (.bool true) := (zq5 BK107.out 3).trans rfl
                 have hfz83_0 := zq4 BK107.out 0
                 have hfz83_1 := zq4 BK107.out 1
                 have hfz83_2 := zq4 BK107.out 2
                 have hfz83_3 := zq4 BK107.out 3
                 have hcz84_0 : w46.cell? ⟨gb101, 0, none⟩ = some (.int .i64 a0_0) := (zq5 BK101.out 0).trans rfl
                 have hcz84_1 : w46.cell? ⟨gb101, 1, none⟩ = some (.bool false) := (zq5 BK101.out 1).trans rfl
                 have hcz84_2 : w46.cell? ⟨gb101, 2, none⟩ = some (.int .u64 a0_2) := (zq5 BK101.out 2).trans rfl
                 have hcz84_3 : w46.cell? ⟨gb101, 3, none⟩ = some (.int .u64 a0_3) := (zq5 BK101.out 3).trans rfl
                 have hcz84_4 : w46.cell? ⟨gb101, 4, none⟩ = some (.int .u64 a0_4) := (zq5 BK101.out 4).trans rfl
                 have hcz84_5 : w46.cell? ⟨gb101, 5, none⟩ = some (.int .u64 a0_5) := (zq5 BK101.out 5).trans rfl
                 have hfz84_0 := zq4 BK101.out 0
                 have hfz84_1 := zq4 BK101.out 1
                 have hfz84_2 := zq4 BK101.out 2
                 have hfz84_3 := zq4 BK101.out 3
                 have hfz84_4 := zq4 BK101.out 4
                 have hfz84_5 := zq4 BK101.out 5
                 go_wp2
                 go_meet
                 case rel => exact ⟨_, (false), (by first | rfl | (simp; done) | (simp [*]; done)), H', ⟨by have := HJ3.out; have := HK2.out; first | omega | exact Nat.le_refl _⟩, ⟨by (with_reducible repeat (first | refine zq0 ?_ _ | refine zq2 ?_ | refine zq1 ?_ _)); exact BK101.out⟩, ⟨by (with_reducible repeat (first | refine zq0 ?_ _ | refine zq2 ?_ | refine zq1 ?_ _)); exact BK107.out⟩, ⟨by (with_reducible repeat (first | refine zq0 ?_ _ | refine zq2 ?_ | refine zq1 ?_ _)); exact BK109.out⟩, ⟨by (with_reducible repeat (first | refine zq0 ?_ _ | refine zq2 ?_ | refine zq1 ?_ _)); exact BK118.out⟩, ⟨by (with_reducible repeat (first | refine zq0 ?_ _ | refine zq2 ?_ | refine zq1 ?_ _)); exact BK126.out⟩, ⟨by repeat (first | (with_reducible first | exact HB.out | apply zq9 | apply zq7 | apply zq8 | refine zq6 ?_ GE101.out | refine zq6 ?_ GE107.out | refine zq6 ?_ GE109.out | refine zq6 ?_ GE118.out | refine zq6 ?_ GE126.out) | exact HB.out)⟩⟩
              ·
               replace c51 := Bool.eq_false_iff.mpr c51
               subst c51
               have H1 : (if a0_1 = true then (weighbridgelaw26_SingleTakes.j2 k2 l1 x8_2 t125 t127 t128 (IntKind.u64.wrap (t113 - t121)) (IntKind.u64.wrap (t114 - t122)) (decide (t125 < (mn ((rd_T28 l1 x8_2).f2) 2))) a0_0 a0_1 a0_2 a0_3 a0_4 a0_5 t102 t103 t104 t105 t121 t122 t123 true) else (weighbridgelaw26_SingleTakes.j2 k2 l1 x8_2 t125 t127 t128 (IntKind.u64.wrap (t113 - t121)) (IntKind.u64.wrap (t114 - t122)) false a0_0 a0_1 a0_2 a0_3 a0_4 a0_5 t102 t103 t104 t105 t121 t122 t123 true)) = some r := by rw [if_neg (show ¬ (false = true) by decide)] at H; exact H
               clear H
               have H := H1
               clear H1
               by_cases c85 : a0_1 = true
               ·
                subst c85
                have H1 : (weighbridgelaw26_SingleTakes.j2 k2 l1 x8_2 t125 t127 t128 (IntKind.u64.wrap (t113 - t121)) (IntKind.u64.wrap (t114 - t122)) (decide (t125 < (mn ((rd_T28 l1 x8_2).f2) 2))) a0_0 true a0_2 a0_3 a0_4 a0_5 t102 t103 t104 t105 t121 t122 t123 true) = some r := by rw [if_pos rfl] at H; exact H
                clear H
                have H := H1
                clear H1
                obtain ⟨ji86, hji86⟩ : ∃ j_ : Int, (mn ((rd_T28 l1 x8_2).f2) 2) = j_ := ⟨_, rfl⟩
                replace H : (weighbridgelaw26_SingleTakes.j2 k2 l1 x8_2 t125 t127 t128 (IntKind.u64.wrap (t113 - t121)) (IntKind.u64.wrap (t114 - t122)) (decide (t125 < (ji86))) a0_0 true a0_2 a0_3 a0_4 a0_5 t102 t103 t104 t105 t121 t122 t123 true) = some r := by first | (rw [hji86] at H; exact H) | (simp only [hji86] at H ⊢; exact H)
                have hji86_ : (if 2 < ((rd_T28 l1 x8_2).f2) then 2 else ((rd_T28 l1 x8_2).f2)) = ji86 := hji86
                have H' := zq3 H
                clear H
                have hnb87 := NB126_101.out
                have hnc87 := NB101_126.out
                have hnb88 := NB126_107.out
                have hnc88 := NB107_126.out
                have hnb89 := NB126_109.out
                have hnc89 := NB109_126.out
                have hnb90 := NB126_118.out
                have hnc90 := NB118_126.out
                have hcz91_0 : w46.cell? ⟨gb126, 0, none⟩ = some (.int .u64 t121) := (zq5 BK126.out 0).trans rfl
                have hcz91_1 : w46.cell? ⟨gb126, 1, none⟩ = some (.int .u64 t122) := (zq5 BK126.out 1).trans rfl
                have hcz91_2 : w46.cell? ⟨gb126, 2, none⟩ = some (.int .u64 t123) := (zq5 BK126.out 2).trans rfl
                have hcz91_3 : w46.cell? ⟨gb126, 3, none⟩ = some (.bool true) := (zq5 BK126.out 3).trans rfl
                have hfz91_0 := zq4 BK126.out 0
                have hfz91_1 := zq4 BK126.out 1
                have hfz91_2 := zq4 BK126.out 2
                have hfz91_3 := zq4 BK126.out 3
                have hnb92 := NB109_101.out
                have hnc92 := NB101_109.out
                have hnb93 := NB109_107.out
                have hnc93 := NB107_109.out
                have hnb94 := NB109_118.out
                have hnc94 := NB118_109.out
                have hcz95_0 : w46.cell? ⟨gb109, 0, none⟩ = some (.int .u64 t102) := (zq5 BK109.out 0).trans rfl
                have hcz95_1 : w46.cell? ⟨gb109, 1, none⟩ = some (.int .u64 t103) := (zq5 BK109.out 1).trans rfl
                have hcz95_2 : w46.cell? ⟨gb109, 2, none⟩ = some (.int .u64 t104) := (zq5 BK109.out 2).trans rfl
                have hcz95_3 : w46.cell? ⟨gb109, 3, none⟩ = some (.bool t105) := (zq5 BK109.out 3).trans rfl
                have hfz95_0 := zq4 BK109.out 0
                have hfz95_1 := zq4 BK109.out 1
                have hfz95_2 := zq4 BK109.out 2
                have hfz95_3 := zq4 BK109.out 3
                have hnb96 := NB118_101.out
                have hnc96 := NB101_118.out
                have hnb97 := NB118_107.out
                have hnc97 := NB107_118.out
                have hcz98_0 : w46.cell? ⟨gb118, 0, none⟩ = some (.int .u64 t113) := (zq5 BK118.out 0).trans rfl
                have hcz98_1 : w46.cell? ⟨gb118, 1, none⟩ = some (.int .u64 t114) := (zq5 BK118.out 1).trans rfl
                have hcz98_2 : w46.cell? ⟨gb118, 2, none⟩ = some (.int .u64 t115) := (zq5 BK118.out 2).trans rfl
                have hcz98_3 : w46.cell? ⟨gb118, 3, none⟩ = some (.bool t116) := (zq5 BK118.out 3).trans rfl
                have hfz98_0 := zq4 BK118.out 0
                have hfz98_1 := zq4 BK118.out 1
                have hfz98_2 := zq4 BK118.out 2
                have hfz98_3 := zq4 BK118.out 3
                have hnb99 := NB107_101.out
                have hnc99 := NB101_107.out
                have hcz100_0 : w46.cell? ⟨gb107, 0, none⟩ = some (.int .u64 x108000_2) := (zq5 BK107.out 0).trans rfl
                have hcz100_1 : w46.cell? ⟨gb107, 1, none⟩ = some (.int .u64 x108001_2) := (zq5 BK107.out 1).trans rfl
                have hcz100_2 : w46.cell? ⟨gb107, 2, none⟩ = some (.int .u64 x108002_2) := (zq5 BK107.out 2).trans rfl
                have hcz100_3 : w46.cell? ⟨gb107, 3, none⟩ = some (.bool false) := (zq5 BK107.out 3).trans rfl
                have hfz100_0 := zq4 BK107.out 0
                have hfz100_1 := zq4 BK107.out 1
                have hfz100_2 := zq4 BK107.out 2
                have hfz100_3 := zq4 BK107.out 3
                have hcz101_0 : w46.cell? ⟨gb101, 0, none⟩ = some (.int .i64 a0_0) := (zq5 BK101.out 0).trans rfl
                have hcz101_1 : w46.cell? ⟨gb101, 1, none⟩ = some (.bool true) := (zq5 BK101.out 1).trans rfl
                have hcz101_2 : w46.cell? ⟨gb101, 2, none⟩ = some (.int .u64 a0_2) := (zq5 BK101.out 2).trans rfl
                have hcz101_3 : w46.cell? ⟨gb101, 3, none⟩ = some (.int .u64 a0_3) := (zq5 BK101.out 3).trans rfl
                have hcz101_4 : w46.cell? ⟨gb101, 4, none⟩ = some (.int .u64 a0_4) := (zq5 BK101.out 4).trans rfl
                have hcz101_5 : w46.cell? ⟨gb101, 5, none⟩ = some (.int .u64 a0_5) := (zq5 BK101.out 5).trans rfl
                have hfz101_0 := zq4 BK101.out 0
                have hfz101_1 := zq4 BK101.out 1
                have hfz101_2 := zq4 BK101.out 2
                have hfz101_3 := zq4 BK101.out 3
                have hfz101_4 := zq4 BK101.out 4
                have hfz101_5 := zq4 BK101.out 5
                have p130 : 0 ≤ (x8_2 : Int) := of_decide_eq_true (by first | (with_reducible assumption) | assumption)
                have q130 : x8_2 < (l1.length : Int) := of_decide_eq_true (by first | (with_reducible assumption) | assumption)
                obtain ⟨ad130, e130, hx130_0, hx130_1, hx130_2⟩ := at_T28 HR1.out x8_2 p130 q130
                obtain rfl : ad111 = ad130 := (by injection e130)
                replace hx130_0 := (HB.out.cell (World.block_lt_of_cell? w _ hx130_0)).trans hx130_0
                replace hx130_1 := (HB.out.cell (World.block_lt_of_cell? w _ hx130_1)).trans hx130_1
                replace hx130_2 := (HB.out.cell (World.block_lt_of_cell? w _ hx130_2)).trans hx130_2
                replace p130 := eq_true p130
                replace q130 := eq_true q130
                go_wp2
                go_meet
                case rel => exact ⟨_, (decide (t125 < (ji86))), (by first | rfl | (simp; done) | (simp only [← hji86] <;> (first | rfl | simp)) | (simp [*]; done)), H', ⟨by have := HJ3.out; have := HK2.out; first | omega | exact Nat.le_refl _⟩, ⟨by (with_reducible repeat (first | refine zq0 ?_ _ | refine zq2 ?_ | refine zq1 ?_ _)); exact BK101.out⟩, ⟨by (with_reducible repeat (first | refine zq0 ?_ _ | refine zq2 ?_ | refine zq1 ?_ _)); exact BK107.out⟩, ⟨by (with_reducible repeat (first | refine zq0 ?_ _ | refine zq2 ?_ | refine zq1 ?_ _)); exact BK109.out⟩, ⟨by (with_reducible repeat (first | refine zq0 ?_ _ | refine zq2 ?_ | refine zq1 ?_ _)); exact BK118.out⟩, ⟨by (with_reducible repeat (first | refine zq0 ?_ _ | refine zq2 ?_ | refine zq1 ?_ _)); exact BK126.out⟩, ⟨by repeat (first | (with_reducible first | exact HB.out | apply zq9 | apply zq7 | apply zq8 | refine zq6 ?_ GE101.out | refine zq6 ?_ GE107.out | refine zq6 ?_ GE109.out | refine zq6 ?_ GE118.out | refine zq6 ?_ GE126.out) | exact HB.out)⟩⟩
               ·
                replace c85 := Bool.eq_false_iff.mpr c85
                subst c85
                have H1 : (weighbridgelaw26_SingleTakes.j2 k2 l1 x8_2 t125 t127 t128 (IntKind.u64.wrap (t113 - t121)) (IntKind.u64.wrap (t114 - t122)) false a0_0 false a0_2 a0_3 a0_4 a0_5 t102 t103 t104 t105 t121 t122 t123 true) = some r := by rw [if_neg (show ¬ (false = true) by decide)] at H; exact H
                clear H
                have H := H1
                clear H1
                have H' := zq3 H
                clear H
                have hnb102 := NB126_101.out
                have hnc102 := NB101_126.out
                have hnb103 := NB126_107.out
                have hnc103 := NB107_126.out
                have hnb104 := NB126_109.out
                have hnc104 := NB109_126.out
                have hnb105 := NB126_118.out
                have hnc105 := NB118_126.out
                have hcz106_0 : w46.cell? ⟨gb126, 0, none⟩ = some (.int .u64 t121) := (zq5 BK126.out 0).trans rfl
                have hcz106_1 : w46.cell? ⟨gb126, 1, none⟩ = some (.int .u64 t122) := (zq5 BK126.out 1).trans rfl
                have hcz106_2 : w46.cell? ⟨gb126, 2, none⟩ = some (.int .u64 t123) := (zq5 BK126.out 2).trans rfl
                have hcz106_3 : w46.cell? ⟨gb126, 3, none⟩ = some (.bool true) := (zq5 BK126.out 3).trans rfl
                have hfz106_0 := zq4 BK126.out 0
                have hfz106_1 := zq4 BK126.out 1
                have hfz106_2 := zq4 BK126.out 2
                have hfz106_3 := zq4 BK126.out 3
                have hnb107 := NB109_101.out
                have hnc107 := NB101_109.out
                have hnb108 := NB109_107.out
                have hnc108 := NB107_109.out
                have hnb109 := NB109_118.out
                have hnc109 := NB118_109.out
                have hcz110_0 : w46.cell? ⟨gb109, 0, none⟩ = some (.int .u64 t102) := (zq5 BK109.out 0).trans rfl
                have hcz110_1 : w46.cell? ⟨gb109, 1, none⟩ = some (.int .u64 t103) := (zq5 BK109.out 1).trans rfl
                have hcz110_2 : w46.cell? ⟨gb109, 2, none⟩ = some (.int .u64 t104) := (zq5 BK109.out 2).trans rfl
                have hcz110_3 : w46.cell? ⟨gb109, 3, none⟩ = some (.bool t105) := (zq5 BK109.out 3).trans rfl
                have hfz110_0 := zq4 BK109.out 0
                have hfz110_1 := zq4 BK109.out 1
                have hfz110_2 := zq4 BK109.out 2
                have hfz110_3 := zq4 BK109.out 3
                have hnb111 := NB118_101.out
                have hnc111 := NB101_118.out
                have hnb112 := NB118_107.out
                have hnc112 := NB107_118.out
                have hcz113_0 : w46.cell? ⟨gb118, 0, none⟩ = some (.int .u64 t113) := (zq5 BK118.out 0).trans rfl
                have hcz113_1 : w46.cell? ⟨gb118, 1, none⟩ = some (.int .u64 t114) := (zq5 BK118.out 1).trans rfl
                have hcz113_2 : w46.cell? ⟨gb118, 2, none⟩ = some (.int .u64 t115) := (zq5 BK118.out 2).trans rfl
                have hcz113_3 : w46.cell? ⟨gb118, 3, none⟩ = some (.bool t116) := (zq5 BK118.out 3).trans rfl
                have hfz113_0 := zq4 BK118.out 0
                have hfz113_1 := zq4 BK118.out 1
                have hfz113_2 := zq4 BK118.out 2
                have hfz113_3 := zq4 BK118.out 3
                have hnb114 := NB107_101.out
                have hnc114 := NB101_107.out
                have hcz115_0 : w46.cell? ⟨gb107, 0, none⟩ = some (.int .u64 x108000_2) := (zq5 BK107.out 0).trans rfl
                have hcz115_1 : w46.cell? ⟨gb107, 1, none⟩ = some (.int .u64 x108001_2) := (zq5 BK107.out 1).trans rfl
                have hcz115_2 : w46.cell? ⟨gb107, 2, none⟩ = some (.int .u64 x108002_2) := (zq5 BK107.out 2).trans rfl
                have hcz115_3 : w46.cell? ⟨gb107, 3, none⟩ = some (.bool false) := (zq5 BK107.out 3).trans rfl
                have hfz115_0 := zq4 BK107.out 0
                have hfz115_1 := zq4 BK107.out 1
                have hfz115_2 := zq4 BK107.out 2
                have hfz115_3 := zq4 BK107.out 3
                have hcz116_0 : w46.cell? ⟨gb101, 0, none⟩ = some (.int .i64 a0_0) := (zq5 BK101.out 0).trans rfl
                have hcz116_1 : w46.cell? ⟨gb101, 1, none⟩ = some (.bool false) := (zq5 BK101.out 1).trans rfl
                have hcz116_2 : w46.cell? ⟨gb101, 2, none⟩ = some (.int .u64 a0_2) := (zq5 BK101.out 2).trans rfl
                have hcz116_3 : w46.cell? ⟨gb101, 3, none⟩ = some (.int .u64 a0_3) := (zq5 BK101.out 3).trans rfl
                have hcz116_4 : w46.cell? ⟨gb101, 4, none⟩ = some (.int .u64 a0_4) := (zq5 BK101.out 4).trans rfl
                have hcz116_5 : w46.cell? ⟨gb101, 5, none⟩ = some (.int .u64 a0_5) := (zq5 BK101.out 5).trans rfl
                have hfz116_0 := zq4 BK101.out 0
                have hfz116_1 := zq4 BK101.out 1
                have hfz116_2 := zq4 BK101.out 2
                have hfz116_3 := zq4 BK101.out 3
                have hfz116_4 := zq4 BK101.out 4
                have hfz116_5 := zq4 BK101.out 5
                go_wp2
                go_meet
                case rel => exact ⟨_, (false), (by first | rfl | (simp; done) | (simp [*]; done)), H', ⟨by have := HJ3.out; have := HK2.out; first | omega | exact Nat.le_refl _⟩, ⟨by (with_reducible repeat (first | refine zq0 ?_ _ | refine zq2 ?_ | refine zq1 ?_ _)); exact BK101.out⟩, ⟨by (with_reducible repeat (first | refine zq0 ?_ _ | refine zq2 ?_ | refine zq1 ?_ _)); exact BK107.out⟩, ⟨by (with_reducible repeat (first | refine zq0 ?_ _ | refine zq2 ?_ | refine zq1 ?_ _)); exact BK109.out⟩, ⟨by (with_reducible repeat (first | refine zq0 ?_ _ | refine zq2 ?_ | refine zq1 ?_ _)); exact BK118.out⟩, ⟨by (with_reducible repeat (first | refine zq0 ?_ _ | refine zq2 ?_ | refine zq1 ?_ _)); exact BK126.out⟩, ⟨by repeat (first | (with_reducible first | exact HB.out | apply zq9 | apply zq7 | apply zq8 | refine zq6 ?_ GE101.out | refine zq6 ?_ GE107.out | refine zq6 ?_ GE109.out | refine zq6 ?_ GE118.out | refine zq6 ?_ GE126.out) | exact HB.out)⟩⟩
             ·
              replace c50 := Bool.eq_false_iff.mpr c50
              subst c50
              have H1 : (none) = some r := by rw [if_neg (show ¬ (false = true) by decide)] at H; exact H
              clear H
              have H := H1
              clear H1
              exact absurd H (by simp)
            ·
             rw [if_neg c49] at H
             exact absurd H (by simp)
         case rest =>
          clear HC27
          (try clear c1); (try clear p1); (try clear q1); (try clear hx1); (try clear p2); (try clear c4); (try clear c5); (try clear c6); (try clear c7); (try clear c8); (try clear c9); (try clear c10); (try clear c11); (try clear p12); (try clear q12); (try clear hx12); (try clear p13); (try clear q13); (try clear hx13); (try clear c19); (try clear c47); (try clear c47b0); (try clear c48); (try clear c48b0); (try clear c49); (try clear c49b0); (try clear c49b1); (try clear c50); (try clear c51); (try clear c52); (try clear c52b0); (try clear c53); (try clear c55); (try clear c56); (try clear c57); (try clear c58); (try clear c60); (try clear c61); (try clear c62); (try clear c64); (try clear c65); (try clear c67); (try clear c70); (try clear c71); (try clear c72); (try clear c73); (try clear c75); (try clear c76); (try clear c77); (try clear c79); (try clear c80); (try clear c82); (try clear c85); (try clear c87); (try clear c88); (try clear c89); (try clear c90); (try clear c92); (try clear c93); (try clear c94); (try clear c96); (try clear c97); (try clear c99); (try clear c102); (try clear c103); (try clear c104); (try clear c105); (try clear c107); (try clear c108); (try clear c109); (try clear c111); (try clear c112); (try clear c114); (try clear hcz100_0); (try clear hcz100_1); (try clear hcz100_2); (try clear hcz100_3); (try clear hcz101_0); (try clear hcz101_1); (try clear hcz101_2); (try clear hcz101_3); (try clear hcz101_4); (try clear hcz101_5); (try clear hcz106_0); (try clear hcz106_1); (try clear hcz106_2); (try clear hcz106_3); (try clear hcz110_0); (try clear hcz110_1); (try clear hcz110_2); (try clear hcz110_3); (try clear hcz113_0); (try clear hcz113_1); (try clear hcz113_2); (try clear hcz113_3); (try clear hcz115_0); (try clear hcz115_1); (try clear hcz115_2); (try clear hcz115_3); (try clear hcz116_0); (try clear hcz116_1); (try clear hcz116_2); (try clear hcz116_3); (try clear hcz116_4); (try clear hcz116_5); (try clear hcz59_0); (try clear hcz59_1); (try clear hcz59_2); (try clear hcz59_3); (try clear hcz63_0); (try clear hcz63_1); (try clear hcz63_2); (try clear hcz63_3); (try clear hcz66_0); (try clear hcz66_1); (try clear hcz66_2); (try clear hcz66_3); (try clear hcz68_0); (try clear hcz68_1); (try clear hcz68_2); (try clear hcz68_3); (try clear hcz69_0); (try clear hcz69_1); (try clear hcz69_2); (try clear hcz69_3); (try clear hcz69_4); (try clear hcz69_5); (try clear hcz74_0); (try clear hcz74_1); (try clear hcz74_2); (try clear hcz74_3); (try clear hcz78_0); (try clear hcz78_1); (try clear hcz78_2); (try clear hcz78_3); (try clear hcz81_0); (try clear hcz81_1); (try clear hcz81_2); (try clear hcz81_3); (try clear hcz83_0); (try clear hcz83_1); (try clear hcz83_2); (try clear hcz83_3); (try clear hcz84_0); (try clear hcz84_1); (try clear hcz84_2); (try clear hcz84_3); (try clear hcz84_4); (try clear hcz84_5); (try clear hcz91_0); (try clear hcz91_1); (try clear hcz91_2); (try clear hcz91_3); (try clear hcz95_0); (try clear hcz95_1); (try clear hcz95_2); (try clear hcz95_3); (try clear hcz98_0); (try clear hcz98_1); (try clear hcz98_2); (try clear hcz98_3); (try clear hfz100_0); (try clear hfz100_1); (try clear hfz100_2); (try clear hfz100_3); (try clear hfz101_0); (try clear hfz101_1); (try clear hfz101_2); (try clear hfz101_3); (try clear hfz101_4); (try clear hfz101_5); (try clear hfz106_0); (try clear hfz106_1); (try clear hfz106_2); (try clear hfz106_3); (try clear hfz110_0); (try clear hfz110_1); (try clear hfz110_2); (try clear hfz110_3); (try clear hfz113_0); (try clear hfz113_1); (try clear hfz113_2); (try clear hfz113_3); (try clear hfz115_0); (try clear hfz115_1); (try clear hfz115_2); (try clear hfz115_3); (try clear hfz116_0); (try clear hfz116_1); (try clear hfz116_2); (try clear hfz116_3); (try clear hfz116_4); (try clear hfz116_5); (try clear hfz59_0); (try clear hfz59_1); (try clear hfz59_2); (try clear hfz59_3); (try clear hfz63_0); (try clear hfz63_1); (try clear hfz63_2); (try clear hfz63_3); (try clear hfz66_0); (try clear hfz66_1); (try clear hfz66_2); (try clear hfz66_3); (try clear hfz68_0); (try clear hfz68_1); (try clear hfz68_2); (try clear hfz68_3); (try clear hfz69_0); (try clear hfz69_1); (try clear hfz69_2); (try clear hfz69_3); (try clear hfz69_4); (try clear hfz69_5); (try clear hfz74_0); (try clear hfz74_1); (try clear hfz74_2); (try clear hfz74_3); (try clear hfz78_0); (try clear hfz78_1); (try clear hfz78_2); (try clear hfz78_3); (try clear hfz81_0); (try clear hfz81_1); (try clear hfz81_2); (try clear hfz81_3); (try clear hfz83_0); (try clear hfz83_1); (try clear hfz83_2); (try clear hfz83_3); (try clear hfz84_0); (try clear hfz84_1); (try clear hfz84_2); (try clear hfz84_3); (try clear hfz84_4); (try clear hfz84_5); (try clear hfz91_0); (try clear hfz91_1); (try clear hfz91_2); (try clear hfz91_3); (try clear hfz95_0); (try clear hfz95_1); (try clear hfz95_2); (try clear hfz95_3); (try clear hfz98_0); (try clear hfz98_1); (try clear hfz98_2); (try clear hfz98_3); (try clear hx129_0); (try clear hx129_1); (try clear hx129_2); (try clear hx130_0); (try clear hx130_1); (try clear hx130_2); (try clear p129); (try clear p130); (try clear q129); (try clear q130)
          obtain ⟨kq, x137_26, rfl, HA, HJ26, BK101, BK107, BK109, BK118, BK126, HB⟩ := hcut
          cases kq with
          | zero => exact absurd HA.out (by simp [weighbridgelaw26_SingleTakes.j2])
          | succ kj26 =>
           have H := HA.out
           clear HA
           simp only [weighbridgelaw26_SingleTakes.j2] at H
           by_cases c117 : x137_26 = true
           ·
            subst c117
            have H1 : (none) = some r := by rw [if_pos rfl] at H; exact H
            clear H
            have H := H1
            clear H1
            exact absurd H (by simp)
           ·
            replace c117 := Bool.eq_false_iff.mpr c117
            subst c117
            have H1 : (if t125 < 0 then (none) else (weighbridgelaw26_SingleTakes.j3 kj26 l1 x8_2 t125 t127 t128 (IntKind.u64.wrap (t113 - t121)) (IntKind.u64.wrap (t114 - t122)) (decide (t125 > 2)) a0_0 a0_1 a0_2 a0_3 a0_4 a0_5 t102 t103 t104 t105 t121 t122 t123 t124)) = some r := by rw [if_neg (show ¬ (false = true) by decide)] at H; exact H
            clear H
            have H := H1
            clear H1
            have HC118 := zq3 H
            clear H
            go_upto_region 16 with (fail)
            go_cut [143] (fun v143 wc => ∃ (kq : Nat) (x143_117 : Bool), v143 = .bool x143_117 ∧ Aside0 (weighbridgelaw26_SingleTakes.j3 kq l1 x8_2 t125 t127 t128 (IntKind.u64.wrap (t113 - t121)) (IntKind.u64.wrap (t114 - t122)) x143_117 a0_0 a0_1 a0_2 a0_3 a0_4 a0_5 t102 t103 t104 t105 t121 t122 t123 t124 = some r) ∧ Aside0 (kq ≤ kj26) ∧ Aside0 (wc.heap[gb101]? = some (.cells #[.int .i64 a0_0, .bool a0_1, .int .u64 a0_2, .int .u64 a0_3, .int .u64 a0_4, .int .u64 a0_5] 24 (0, 0))) ∧ Aside0 (wc.heap[gb107]? = some (.cells #[.int .u64 x108000_2, .int .u64 x108001_2, .int .u64 x108002_2, .bool x108003_2] 26 (0, 0))) ∧ Aside0 (wc.heap[gb109]? = some (.cells #[.int .u64 t102, .int .u64 t103, .int .u64 t104, .bool t105] 26 (0, 0))) ∧ Aside0 (wc.heap[gb118]? = some (.cells #[.int .u64 t113, .int .u64 t114, .int .u64 t115, .bool t116] 26 (0, 0))) ∧ Aside0 (wc.heap[gb126]? = some (.cells #[.int .u64 t121, .int .u64 t122, .int .u64 t123, .bool t124] 26 (0, 0))) ∧ Aside0 (Below w.heap.size w wc))
            case first =>
             have H := HC118.out
             clear HC118
             by_cases c119 : t125 < 0
             ·
              rw [if_pos c119] at H
              exact absurd H (by simp)
             ·
              rw [if_neg c119] at H
              have c119b0 : decide (t125 < 0) = false := decide_eq_false c119
              clear c119
              (first | rw [c119b0] | (simp only [i64_w, i32_w]; rw [c119b0]) | skip)
              have H' := zq3 H
              clear H
              go_wp2
              go_meet
              case rel => exact ⟨_, (decide (t125 > 2)), (by first | rfl | (simp; done) | (simp [*]; done)), H', ⟨by have := HJ3.out; have := HK2.out; have := HJ26.out; first | omega | exact Nat.le_refl _⟩, ⟨by (with_reducible repeat (first | refine zq0 ?_ _ | refine zq2 ?_ | refine zq1 ?_ _)); exact BK101.out⟩, ⟨by (with_reducible repeat (first | refine zq0 ?_ _ | refine zq2 ?_ | refine zq1 ?_ _)); exact BK107.out⟩, ⟨by (with_reducible repeat (first | refine zq0 ?_ _ | refine zq2 ?_ | refine zq1 ?_ _)); exact BK109.out⟩, ⟨by (with_reducible repeat (first | refine zq0 ?_ _ | refine zq2 ?_ | refine zq1 ?_ _)); exact BK118.out⟩, ⟨by (with_reducible repeat (first | refine zq0 ?_ _ | refine zq2 ?_ | refine zq1 ?_ _)); exact BK126.out⟩, ⟨by repeat (first | (with_reducible first | exact HB.out | apply zq9 | apply zq7 | apply zq8 | refine zq6 ?_ GE101.out | refine zq6 ?_ GE107.out | refine zq6 ?_ GE109.out | refine zq6 ?_ GE118.out | refine zq6 ?_ GE126.out) | exact HB.out)⟩⟩
            case rest =>
             clear HC118
             (try clear c1); (try clear p1); (try clear q1); (try clear hx1); (try clear p2); (try clear c4); (try clear c5); (try clear c6); (try clear c7); (try clear c8); (try clear c9); (try clear c10); (try clear c11); (try clear p12); (try clear q12); (try clear hx12); (try clear p13); (try clear q13); (try clear hx13); (try clear c19); (try clear c47); (try clear c47b0); (try clear c48); (try clear c48b0); (try clear c49); (try clear c49b0); (try clear c49b1); (try clear c50); (try clear c51); (try clear c52); (try clear c52b0); (try clear c53); (try clear c55); (try clear c56); (try clear c57); (try clear c58); (try clear c60); (try clear c61); (try clear c62); (try clear c64); (try clear c65); (try clear c67); (try clear c70); (try clear c71); (try clear c72); (try clear c73); (try clear c75); (try clear c76); (try clear c77); (try clear c79); (try clear c80); (try clear c82); (try clear c85); (try clear c87); (try clear c88); (try clear c89); (try clear c90); (try clear c92); (try clear c93); (try clear c94); (try clear c96); (try clear c97); (try clear c99); (try clear c102); (try clear c103); (try clear c104); (try clear c105); (try clear c107); (try clear c108); (try clear c109); (try clear c111); (try clear c112); (try clear c114); (try clear c117); (try clear c119); (try clear c119b0); (try clear hcz100_0); (try clear hcz100_1); (try clear hcz100_2); (try clear hcz100_3); (try clear hcz101_0); (try clear hcz101_1); (try clear hcz101_2); (try clear hcz101_3); (try clear hcz101_4); (try clear hcz101_5); (try clear hcz106_0); (try clear hcz106_1); (try clear hcz106_2); (try clear hcz106_3); (try clear hcz110_0); (try clear hcz110_1); (try clear hcz110_2); (try clear hcz110_3); (try clear hcz113_0); (try clear hcz113_1); (try clear hcz113_2); (try clear hcz113_3); (try clear hcz115_0); (try clear hcz115_1); (try clear hcz115_2); (try clear hcz115_3); (try clear hcz116_0); (try clear hcz116_1); (try clear hcz116_2); (try clear hcz116_3); (try clear hcz116_4); (try clear hcz116_5); (try clear hcz59_0); (try clear hcz59_1); (try clear hcz59_2); (try clear hcz59_3); (try clear hcz63_0); (try clear hcz63_1); (try clear hcz63_2); (try clear hcz63_3); (try clear hcz66_0); (try clear hcz66_1); (try clear hcz66_2); (try clear hcz66_3); (try clear hcz68_0); (try clear hcz68_1); (try clear hcz68_2); (try clear hcz68_3); (try clear hcz69_0); (try clear hcz69_1); (try clear hcz69_2); (try clear hcz69_3); (try clear hcz69_4); (try clear hcz69_5); (try clear hcz74_0); (try clear hcz74_1); (try clear hcz74_2); (try clear hcz74_3); (try clear hcz78_0); (try clear hcz78_1); (try clear hcz78_2); (try clear hcz78_3); (try clear hcz81_0); (try clear hcz81_1); (try clear hcz81_2); (try clear hcz81_3); (try clear hcz83_0); (try clear hcz83_1); (try clear hcz83_2); (try clear hcz83_3); (try clear hcz84_0); (try clear hcz84_1); (try clear hcz84_2); (try clear hcz84_3); (try clear hcz84_4); (try clear hcz84_5); (try clear hcz91_0); (try clear hcz91_1); (try clear hcz91_2); (try clear hcz91_3); (try clear hcz95_0); (try clear hcz95_1); (try clear hcz95_2); (try clear hcz95_3); (try clear hcz98_0); (try clear hcz98_1); (try clear hcz98_2); (try clear hcz98_3); (try clear hfz100_0); (try clear hfz100_1); (try clear hfz100_2); (try clear hfz100_3); (try clear hfz101_0); (try clear hfz101_1); (try clear hfz101_2); (try clear hfz101_3); (try clear hfz101_4); (try clear hfz101_5); (try clear hfz106_0); (try clear hfz106_1); (try clear hfz106_2); (try clear hfz106_3); (try clear hfz110_0); (try clear hfz110_1); (try clear hfz110_2); (try clear hfz110_3); (try clear hfz113_0); (try clear hfz113_1); (try clear hfz113_2); (try clear hfz113_3); (try clear hfz115_0); (try clear hfz115_1); (try clear hfz115_2); (try clear hfz115_3); (try clear hfz116_0); (try clear hfz116_1); (try clear hfz116_2); (try clear hfz116_3); (try clear hfz116_4); (try clear hfz116_5); (try clear hfz59_0); (try clear hfz59_1); (try clear hfz59_2); (try clear hfz59_3); (try clear hfz63_0); (try clear hfz63_1); (try clear hfz63_2); (try clear hfz63_3); (try clear hfz66_0); (try clear hfz66_1); (try clear hfz66_2); (try clear hfz66_3); (try clear hfz68_0); (try clear hfz68_1); (try clear hfz68_2); (try clear hfz68_3); (try clear hfz69_0); (try clear hfz69_1); (try clear hfz69_2); (try clear hfz69_3); (try clear hfz69_4); (try clear hfz69_5); (try clear hfz74_0); (try clear hfz74_1); (try clear hfz74_2); (try clear hfz74_3); (try clear hfz78_0); (try clear hfz78_1); (try clear hfz78_2); (try clear hfz78_3); (try clear hfz81_0); (try clear hfz81_1); (try clear hfz81_2); (try clear hfz81_3); (try clear hfz83_0); (try clear hfz83_1); (try clear hfz83_2); (try clear hfz83_3); (try clear hfz84_0); (try clear hfz84_1); (try clear hfz84_2); (try clear hfz84_3); (try clear hfz84_4); (try clear hfz84_5); (try clear hfz91_0); (try clear hfz91_1); (try clear hfz91_2); (try clear hfz91_3); (try clear hfz95_0); (try clear hfz95_1); (try clear hfz95_2); (try clear hfz95_3); (try clear hfz98_0); (try clear hfz98_1); (try clear hfz98_2); (try clear hfz98_3); (try clear hx129_0); (try clear hx129_1); (try clear hx129_2); (try clear hx130_0); (try clear hx130_1); (try clear hx130_2); (try clear p1); (try clear p12); (try clear p129); (try clear p13); (try clear p130); (try clear p2); (try clear q1); (try clear q12); (try clear q129); (try clear q13); (try clear q130)
             obtain ⟨kq, x143_117, rfl, HA, HJ117, BK101, BK107, BK109, BK118, BK126, HB⟩ := hcut
             cases kq with
             | zero => exact absurd HA.out (by simp [weighbridgelaw26_SingleTakes.j3])
             | succ kj117 =>
              have H := HA.out
              clear HA
              simp only [weighbridgelaw26_SingleTakes.j3] at H
              by_cases c120 : x143_117 = true
              ·
               subst c120
               have H1 : (none) = some r := by rw [if_pos rfl] at H; exact H
               clear H
               have H := H1
               clear H1
               exact absurd H (by simp)
              ·
               replace c120 := Bool.eq_false_iff.mpr c120
               subst c120
               have H1 : (if t128 = true then (weighbridgelaw26_SingleTakes.j4 kj117 l1 x8_2 t125 t127 t128 (IntKind.u64.wrap (t113 - t121)) (IntKind.u64.wrap (t114 - t122)) (t125 != 2) a0_0 a0_1 a0_2 a0_3 a0_4 a0_5 t102 t103 t104 t105 t121 t122 t123 t124 0 0) else (weighbridgelaw26_SingleTakes.j4 kj117 l1 x8_2 t125 t127 t128 (IntKind.u64.wrap (t113 - t121)) (IntKind.u64.wrap (t114 - t122)) false a0_0 a0_1 a0_2 a0_3 a0_4 a0_5 t102 t103 t104 t105 t121 t122 t123 t124 0 0)) = some r := by rw [if_neg (show ¬ (false = true) by decide)] at H; exact H
               clear H
               have H := H1
               clear H1
               have HC121 := zq3 H
               clear H
               go_upto_region 19 with (first | ((with_reducible refine gate_dst (N := 18) rfl ?_); (try (refine gate_guard (by rfl) ?_; dsimp only)); refine box_event ?hg (N := 18) ?hd (cs := #[.int .u64 0, .int .u64 0]) (t := 41) ?hr ?_; (case hd => rfl); (case hg => rfl); (case hr => first | (go_simp; done) | (go_simp; rfl)); intro gb131 hg w122 hbox hb; have n0_ := zq3 (zq10 (g := gb101) (o := .cells #[.int .i64 a0_0, .bool a0_1, .int .u64 a0_2, .int .u64 a0_3, .int .u64 a0_4, .int .u64 a0_5] 24 (0, 0)) (by (with_reducible repeat (first | refine zq0 ?_ _ | refine zq2 ?_ | refine zq1 ?_ _)); exact BK101.out) hb); have n1_ := zq3 (zq10 (g := gb107) (o := .cells #[.int .u64 x108000_2, .int .u64 x108001_2, .int .u64 x108002_2, .bool x108003_2] 26 (0, 0)) (by (with_reducible repeat (first | refine zq0 ?_ _ | refine zq2 ?_ | refine zq1 ?_ _)); exact BK107.out) hb); have n2_ := zq3 (zq10 (g := gb109) (o := .cells #[.int .u64 t102, .int .u64 t103, .int .u64 t104, .bool t105] 26 (0, 0)) (by (with_reducible repeat (first | refine zq0 ?_ _ | refine zq2 ?_ | refine zq1 ?_ _)); exact BK109.out) hb); have n3_ := zq3 (zq10 (g := gb118) (o := .cells #[.int .u64 t113, .int .u64 t114, .int .u64 t115, .bool t116] 26 (0, 0)) (by (with_reducible repeat (first | refine zq0 ?_ _ | refine zq2 ?_ | refine zq1 ?_ _)); exact BK118.out) hb); have n4_ := zq3 (zq10 (g := gb126) (o := .cells #[.int .u64 t121, .int .u64 t122, .int .u64 t123, .bool t124] 26 (0, 0)) (by (with_reducible repeat (first | refine zq0 ?_ _ | refine zq2 ?_ | refine zq1 ?_ _)); exact BK126.out) hb); have n5_ := zq3 (below_step (by repeat (first | (with_reducible first | exact HB.out | apply zq9 | apply zq7 | apply zq8 | refine zq6 ?_ GE101.out | refine zq6 ?_ GE107.out | refine zq6 ?_ GE109.out | refine zq6 ?_ GE118.out | refine zq6 ?_ GE126.out) | exact HB.out)) hb); have n6_ := zq3 (hbox); have n7_ := zq3 ((by rw [hg]; exact (below_size (by repeat (first | (with_reducible first | exact HB.out | apply zq9 | apply zq7 | apply zq8 | refine zq6 ?_ GE101.out | refine zq6 ?_ GE107.out | refine zq6 ?_ GE109.out | refine zq6 ?_ GE118.out | refine zq6 ?_ GE126.out) | exact HB.out))) : w.heap.size ≤ gb131)); have n8_ := zq3 ((by rw [hg]; exact (below_size (by repeat (first | (with_reducible first | exact HB.out | apply zq9 | apply zq7 | apply zq8 | refine zq6 ?_ GE101.out | refine zq6 ?_ GE107.out | refine zq6 ?_ GE109.out | refine zq6 ?_ GE118.out | refine zq6 ?_ GE126.out) | exact HB.out))) : w.heap.size ≤ gb131)); have n9_ := zq3 ((by rw [hg]; exact Nat.ne_of_lt (blk_lt (g := gb101) (o := .cells #[.int .i64 a0_0, .bool a0_1, .int .u64 a0_2, .int .u64 a0_3, .int .u64 a0_4, .int .u64 a0_5] 24 (0, 0)) (by (with_reducible repeat (first | refine zq0 ?_ _ | refine zq2 ?_ | refine zq1 ?_ _)); exact BK101.out)) : gb101 ≠ gb131)); have n10_ := zq3 ((by rw [hg]; exact Nat.ne_of_gt (blk_lt (g := gb101) (o := .cells #[.int .i64 a0_0, .bool a0_1, .int .u64 a0_2, .int .u64 a0_3, .int .u64 a0_4, .int .u64 a0_5] 24 (0, 0)) (by (with_reducible repeat (first | refine zq0 ?_ _ | refine zq2 ?_ | refine zq1 ?_ _)); exact BK101.out)) : gb131 ≠ gb101)); have n11_ := zq3 ((by rw [hg]; exact Nat.ne_of_lt (blk_lt (g := gb107) (o := .cells #[.int .u64 x108000_2, .int .u64 x108001_2, .int .u64 x108002_2, .bool x108003_2] 26 (0, 0)) (by (with_reducible repeat (first | refine zq0 ?_ _ | refine zq2 ?_ | refine zq1 ?_ _)); exact BK107.out)) : gb107 ≠ gb131)); have n12_ := zq3 ((by rw [hg]; exact Nat.ne_of_gt (blk_lt (g := gb107) (o := .cells #[.int .u64 x108000_2, .int .u64 x108001_2, .int .u64 x108002_2, .bool x108003_2] 26 (0, 0)) (by (with_reducible repeat (first | refine zq0 ?_ _ | refine zq2 ?_ | refine zq1 ?_ _)); exact BK107.out)) : gb131 ≠ gb107)); have n13_ := zq3 ((by rw [hg]; exact Nat.ne_of_lt (blk_lt (g := gb109) (o := .cells #[.int .u64 t102, .int .u64 t103, .int .u64 t104, .bool t105] 26 (0, 0)) (by (with_reducible repeat (first | refine zq0 ?_ _ | refine zq2 ?_ | refine zq1 ?_ _)); exact BK109.out)) : gb109 ≠ gb131)); have n14_ := zq3 ((by rw [hg]; exact Nat.ne_of_gt (blk_lt (g := gb109) (o := .cells #[.int .u64 t102, .int .u64 t103, .int .u64 t104, .bool t105] 26 (0, 0)) (by (with_reducible repeat (first | refine zq0 ?_ _ | refine zq2 ?_ | refine zq1 ?_ _)); exact BK109.out)) : gb131 ≠ gb109)); have n15_ := zq3 ((by rw [hg]; exact Nat.ne_of_lt (blk_lt (g := gb118) (o := .cells #[.int .u64 t113, .int .u64 t114, .int .u64 t115, .bool t116] 26 (0, 0)) (by (with_reducible repeat (first | refine zq0 ?_ _ | refine zq2 ?_ | refine zq1 ?_ _)); exact BK118.out)) : gb118 ≠ gb131)); have n16_ := zq3 ((by rw [hg]; exact Nat.ne_of_gt (blk_lt (g := gb118) (o := .cells #[.int .u64 t113, .int .u64 t114, .int .u64 t115, .bool t116] 26 (0, 0)) (by (with_reducible repeat (first | refine zq0 ?_ _ | refine zq2 ?_ | refine zq1 ?_ _)); exact BK118.out)) : gb131 ≠ gb118)); have n17_ := zq3 ((by rw [hg]; exact Nat.ne_of_lt (blk_lt (g := gb126) (o := .cells #[.int .u64 t121, .int .u64 t122, .int .u64 t123, .bool t124] 26 (0, 0)) (by (with_reducible repeat (first | refine zq0 ?_ _ | refine zq2 ?_ | refine zq1 ?_ _)); exact BK126.out)) : gb126 ≠ gb131)); have n18_ := zq3 ((by rw [hg]; exact Nat.ne_of_gt (blk_lt (g := gb126) (o := .cells #[.int .u64 t121, .int .u64 t122, .int .u64 t123, .bool t124] 26 (0, 0)) (by (with_reducible repeat (first | refine zq0 ?_ _ | refine zq2 ?_ | refine zq1 ?_ _)); exact BK126.out)) : gb131 ≠ gb126)); clear BK101; clear BK107; clear BK109; clear BK118; clear BK126; clear HB; have BK101 := n0_; have BK107 := n1_; have BK109 := n2_; have BK118 := n3_; have BK126 := n4_; have HB := n5_; have BK131 := n6_; have GW131 := n7_; have GE131 := n8_; have NB101_131 := n9_; have NB131_101 := n10_; have NB107_131 := n11_; have NB131_107 := n12_; have NB109_131 := n13_; have NB131_109 := n14_; have NB118_131 := n15_; have NB131_118 := n16_; have NB126_131 := n17_; have NB131_126 := n18_; clear n0_ n1_ n2_ n3_ n4_ n5_ n6_ n7_ n8_ n9_ n10_ n11_ n12_ n13_ n14_ n15_ n16_ n17_ n18_; clear hb hbox hg; have hnb123 := NB131_101.out; have hnc123 := NB101_131.out; have hnb124 := NB131_107.out; have hnc124 := NB107_131.out; have hnb125 := NB131_109.out; have hnc125 := NB109_131.out; have hnb126 := NB131_118.out; have hnc126 := NB118_131.out; have hnb127 := NB131_126.out; have hnc127 := NB126_131.out; have hcz128_0 : w122.cell? ⟨gb131, 0, none⟩ = some (.int .u64 0) := (zq5 BK131.out 0).trans rfl; have hcz128_1 : w122.cell? ⟨gb131, 1, none⟩ = some (.int .u64 0) := (zq5 BK131.out 1).trans rfl; have hfz128_0 := zq4 BK131.out 0; have hfz128_1 := zq4 BK131.out 1))
               (try simp only [Act.put, List.setIfInBounds_toArray, List.set_cons_zero, List.set_cons_succ])
               go_cut [149] (fun v149 wc => ∃ (kq : Nat) (x149_120 : Bool), v149 = .bool x149_120 ∧ Aside0 (weighbridgelaw26_SingleTakes.j4 kq l1 x8_2 t125 t127 t128 (IntKind.u64.wrap (t113 - t121)) (IntKind.u64.wrap (t114 - t122)) x149_120 a0_0 a0_1 a0_2 a0_3 a0_4 a0_5 t102 t103 t104 t105 t121 t122 t123 t124 0 0 = some r) ∧ Aside0 (kq ≤ kj117) ∧ Aside0 (wc.heap[gb101]? = some (.cells #[.int .i64 a0_0, .bool a0_1, .int .u64 a0_2, .int .u64 a0_3, .int .u64 a0_4, .int .u64 a0_5] 24 (0, 0))) ∧ Aside0 (wc.heap[gb107]? = some (.cells #[.int .u64 x108000_2, .int .u64 x108001_2, .int .u64 x108002_2, .bool x108003_2] 26 (0, 0))) ∧ Aside0 (wc.heap[gb109]? = some (.cells #[.int .u64 t102, .int .u64 t103, .int .u64 t104, .bool t105] 26 (0, 0))) ∧ Aside0 (wc.heap[gb118]? = some (.cells #[.int .u64 t113, .int .u64 t114, .int .u64 t115, .bool t116] 26 (0, 0))) ∧ Aside0 (wc.heap[gb126]? = some (.cells #[.int .u64 t121, .int .u64 t122, .int .u64 t123, .bool t124] 26 (0, 0))) ∧ Aside0 (wc.heap[gb131]? = some (.cells #[.int .u64 0, .int .u64 0] 41 (0, 0))) ∧ Aside0 (Below w.heap.size w wc))
               case first =>
                have H := HC121.out
                clear HC121
                by_cases c129 : t128 = true
                ·
                 subst c129
                 have H1 : (weighbridgelaw26_SingleTakes.j4 kj117 l1 x8_2 t125 t127 true (IntKind.u64.wrap (t113 - t121)) (IntKind.u64.wrap (t114 - t122)) (t125 != 2) a0_0 a0_1 a0_2 a0_3 a0_4 a0_5 t102 t103 t104 t105 t121 t122 t123 t124 0 0) = some r := by rw [if_pos rfl] at H; exact H
                 clear H
                 have H := H1
                 clear H1
                 have H' := zq3 H
                 clear H
                 go_wp2
                 go_meet
                 case rel => exact ⟨_, ((t125 != 2)), (by first | rfl | (simp; done) | (simp [*]; done)), H', ⟨by have := HJ3.out; have := HK2.out; have := HJ26.out; have := HJ117.out; first | omega | exact Nat.le_refl _⟩, ⟨by (with_reducible repeat (first | refine zq0 ?_ _ | refine zq2 ?_ | refine zq1 ?_ _)); refine zq11 ?_ NB101_131.out _; (with_reducible repeat (first | refine zq0 ?_ _ | refine zq2 ?_ | refine zq1 ?_ _)); refine zq11 ?_ NB101_131.out _; (with_reducible repeat (first | refine zq0 ?_ _ | refine zq2 ?_ | refine zq1 ?_ _)); exact BK101.out⟩, ⟨by (with_reducible repeat (first | refine zq0 ?_ _ | refine zq2 ?_ | refine zq1 ?_ _)); refine zq11 ?_ NB107_131.out _; (with_reducible repeat (first | refine zq0 ?_ _ | refine zq2 ?_ | refine zq1 ?_ _)); refine zq11 ?_ NB107_131.out _; (with_reducible repeat (first | refine zq0 ?_ _ | refine zq2 ?_ | refine zq1 ?_ _)); exact BK107.out⟩, ⟨by (with_reducible repeat (first | refine zq0 ?_ _ | refine zq2 ?_ | refine zq1 ?_ _)); refine zq11 ?_ NB109_131.out _; (with_reducible repeat (first | refine zq0 ?_ _ | refine zq2 ?_ | refine zq1 ?_ _)); refine zq11 ?_ NB109_131.out _; (with_reducible repeat (first | refine zq0 ?_ _ | refine zq2 ?_ | refine zq1 ?_ _)); exact BK109.out⟩, ⟨by (with_reducible repeat (first | refine zq0 ?_ _ | refine zq2 ?_ | refine zq1 ?_ _)); refine zq11 ?_ NB118_131.out _; (with_reducible repeat (first | refine zq0 ?_ _ | refine zq2 ?_ | refine zq1 ?_ _)); refine zq11 ?_ NB118_131.out _; (with_reducible repeat (first | refine zq0 ?_ _ | refine zq2 ?_ | refine zq1 ?_ _)); exact BK118.out⟩, ⟨by (with_reducible repeat (first | refine zq0 ?_ _ | refine zq2 ?_ | refine zq1 ?_ _)); refine zq11 ?_ NB126_131.out _; (with_reducible repeat (first | refine zq0 ?_ _ | refine zq2 ?_ | refine zq1 ?_ _)); refine zq11 ?_ NB126_131.out _; (with_reducible repeat (first | refine zq0 ?_ _ | refine zq2 ?_ | refine zq1 ?_ _)); exact BK126.out⟩, ⟨by (with_reducible repeat (first | refine zq0 ?_ _ | refine zq2 ?_ | refine zq1 ?_ _)); refine blk_put (cs := #[.int .u64 0, .int .u64 0]) ?_ 1 _ rfl; (with_reducible repeat (first | refine zq0 ?_ _ | refine zq2 ?_ | refine zq1 ?_ _)); refine blk_put (cs := #[.int .u64 0, .int .u64 0]) ?_ 0 _ rfl; (with_reducible repeat (first | refine zq0 ?_ _ | refine zq2 ?_ | refine zq1 ?_ _)); exact BK131.out⟩, ⟨by repeat (first | (with_reducible first | exact HB.out | apply zq9 | apply zq7 | apply zq8 | refine zq6 ?_ GE101.out | refine zq6 ?_ GE107.out | refine zq6 ?_ GE109.out | refine zq6 ?_ GE118.out | refine zq6 ?_ GE126.out | refine zq6 ?_ GE131.out) | exact HB.out)⟩⟩
                ·
                 replace c129 := Bool.eq_false_iff.mpr c129
                 subst c129
                 have H1 : (weighbridgelaw26_SingleTakes.j4 kj117 l1 x8_2 t125 t127 false (IntKind.u64.wrap (t113 - t121)) (IntKind.u64.wrap (t114 - t122)) false a0_0 a0_1 a0_2 a0_3 a0_4 a0_5 t102 t103 t104 t105 t121 t122 t123 t124 0 0) = some r := by rw [if_neg (show ¬ (false = true) by decide)] at H; exact H
                 clear H
                 have H := H1
                 clear H1
                 have H' := zq3 H
                 clear H
                 go_wp2
                 go_meet
                 case rel => exact ⟨_, (false), (by first | rfl | (simp; done) | (simp [*]; done)), H', ⟨by have := HJ3.out; have := HK2.out; have := HJ26.out; have := HJ117.out; first | omega | exact Nat.le_refl _⟩, ⟨by (with_reducible repeat (first | refine zq0 ?_ _ | refine zq2 ?_ | refine zq1 ?_ _)); refine zq11 ?_ NB101_131.out _; (with_reducible repeat (first | refine zq0 ?_ _ | refine zq2 ?_ | refine zq1 ?_ _)); refine zq11 ?_ NB101_131.out _; (with_reducible repeat (first | refine zq0 ?_ _ | refine zq2 ?_ | refine zq1 ?_ _)); exact BK101.out⟩, ⟨by (with_reducible repeat (first | refine zq0 ?_ _ | refine zq2 ?_ | refine zq1 ?_ _)); refine zq11 ?_ NB107_131.out _; (with_reducible repeat (first | refine zq0 ?_ _ | refine zq2 ?_ | refine zq1 ?_ _)); refine zq11 ?_ NB107_131.out _; (with_reducible repeat (first | refine zq0 ?_ _ | refine zq2 ?_ | refine zq1 ?_ _)); exact BK107.out⟩, ⟨by (with_reducible repeat (first | refine zq0 ?_ _ | refine zq2 ?_ | refine zq1 ?_ _)); refine zq11 ?_ NB109_131.out _; (with_reducible repeat (first | refine zq0 ?_ _ | refine zq2 ?_ | refine zq1 ?_ _)); refine zq11 ?_ NB109_131.out _; (with_reducible repeat (first | refine zq0 ?_ _ | refine zq2 ?_ | refine zq1 ?_ _)); exact BK109.out⟩, ⟨by (with_reducible repeat (first | refine zq0 ?_ _ | refine zq2 ?_ | refine zq1 ?_ _)); refine zq11 ?_ NB118_131.out _; (with_reducible repeat (first | refine zq0 ?_ _ | refine zq2 ?_ | refine zq1 ?_ _)); refine zq11 ?_ NB118_131.out _; (with_reducible repeat (first | refine zq0 ?_ _ | refine zq2 ?_ | refine zq1 ?_ _)); exact BK118.out⟩, ⟨by (with_reducible repeat (first | refine zq0 ?_ _ | refine zq2 ?_ | refine zq1 ?_ _)); refine zq11 ?_ NB126_131.out _; (with_reducible repeat (first | refine zq0 ?_ _ | refine zq2 ?_ | refine zq1 ?_ _)); refine zq11 ?_ NB126_131.out _; (with_reducible repeat (first | refine zq0 ?_ _ | refine zq2 ?_ | refine zq1 ?_ _)); exact BK126.out⟩, ⟨by (with_reducible repeat (first | refine zq0 ?_ _ | refine zq2 ?_ | refine zq1 ?_ _)); refine blk_put (cs := #[.int .u64 0, .int .u64 0]) ?_ 1 _ rfl; (with_reducible repeat (first | refine zq0 ?_ _ | refine zq2 ?_ | refine zq1 ?_ _)); refine blk_put (cs := #[.int .u64 0, .int .u64 0]) ?_ 0 _ rfl; (with_reducible repeat (first | refine zq0 ?_ _ | refine zq2 ?_ | refine zq1 ?_ _)); exact BK131.out⟩, ⟨by repeat (first | (with_reducible first | exact HB.out | apply zq9 | apply zq7 | apply zq8 | refine zq6 ?_ GE101.out | refine zq6 ?_ GE107.out | refine zq6 ?_ GE109.out | refine zq6 ?_ GE118.out | refine zq6 ?_ GE126.out | refine zq6 ?_ GE131.out) | exact HB.out)⟩⟩
               case rest =>
                clear HC121
                (try clear c1); (try clear p1); (try clear q1); (try clear hx1); (try clear p2); (try clear c4); (try clear c5); (try clear c6); (try clear c7); (try clear c8); (try clear c9); (try clear c10); (try clear c11); (try clear c12); (try clear p12); (try clear q12); (try clear hx12); (try clear p13); (try clear q13); (try clear hx13); (try clear c19); (try clear c47); (try clear c47b0); (try clear c48); (try clear c48b0); (try clear c49); (try clear c49b0); (try clear c49b1); (try clear c50); (try clear c51); (try clear c52); (try clear c52b0); (try clear c53); (try clear c55); (try clear c56); (try clear c57); (try clear c58); (try clear c60); (try clear c61); (try clear c62); (try clear c64); (try clear c65); (try clear c67); (try clear c70); (try clear c71); (try clear c72); (try clear c73); (try clear c75); (try clear c76); (try clear c77); (try clear c79); (try clear c80); (try clear c82); (try clear c85); (try clear c87); (try clear c88); (try clear c89); (try clear c90); (try clear c92); (try clear c93); (try clear c94); (try clear c96); (try clear c97); (try clear c99); (try clear c102); (try clear c103); (try clear c104); (try clear c105); (try clear c107); (try clear c108); (try clear c109); (try clear c111); (try clear c112); (try clear c114); (try clear c117); (try clear c119); (try clear c119b0); (try clear c120); (try clear c123); (try clear c124); (try clear c125); (try clear c126); (try clear c127); (try clear c129); (try clear p129); (try clear q129); (try clear hx129); (try clear hcz100_0); (try clear hcz100_1); (try clear hcz100_2); (try clear hcz100_3); (try clear hcz101_0); (try clear hcz101_1); (try clear hcz101_2); (try clear hcz101_3); (try clear hcz101_4); (try clear hcz101_5); (try clear hcz106_0); (try clear hcz106_1); (try clear hcz106_2); (try clear hcz106_3); (try clear hcz110_0); (try clear hcz110_1); (try clear hcz110_2); (try clear hcz110_3); (try clear hcz113_0); (try clear hcz113_1); (try clear hcz113_2); (try clear hcz113_3); (try clear hcz115_0); (try clear hcz115_1); (try clear hcz115_2); (try clear hcz115_3); (try clear hcz116_0); (try clear hcz116_1); (try clear hcz116_2); (try clear hcz116_3); (try clear hcz116_4); (try clear hcz116_5); (try clear hcz128_0); (try clear hcz128_1); (try clear hcz59_0); (try clear hcz59_1); (try clear hcz59_2); (try clear hcz59_3); (try clear hcz63_0); (try clear hcz63_1); (try clear hcz63_2); (try clear hcz63_3); (try clear hcz66_0); (try clear hcz66_1); (try clear hcz66_2); (try clear hcz66_3); (try clear hcz68_0); (try clear hcz68_1); (try clear hcz68_2); (try clear hcz68_3); (try clear hcz69_0); (try clear hcz69_1); (try clear hcz69_2); (try clear hcz69_3); (try clear hcz69_4); (try clear hcz69_5); (try clear hcz74_0); (try clear hcz74_1); (try clear hcz74_2); (try clear hcz74_3); (try clear hcz78_0); (try clear hcz78_1); (try clear hcz78_2); (try clear hcz78_3); (try clear hcz81_0); (try clear hcz81_1); (try clear hcz81_2); (try clear hcz81_3); (try clear hcz83_0); (try clear hcz83_1); (try clear hcz83_2); (try clear hcz83_3); (try clear hcz84_0); (try clear hcz84_1); (try clear hcz84_2); (try clear hcz84_3); (try clear hcz84_4); (try clear hcz84_5); (try clear hcz91_0); (try clear hcz91_1); (try clear hcz91_2); (try clear hcz91_3); (try clear hcz95_0); (try clear hcz95_1); (try clear hcz95_2); (try clear hcz95_3); (try clear hcz98_0); (try clear hcz98_1); (try clear hcz98_2); (try clear hcz98_3); (try clear hfz100_0); (try clear hfz100_1); (try clear hfz100_2); (try clear hfz100_3); (try clear hfz101_0); (try clear hfz101_1); (try clear hfz101_2); (try clear hfz101_3); (try clear hfz101_4); (try clear hfz101_5); (try clear hfz106_0); (try clear hfz106_1); (try clear hfz106_2); (try clear hfz106_3); (try clear hfz110_0); (try clear hfz110_1); (try clear hfz110_2); (try clear hfz110_3); (try clear hfz113_0); (try clear hfz113_1); (try clear hfz113_2); (try clear hfz113_3); (try clear hfz115_0); (try clear hfz115_1); (try clear hfz115_2); (try clear hfz115_3); (try clear hfz116_0); (try clear hfz116_1); (try clear hfz116_2); (try clear hfz116_3); (try clear hfz116_4); (try clear hfz116_5); (try clear hfz128_0); (try clear hfz128_1); (try clear hfz59_0); (try clear hfz59_1); (try clear hfz59_2); (try clear hfz59_3); (try clear hfz63_0); (try clear hfz63_1); (try clear hfz63_2); (try clear hfz63_3); (try clear hfz66_0); (try clear hfz66_1); (try clear hfz66_2); (try clear hfz66_3); (try clear hfz68_0); (try clear hfz68_1); (try clear hfz68_2); (try clear hfz68_3); (try clear hfz69_0); (try clear hfz69_1); (try clear hfz69_2); (try clear hfz69_3); (try clear hfz69_4); (try clear hfz69_5); (try clear hfz74_0); (try clear hfz74_1); (try clear hfz74_2); (try clear hfz74_3); (try clear hfz78_0); (try clear hfz78_1); (try clear hfz78_2); (try clear hfz78_3); (try clear hfz81_0); (try clear hfz81_1); (try clear hfz81_2); (try clear hfz81_3); (try clear hfz83_0); (try clear hfz83_1); (try clear hfz83_2); (try clear hfz83_3); (try clear hfz84_0); (try clear hfz84_1); (try clear hfz84_2); (try clear hfz84_3); (try clear hfz84_4); (try clear hfz84_5); (try clear hfz91_0); (try clear hfz91_1); (try clear hfz91_2); (try clear hfz91_3); (try clear hfz95_0); (try clear hfz95_1); (try clear hfz95_2); (try clear hfz95_3); (try clear hfz98_0); (try clear hfz98_1); (try clear hfz98_2); (try clear hfz98_3); (try clear hx129_0); (try clear hx129_1); (try clear hx129_2); (try clear hx130_0); (try clear hx130_1); (try clear hx130_2); (try clear p1); (try clear p12); (try clear p129); (try clear p13); (try clear p130); (try clear p2); (try clear q1); (try clear q12); (try clear q129); (try clear q13); (try clear q130)
                obtain ⟨kq, x149_120, rfl, HA, HJ120, BK101, BK107, BK109, BK118, BK126, BK131, HB⟩ := hcut
                cases kq with
                | zero => exact absurd HA.out (by simp [weighbridgelaw26_SingleTakes.j4])
                | succ kj120 =>
                 have H := HA.out
                 clear HA
                 simp only [weighbridgelaw26_SingleTakes.j4] at H
                 by_cases c130 : x149_120 = true
                 ·
                  subst c130
                  have H1 : (if t125 = 0 then (if (IntKind.u64.wrap (t113 - t121)) = t127 then (if (IntKind.u64.wrap (t114 - t122)) = 0 then (if t128 = true then (weighbridgelaw26_SingleTakes.l0 kj120 l1 (wrap64 (x8_2 + 1)) a0_0 a0_1 a0_2 a0_3 a0_4 a0_5 t121 t122 t123 t124 t102 t103 t104 t105) else (if t125 = 2 then (weighbridgelaw26_SingleTakes.l0 kj120 l1 (wrap64 (x8_2 + 1)) a0_0 a0_1 a0_2 a0_3 a0_4 a0_5 t121 t122 t123 t124 t102 t103 t104 t105) else (none))) else (none)) else (none)) else (if t125 = 1 then (if (IntKind.u64.wrap (t113 - t121)) = 0 then (if (IntKind.u64.wrap (t114 - t122)) = t127 then (if t128 = true then (weighbridgelaw26_SingleTakes.l0 kj120 l1 (wrap64 (x8_2 + 1)) a0_0 a0_1 a0_2 a0_3 a0_4 a0_5 t121 t122 t123 t124 t102 t103 t104 t105) else (if t125 = 2 then (weighbridgelaw26_SingleTakes.l0 kj120 l1 (wrap64 (x8_2 + 1)) a0_0 a0_1 a0_2 a0_3 a0_4 a0_5 t121 t122 t123 t124 t102 t103 t104 t105) else (none))) else (none)) else (none)) else (none))) = some r := by rw [if_pos rfl] at H; exact H
                  clear H
                  have H := H1
                  clear H1
                  by_cases c131 : t125 = 0
                  ·
                   rw [if_pos c131] at H
                   have c131b0 : (t125 == 0) = true := beq_iff_eq.mpr c131
                   have c131b1 : (t125 != 0) = false := bne_eq_false_iff_eq.mpr c131
                   clear c131
                   by_cases c132 : (IntKind.u64.wrap (t113 - t121)) = t127
                   ·
                    rw [if_pos c132] at H
                    have c132b0 : ((IntKind.u64.wrap (t113 - t121)) == t127) = true := beq_iff_eq.mpr c132
                    have c132b1 : ((IntKind.u64.wrap (t113 - t121)) != t127) = false := bne_eq_false_iff_eq.mpr c132
                    clear c132
                    by_cases c133 : (IntKind.u64.wrap (t114 - t122)) = 0
                    ·
                     rw [if_pos c133] at H
                     have c133b0 : ((IntKind.u64.wrap (t114 - t122)) == 0) = true := beq_iff_eq.mpr c133
                     have c133b1 : ((IntKind.u64.wrap (t114 - t122)) != 0) = false := bne_eq_false_iff_eq.mpr c133
                     clear c133
                     by_cases c134 : t128 = true
                     ·
                      subst c134
                      have H1 : (weighbridgelaw26_SingleTakes.l0 kj120 l1 (wrap64 (x8_2 + 1)) a0_0 a0_1 a0_2 a0_3 a0_4 a0_5 t121 t122 t123 t124 t102 t103 t104 t105) = some r := by rw [if_pos rfl] at H; exact H
                      clear H
                      have H := H1
                      clear H1
                      have H' := zq3 H
                      clear H
                      have hnb135 := NB131_101.out
                      have hnc135 := NB101_131.out
                      have hnb136 := NB131_107.out
                      have hnc136 := NB107_131.out
                      have hnb137 := NB131_109.out
                      have hnc137 := NB109_131.out
                      have hnb138 := NB131_118.out
                      have hnc138 := NB118_131.out
                      have hnb139 := NB131_126.out
                      have hnc139 := NB126_131.out
                      have hcz140_0 : wc.cell? ⟨gb131, 0, none⟩ = some (.int .u64 0) := (zq5 BK131.out 0).trans rfl
                      have hcz140_1 : wc.cell? ⟨gb131, 1, none⟩ = some (.int .u64 0) := (zq5 BK131.out 1).trans rfl
                      have hfz140_0 := zq4 BK131.out 0
                      have hfz140_1 := zq4 BK131.out 1
                      have hnb141 := NB126_101.out
                      have hnc141 := NB101_126.out
                      have hnb142 := NB126_107.out
                      have hnc142 := NB107_126.out
                      have hnb143 := NB126_109.out
                      have hnc143 := NB109_126.out
                      have hnb144 := NB126_118.out
                      have hnc144 := NB118_126.out
                      have hcz145_0 : wc.cell? ⟨gb126, 0, none⟩ = some (.int .u64 t121) := (zq5 BK126.out 0).trans rfl
                      have hcz145_1 : wc.cell? ⟨gb126, 1, none⟩ = some (.int .u64 t122) := (zq5 BK126.out 1).trans rfl
                      have hcz145_2 : wc.cell? ⟨gb126, 2, none⟩ = some (.int .u64 t123) := (zq5 BK126.out 2).trans rfl
                      have hcz145_3 : wc.cell? ⟨gb126, 3, none⟩ = some (.bool t124) := (zq5 BK126.out 3).trans rfl
                      have hfz145_0 := zq4 BK126.out 0
                      have hfz145_1 := zq4 BK126.out 1
                      have hfz145_2 := zq4 BK126.out 2
                      have hfz145_3 := zq4 BK126.out 3
                      have hnb146 := NB107_101.out
                      have hnc146 := NB101_107.out
                      have hnb147 := NB107_109.out
                      have hnc147 := NB109_107.out
                      have hnb148 := NB107_118.out
                      have hnc148 := NB118_107.out
                      have hcz149_0 : wc.cell? ⟨gb107, 0, none⟩ = some (.int .u64 x108000_2) := (zq5 BK107.out 0).trans rfl
                      have hcz149_1 : wc.cell? ⟨gb107, 1, none⟩ = some (.int .u64 x108001_2) := (zq5 BK107.out 1).trans rfl
                      have hcz149_2 : wc.cell? ⟨gb107, 2, none⟩ = some (.int .u64 x108002_2) := (zq5 BK107.out 2).trans rfl
                      have hcz149_3 : wc.cell? ⟨gb107, 3, none⟩ = some (.bool x108003_2) := (zq5 BK107.out 3).trans rfl
                      have hfz149_0 := zq4 BK107.out 0
                      have hfz149_1 := zq4 BK107.out 1
                      have hfz149_2 := zq4 BK107.out 2
                      have hfz149_3 := zq4 BK107.out 3
                      have hx_ := beq_iff_eq.mp c131b0
                      go_wp2
                      go_roundg kj120
                      case measure => have := HJ3.out; have := HK2.out; have := HJ26.out; have := HJ117.out; have := HJ120.out; omega
                      case rel => exact ⟨(wrap64 (x8_2 + 1)), (t121), (t122), (t123), (t124), (by first | rfl | (simp; done) | (simp [*]; done)), H', ⟨by have := HJ3.out; have := HK2.out; have := HJ26.out; have := HJ117.out; have := HJ120.out; omega⟩, ⟨by (with_reducible repeat (first | refine zq0 ?_ _ | refine zq2 ?_ | refine zq1 ?_ _)); refine zq11 ?_ NB101_107.out _; (with_reducible repeat (first | refine zq0 ?_ _ | refine zq2 ?_ | refine zq1 ?_ _)); refine zq11 ?_ NB101_107.out _; (with_reducible repeat (first | refine zq0 ?_ _ | refine zq2 ?_ | refine zq1 ?_ _)); refine zq11 ?_ NB101_107.out _; (with_reducible repeat (first | refine zq0 ?_ _ | refine zq2 ?_ | refine zq1 ?_ _)); refine zq11 ?_ NB101_107.out _; (with_reducible repeat (first | refine zq0 ?_ _ | refine zq2 ?_ | refine zq1 ?_ _)); refine zq11 ?_ NB101_131.out _; (with_reducible repeat (first | refine zq0 ?_ _ | refine zq2 ?_ | refine zq1 ?_ _)); exact BK101.out⟩, ⟨by (with_reducible repeat (first | refine zq0 ?_ _ | refine zq2 ?_ | refine zq1 ?_ _)); refine blk_put (cs := #[.int .u64 t121, .int .u64 t122, .int .u64 t123, .bool x108003_2]) ?_ 3 _ rfl; (with_reducible repeat (first | refine zq0 ?_ _ | refine zq2 ?_ | refine zq1 ?_ _)); refine blk_put (cs := #[.int .u64 t121, .int .u64 t122, .int .u64 x108002_2, .bool x108003_2]) ?_ 2 _ rfl; (with_reducible repeat (first | refine zq0 ?_ _ | refine zq2 ?_ | refine zq1 ?_ _)); refine blk_put (cs := #[.int .u64 t121, .int .u64 x108001_2, .int .u64 x108002_2, .bool x108003_2]) ?_ 1 _ rfl; (with_reducible repeat (first | refine zq0 ?_ _ | refine zq2 ?_ | refine zq1 ?_ _)); refine blk_put (cs := #[.int .u64 x108000_2, .int .u64 x108001_2, .int .u64 x108002_2, .bool x108003_2]) ?_ 0 _ rfl; (with_reducible repeat (first | refine zq0 ?_ _ | refine zq2 ?_ | refine zq1 ?_ _)); refine zq11 ?_ NB107_131.out _; (with_reducible repeat (first | refine zq0 ?_ _ | refine zq2 ?_ | refine zq1 ?_ _)); exact BK107.out⟩, ⟨by (with_reducible repeat (first | refine zq0 ?_ _ | refine zq2 ?_ | refine zq1 ?_ _)); refine zq11 ?_ NB109_107.out _; (with_reducible repeat (first | refine zq0 ?_ _ | refine zq2 ?_ | refine zq1 ?_ _)); refine zq11 ?_ NB109_107.out _; (with_reducible repeat (first | refine zq0 ?_ _ | refine zq2 ?_ | refine zq1 ?_ _)); refine zq11 ?_ NB109_107.out _; (with_reducible repeat (first | refine zq0 ?_ _ | refine zq2 ?_ | refine zq1 ?_ _)); refine zq11 ?_ NB109_107.out _; (with_reducible repeat (first | refine zq0 ?_ _ | refine zq2 ?_ | refine zq1 ?_ _)); refine zq11 ?_ NB109_131.out _; (with_reducible repeat (first | refine zq0 ?_ _ | refine zq2 ?_ | refine zq1 ?_ _)); exact BK109.out⟩, ⟨by repeat (first | (with_reducible first | exact HB.out | apply zq9 | apply zq7 | apply zq8 | refine zq6 ?_ GE101.out | refine zq6 ?_ GE107.out | refine zq6 ?_ GE109.out | refine zq6 ?_ GE118.out | refine zq6 ?_ GE126.out | refine zq6 ?_ GE131.out) | exact HB.out)⟩⟩
                     ·
                      replace c134 := Bool.eq_false_iff.mpr c134
                      subst c134
                      have H1 : (if t125 = 2 then (weighbridgelaw26_SingleTakes.l0 kj120 l1 (wrap64 (x8_2 + 1)) a0_0 a0_1 a0_2 a0_3 a0_4 a0_5 t121 t122 t123 t124 t102 t103 t104 t105) else (none)) = some r := by rw [if_neg (show ¬ (false = true) by decide)] at H; exact H
                      clear H
                      have H := H1
                      clear H1
                      by_cases c150 : t125 = 2
                      ·
                       rw [if_pos c150] at H
                       have c150b0 : (t125 == 2) = true := beq_iff_eq.mpr c150
                       have c150b1 : (t125 != 2) = false := bne_eq_false_iff_eq.mpr c150
                       clear c150
                       have H' := zq3 H
                       clear H
                       have hnb151 := NB131_101.out
                       have hnc151 := NB101_131.out
                       have hnb152 := NB131_107.out
                       have hnc152 := NB107_131.out
                       have hnb153 := NB131_109.out
                       have hnc153 := NB109_131.out
                       have hnb154 := NB131_118.out
                       have hnc154 := NB118_131.out
                       have hnb155 := NB131_126.out
                       have hnc155 := NB126_131.out
                       have hcz156_0 : wc.cell? ⟨gb131, 0, none⟩ = some (.int .u64 0) := (zq5 BK131.out 0).trans rfl
                       have hcz156_1 : wc.cell? ⟨gb131, 1, none⟩ = some (.int .u64 0) := (zq5 BK131.out 1).trans rfl
                       have hfz156_0 := zq4 BK131.out 0
                       have hfz156_1 := zq4 BK131.out 1
                       have hnb157 := NB126_101.out
                       have hnc157 := NB101_126.out
                       have hnb158 := NB126_107.out
                       have hnc158 := NB107_126.out
                       have hnb159 := NB126_109.out
                       have hnc159 := NB109_126.out
                       have hnb160 := NB126_118.out
                       have hnc160 := NB118_126.out
                       have hcz161_0 : wc.cell? ⟨gb126, 0, none⟩ = some (.int .u64 t121) := (zq5 BK126.out 0).trans rfl
                       have hcz161_1 : wc.cell? ⟨gb126, 1, none⟩ = some (.int .u64 t122) := (zq5 BK126.out 1).trans rfl
                       have hcz161_2 : wc.cell? ⟨gb126, 2, none⟩ = some (.int .u64 t123) := (zq5 BK126.out 2).trans rfl
                       have hcz161_3 : wc.cell? ⟨gb126, 3, none⟩ = some (.bool t124) := (zq5 BK126.out 3).trans rfl
                       have hfz161_0 := zq4 BK126.out 0
                       have hfz161_1 := zq4 BK126.out 1
                       have hfz161_2 := zq4 BK126.out 2
                       have hfz161_3 := zq4 BK126.out 3
                       have hnb162 := NB107_101.out
                       have hnc162 := NB101_107.out
                       have hnb163 := NB107_109.out
                       have hnc163 := NB109_107.out
                       have hnb164 := NB107_118.out
                       have hnc164 := NB118_107.out
                       have hcz165_0 : wc.cell? ⟨gb107, 0, none⟩ = some (.int .u64 x108000_2) := (zq5 BK107.out 0).trans rfl
                       have hcz165_1 : wc.cell? ⟨gb107, 1, none⟩ = some (.int .u64 x108001_2) := (zq5 BK107.out 1).trans rfl
                       have hcz165_2 : wc.cell? ⟨gb107, 2, none⟩ = some (.int .u64 x108002_2) := (zq5 BK107.out 2).trans rfl
                       have hcz165_3 : wc.cell? ⟨gb107, 3, none⟩ = some (.bool x108003_2) := (zq5 BK107.out 3).trans rfl
                       have hfz165_0 := zq4 BK107.out 0
                       have hfz165_1 := zq4 BK107.out 1
                       have hfz165_2 := zq4 BK107.out 2
                       have hfz165_3 := zq4 BK107.out 3
                       have hx_ := beq_iff_eq.mp c131b0
                       exact absurd (hx_.symm.trans (beq_iff_eq.mp c150b0)) (by decide)
                      ·
                       rw [if_neg c150] at H
                       exact absurd H (by simp)
                    ·
                     rw [if_neg c133] at H
                     exact absurd H (by simp)
                   ·
                    rw [if_neg c132] at H
                    exact absurd H (by simp)
                  ·
                   rw [if_neg c131] at H
                   have c131b0 : (t125 == 0) = false := beq_eq_false_iff_ne.mpr c131
                   have c131b1 : (t125 != 0) = true := bne_iff_ne.mpr c131
                   by_cases c166 : t125 = 1
                   ·
                    rw [if_pos c166] at H
                    have c166b0 : (t125 == 1) = true := beq_iff_eq.mpr c166
                    have c166b1 : (t125 != 1) = false := bne_eq_false_iff_eq.mpr c166
                    clear c166
                    by_cases c167 : (IntKind.u64.wrap (t113 - t121)) = 0
                    ·
                     rw [if_pos c167] at H
                     have c167b0 : ((IntKind.u64.wrap (t113 - t121)) == 0) = true := beq_iff_eq.mpr c167
                     have c167b1 : ((IntKind.u64.wrap (t113 - t121)) != 0) = false := bne_eq_false_iff_eq.mpr c167
                     clear c167
                     by_cases c168 : (IntKind.u64.wrap (t114 - t122)) = t127
                     ·
                      rw [if_pos c168] at H
                      have c168b0 : ((IntKind.u64.wrap (t114 - t122)) == t127) = true := beq_iff_eq.mpr c168
                      have c168b1 : ((IntKind.u64.wrap (t114 - t122)) != t127) = false := bne_eq_false_iff_eq.mpr c168
                      clear c168
                      by_cases c169 : t128 = true
                      ·
                       subst c169
                       have H1 : (weighbridgelaw26_SingleTakes.l0 kj120 l1 (wrap64 (x8_2 + 1)) a0_0 a0_1 a0_2 a0_3 a0_4 a0_5 t121 t122 t123 t124 t102 t103 t104 t105) = some r := by rw [if_pos rfl] at H; exact H
                       clear H
                       have H := H1
                       clear H1
                       have H' := zq3 H
                       clear H
                       have hnb170 := NB131_101.out
                       have hnc170 := NB101_131.out
                       have hnb171 := NB131_107.out
                       have hnc171 := NB107_131.out
                       have hnb172 := NB131_109.out
                       have hnc172 := NB109_131.out
                       have hnb173 := NB131_118.out
                       have hnc173 := NB118_131.out
                       have hnb174 := NB131_126.out
                       have hnc174 := NB126_131.out
                       have hcz175_0 : wc.cell? ⟨gb131, 0, none⟩ = some (.int .u64 0) := (zq5 BK131.out 0).trans rfl
                       have hcz175_1 : wc.cell? ⟨gb131, 1, none⟩ = some (.int .u64 0) := (zq5 BK131.out 1).trans rfl
                       have hfz175_0 := zq4 BK131.out 0
                       have hfz175_1 := zq4 BK131.out 1
                       have hnb176 := NB126_101.out
                       have hnc176 := NB101_126.out
                       have hnb177 := NB126_107.out
                       have hnc177 := NB107_126.out
                       have hnb178 := NB126_109.out
                       have hnc178 := NB109_126.out
                       have hnb179 := NB126_118.out
                       have hnc179 := NB118_126.out
                       have hcz180_0 : wc.cell? ⟨gb126, 0, none⟩ = some (.int .u64 t121) := (zq5 BK126.out 0).trans rfl
                       have hcz180_1 : wc.cell? ⟨gb126, 1, none⟩ = some (.int .u64 t122) := (zq5 BK126.out 1).trans rfl
                       have hcz180_2 : wc.cell? ⟨gb126, 2, none⟩ = some (.int .u64 t123) := (zq5 BK126.out 2).trans rfl
                       have hcz180_3 : wc.cell? ⟨gb126, 3, none⟩ = some (.bool t124) := (zq5 BK126.out 3).trans rfl
                       have hfz180_0 := zq4 BK126.out 0
                       have hfz180_1 := zq4 BK126.out 1
                       have hfz180_2 := zq4 BK126.out 2
                       have hfz180_3 := zq4 BK126.out 3
                       have hnb181 := NB107_101.out
                       have hnc181 := NB101_107.out
                       have hnb182 := NB107_109.out
                       have hnc182 := NB109_107.out
                       have hnb183 := NB107_118.out
                       have hnc183 := NB118_107.out
                       have hcz184_0 : wc.cell? ⟨gb107, 0, none⟩ = some (.int .u64 x108000_2) := (zq5 BK107.out 0).trans rfl
                       have hcz184_1 : wc.cell? ⟨gb107, 1, none⟩ = some (.int .u64 x108001_2) := (zq5 BK107.out 1).trans rfl
                       have hcz184_2 : wc.cell? ⟨gb107, 2, none⟩ = some (.int .u64 x108002_2) := (zq5 BK107.out 2).trans rfl
                       have hcz184_3 : wc.cell? ⟨gb107, 3, none⟩ = some (.bool x108003_2) := (zq5 BK107.out 3).trans rfl
                       have hfz184_0 := zq4 BK107.out 0
                       have hfz184_1 := zq4 BK107.out 1
                       have hfz184_2 := zq4 BK107.out 2
                       have hfz184_3 := zq4 BK107.out 3
                       have hx_ := beq_iff_eq.mp c166b0
                       go_wp2
                       go_roundg kj120
                       case measure => have := HJ3.out; have := HK2.out; have := HJ26.out; have := HJ117.out; have := HJ120.out; omega
                       case rel => exact ⟨(wrap64 (x8_2 + 1)), (t121), (t122), (t123), (t124), (by first | rfl | (simp; done) | (simp [*]; done)), H', ⟨by have := HJ3.out; have := HK2.out; have := HJ26.out; have := HJ117.out; have := HJ120.out; omega⟩, ⟨by (with_reducible repeat (first | refine zq0 ?_ _ | refine zq2 ?_ | refine zq1 ?_ _)); refine zq11 ?_ NB101_107.out _; (with_reducible repeat (first | refine zq0 ?_ _ | refine zq2 ?_ | refine zq1 ?_ _)); refine zq11 ?_ NB101_107.out _; (with_reducible repeat (first | refine zq0 ?_ _ | refine zq2 ?_ | refine zq1 ?_ _)); refine zq11 ?_ NB101_107.out _; (with_reducible repeat (first | refine zq0 ?_ _ | refine zq2 ?_ | refine zq1 ?_ _)); refine zq11 ?_ NB101_107.out _; (with_reducible repeat (first | refine zq0 ?_ _ | refine zq2 ?_ | refine zq1 ?_ _)); refine zq11 ?_ NB101_131.out _; (with_reducible repeat (first | refine zq0 ?_ _ | refine zq2 ?_ | refine zq1 ?_ _)); exact BK101.out⟩, ⟨by (with_reducible repeat (first | refine zq0 ?_ _ | refine zq2 ?_ | refine zq1 ?_ _)); refine blk_put (cs := #[.int .u64 t121, .int .u64 t122, .int .u64 t123, .bool x108003_2]) ?_ 3 _ rfl; (with_reducible repeat (first | refine zq0 ?_ _ | refine zq2 ?_ | refine zq1 ?_ _)); refine blk_put (cs := #[.int .u64 t121, .int .u64 t122, .int .u64 x108002_2, .bool x108003_2]) ?_ 2 _ rfl; (with_reducible repeat (first | refine zq0 ?_ _ | refine zq2 ?_ | refine zq1 ?_ _)); refine blk_put (cs := #[.int .u64 t121, .int .u64 x108001_2, .int .u64 x108002_2, .bool x108003_2]) ?_ 1 _ rfl; (with_reducible repeat (first | refine zq0 ?_ _ | refine zq2 ?_ | refine zq1 ?_ _)); refine blk_put (cs := #[.int .u64 x108000_2, .int .u64 x108001_2, .int .u64 x108002_2, .bool x108003_2]) ?_ 0 _ rfl; (with_reducible repeat (first | refine zq0 ?_ _ | refine zq2 ?_ | refine zq1 ?_ _)); refine zq11 ?_ NB107_131.out _; (with_reducible repeat (first | refine zq0 ?_ _ | refine zq2 ?_ | refine zq1 ?_ _)); exact BK107.out⟩, ⟨by (with_reducible repeat (first | refine zq0 ?_ _ | refine zq2 ?_ | refine zq1 ?_ _)); refine zq11 ?_ NB109_107.out _; (with_reducible repeat (first | refine zq0 ?_ _ | refine zq2 ?_ | refine zq1 ?_ _)); refine zq11 ?_ NB109_107.out _; (with_reducible repeat (first | refine zq0 ?_ _ | refine zq2 ?_ | refine zq1 ?_ _)); refine zq11 ?_ NB109_107.out _; (with_reducible repeat (first | refine zq0 ?_ _ | refine zq2 ?_ | refine zq1 ?_ _)); refine zq11 ?_ NB109_107.out _; (with_reducible repeat (first | refine zq0 ?_ _ | refine zq2 ?_ | refine zq1 ?_ _)); refine zq11 ?_ NB109_131.out _; (with_reducible repeat (first | refine zq0 ?_ _ | refine zq2 ?_ | refine zq1 ?_ _)); exact BK109.out⟩, ⟨by repeat (first | (with_reducible first | exact HB.out | apply zq9 | apply zq7 | apply zq8 | refine zq6 ?_ GE101.out | refine zq6 ?_ GE107.out | refine zq6 ?_ GE109.out | refine zq6 ?_ GE118.out | refine zq6 ?_ GE126.out | refine zq6 ?_ GE131.out) | exact HB.out)⟩⟩
                      ·
                       replace c169 := Bool.eq_false_iff.mpr c169
                       subst c169
                       have H1 : (if t125 = 2 then (weighbridgelaw26_SingleTakes.l0 kj120 l1 (wrap64 (x8_2 + 1)) a0_0 a0_1 a0_2 a0_3 a0_4 a0_5 t121 t122 t123 t124 t102 t103 t104 t105) else (none)) = some r := by rw [if_neg (show ¬ (false = true) by decide)] at H; exact H
                       clear H
                       have H := H1
                       clear H1
                       by_cases c185 : t125 = 2
                       ·
                        rw [if_pos c185] at H
                        have c185b0 : (t125 == 2) = true := beq_iff_eq.mpr c185
                        have c185b1 : (t125 != 2) = false := bne_eq_false_iff_eq.mpr c185
                        clear c185
                        have H' := zq3 H
                        clear H
                        have hnb186 := NB131_101.out
                        have hnc186 := NB101_131.out
                        have hnb187 := NB131_107.out
                        have hnc187 := NB107_131.out
                        have hnb188 := NB131_109.out
                        have hnc188 := NB109_131.out
                        have hnb189 := NB131_118.out
                        have hnc189 := NB118_131.out
                        have hnb190 := NB131_126.out
                        have hnc190 := NB126_131.out
                        have hcz191_0 : wc.cell? ⟨gb131, 0, none⟩ = some (.int .u64 0) := (zq5 BK131.out 0).trans rfl
                        have hcz191_1 : wc.cell? ⟨gb131, 1, none⟩ = some (.int .u64 0) := (zq5 BK131.out 1).trans rfl
                        have hfz191_0 := zq4 BK131.out 0
                        have hfz191_1 := zq4 BK131.out 1
                        have hnb192 := NB126_101.out
                        have hnc192 := NB101_126.out
                        have hnb193 := NB126_107.out
                        have hnc193 := NB107_126.out
                        have hnb194 := NB126_109.out
                        have hnc194 := NB109_126.out
                        have hnb195 := NB126_118.out
                        have hnc195 := NB118_126.out
                        have hcz196_0 : wc.cell? ⟨gb126, 0, none⟩ = some (.int .u64 t121) := (zq5 BK126.out 0).trans rfl
                        have hcz196_1 : wc.cell? ⟨gb126, 1, none⟩ = some (.int .u64 t122) := (zq5 BK126.out 1).trans rfl
                        have hcz196_2 : wc.cell? ⟨gb126, 2, none⟩ = some (.int .u64 t123) := (zq5 BK126.out 2).trans rfl
                        have hcz196_3 : wc.cell? ⟨gb126, 3, none⟩ = some (.bool t124) := (zq5 BK126.out 3).trans rfl
                        have hfz196_0 := zq4 BK126.out 0
                        have hfz196_1 := zq4 BK126.out 1
                        have hfz196_2 := zq4 BK126.out 2
                        have hfz196_3 := zq4 BK126.out 3
                        have hnb197 := NB107_101.out
                        have hnc197 := NB101_107.out
                        have hnb198 := NB107_109.out
                        have hnc198 := NB109_107.out
                        have hnb199 := NB107_118.out
                        have hnc199 := NB118_107.out
                        have hcz200_0 : wc.cell? ⟨gb107, 0, none⟩ = some (.int .u64 x108000_2) := (zq5 BK107.out 0).trans rfl
                        have hcz200_1 : wc.cell? ⟨gb107, 1, none⟩ = some (.int .u64 x108001_2) := (zq5 BK107.out 1).trans rfl
                        have hcz200_2 : wc.cell? ⟨gb107, 2, none⟩ = some (.int .u64 x108002_2) := (zq5 BK107.out 2).trans rfl
                        have hcz200_3 : wc.cell? ⟨gb107, 3, none⟩ = some (.bool x108003_2) := (zq5 BK107.out 3).trans rfl
                        have hfz200_0 := zq4 BK107.out 0
                        have hfz200_1 := zq4 BK107.out 1
                        have hfz200_2 := zq4 BK107.out 2
                        have hfz200_3 := zq4 BK107.out 3
                        have hx_ := beq_iff_eq.mp c166b0
                        exact absurd (hx_.symm.trans (beq_iff_eq.mp c185b0)) (by decide)
                       ·
                        rw [if_neg c185] at H
                        exact absurd H (by simp)
                     ·
                      rw [if_neg c168] at H
                      exact absurd H (by simp)
                    ·
                     rw [if_neg c167] at H
                     exact absurd H (by simp)
                   ·
                    rw [if_neg c166] at H
                    exact absurd H (by simp)
                 ·
                  replace c130 := Bool.eq_false_iff.mpr c130
                  subst c130
                  have H1 : (if (IntKind.u64.wrap (t113 - t121)) = 0 then (if (IntKind.u64.wrap (t114 - t122)) = 0 then (if t128 = true then (weighbridgelaw26_SingleTakes.l0 kj120 l1 (wrap64 (x8_2 + 1)) a0_0 a0_1 a0_2 a0_3 a0_4 a0_5 t121 t122 t123 t124 t102 t103 t104 t105) else (if t125 = 2 then (weighbridgelaw26_SingleTakes.l0 kj120 l1 (wrap64 (x8_2 + 1)) a0_0 a0_1 a0_2 a0_3 a0_4 a0_5 t121 t122 t123 t124 t102 t103 t104 t105) else (none))) else (none)) else (none)) = some r := by rw [if_neg (show ¬ (false = true) by decide)] at H; exact H
                  clear H
                  have H := H1
                  clear H1
                  by_cases c201 : (IntKind.u64.wrap (t113 - t121)) = 0
                  ·
                   rw [if_pos c201] at H
                   have c201b0 : ((IntKind.u64.wrap (t113 - t121)) == 0) = true := beq_iff_eq.mpr c201
                   have c201b1 : ((IntKind.u64.wrap (t113 - t121)) != 0) = false := bne_eq_false_iff_eq.mpr c201
                   clear c201
                   by_cases c202 : (IntKind.u64.wrap (t114 - t122)) = 0
                   ·
                    rw [if_pos c202] at H
                    have c202b0 : ((IntKind.u64.wrap (t114 - t122)) == 0) = true := beq_iff_eq.mpr c202
                    have c202b1 : ((IntKind.u64.wrap (t114 - t122)) != 0) = false := bne_eq_false_iff_eq.mpr c202
                    clear c202
                    by_cases c203 : t128 = true
                    ·
                     subst c203
                     have H1 : (weighbridgelaw26_SingleTakes.l0 kj120 l1 (wrap64 (x8_2 + 1)) a0_0 a0_1 a0_2 a0_3 a0_4 a0_5 t121 t122 t123 t124 t102 t103 t104 t105) = some r := by rw [if_pos rfl] at H; exact H
                     clear H
                     have H := H1
                     clear H1
                     have H' := zq3 H
                     clear H
                     have hnb204 := NB131_101.out
                     have hnc204 := NB101_131.out
                     have hnb205 := NB131_107.out
                     have hnc205 := NB107_131.out
                     have hnb206 := NB131_109.out
                     have hnc206 := NB109_131.out
                     have hnb207 := NB131_118.out
                     have hnc207 := NB118_131.out
                     have hnb208 := NB131_126.out
                     have hnc208 := NB126_131.out
                     have hcz209_0 : wc.cell? ⟨gb131, 0, none⟩ = some (.int .u64 0) := (zq5 BK131.out 0).trans rfl
                     have hcz209_1 : wc.cell? ⟨gb131, 1, none⟩ = some (.int .u64 0) := (zq5 BK131.out 1).trans rfl
                     have hfz209_0 := zq4 BK131.out 0
                     have hfz209_1 := zq4 BK131.out 1
                     have hnb210 := NB126_101.out
                     have hnc210 := NB101_126.out
                     have hnb211 := NB126_107.out
                     have hnc211 := NB107_126.out
                     have hnb212 := NB126_109.out
                     have hnc212 := NB109_126.out
                     have hnb213 := NB126_118.out
                     have hnc213 := NB118_126.out
                     have hcz214_0 : wc.cell? ⟨gb126, 0, none⟩ = some (.int .u64 t121) := (zq5 BK126.out 0).trans rfl
                     have hcz214_1 : wc.cell? ⟨gb126, 1, none⟩ = some (.int .u64 t122) := (zq5 BK126.out 1).trans rfl
                     have hcz214_2 : wc.cell? ⟨gb126, 2, none⟩ = some (.int .u64 t123) := (zq5 BK126.out 2).trans rfl
                     have hcz214_3 : wc.cell? ⟨gb126, 3, none⟩ = some (.bool t124) := (zq5 BK126.out 3).trans rfl
                     have hfz214_0 := zq4 BK126.out 0
                     have hfz214_1 := zq4 BK126.out 1
                     have hfz214_2 := zq4 BK126.out 2
                     have hfz214_3 := zq4 BK126.out 3
                     have hnb215 := NB107_101.out
                     have hnc215 := NB101_107.out
                     have hnb216 := NB107_109.out
                     have hnc216 := NB109_107.out
                     have hnb217 := NB107_118.out
                     have hnc217 := NB118_107.out
                     have hcz218_0 : wc.cell? ⟨gb107, 0, none⟩ = some (.int .u64 x108000_2) := (zq5 BK107.out 0).trans rfl
                     have hcz218_1 : wc.cell? ⟨gb107, 1, none⟩ = some (.int .u64 x108001_2) := (zq5 BK107.out 1).trans rfl
                     have hcz218_2 : wc.cell? ⟨gb107, 2, none⟩ = some (.int .u64 x108002_2) := (zq5 BK107.out 2).trans rfl
                     have hcz218_3 : wc.cell? ⟨gb107, 3, none⟩ = some (.bool x108003_2) := (zq5 BK107.out 3).trans rfl
                     have hfz218_0 := zq4 BK107.out 0
                     have hfz218_1 := zq4 BK107.out 1
                     have hfz218_2 := zq4 BK107.out 2
                     have hfz218_3 := zq4 BK107.out 3
                     go_wp2
                     go_roundg kj120
                     case measure => have := HJ3.out; have := HK2.out; have := HJ26.out; have := HJ117.out; have := HJ120.out; omega
                     case rel => exact ⟨(wrap64 (x8_2 + 1)), (t121), (t122), (t123), (t124), (by first | rfl | (simp; done) | (simp [*]; done)), H', ⟨by have := HJ3.out; have := HK2.out; have := HJ26.out; have := HJ117.out; have := HJ120.out; omega⟩, ⟨by (with_reducible repeat (first | refine zq0 ?_ _ | refine zq2 ?_ | refine zq1 ?_ _)); refine zq11 ?_ NB101_107.out _; (with_reducible repeat (first | refine zq0 ?_ _ | refine zq2 ?_ | refine zq1 ?_ _)); refine zq11 ?_ NB101_107.out _; (with_reducible repeat (first | refine zq0 ?_ _ | refine zq2 ?_ | refine zq1 ?_ _)); refine zq11 ?_ NB101_107.out _; (with_reducible repeat (first | refine zq0 ?_ _ | refine zq2 ?_ | refine zq1 ?_ _)); refine zq11 ?_ NB101_107.out _; (with_reducible repeat (first | refine zq0 ?_ _ | refine zq2 ?_ | refine zq1 ?_ _)); exact BK101.out⟩, ⟨by (with_reducible repeat (first | refine zq0 ?_ _ | refine zq2 ?_ | refine zq1 ?_ _)); refine blk_put (cs := #[.int .u64 t121, .int .u64 t122, .int .u64 t123, .bool x108003_2]) ?_ 3 _ rfl; (with_reducible repeat (first | refine zq0 ?_ _ | refine zq2 ?_ | refine zq1 ?_ _)); refine blk_put (cs := #[.int .u64 t121, .int .u64 t122, .int .u64 x108002_2, .bool x108003_2]) ?_ 2 _ rfl; (with_reducible repeat (first | refine zq0 ?_ _ | refine zq2 ?_ | refine zq1 ?_ _)); refine blk_put (cs := #[.int .u64 t121, .int .u64 x108001_2, .int .u64 x108002_2, .bool x108003_2]) ?_ 1 _ rfl; (with_reducible repeat (first | refine zq0 ?_ _ | refine zq2 ?_ | refine zq1 ?_ _)); refine blk_put (cs := #[.int .u64 x108000_2, .int .u64 x108001_2, .int .u64 x108002_2, .bool x108003_2]) ?_ 0 _ rfl; (with_reducible repeat (first | refine zq0 ?_ _ | refine zq2 ?_ | refine zq1 ?_ _)); exact BK107.out⟩, ⟨by (with_reducible repeat (first | refine zq0 ?_ _ | refine zq2 ?_ | refine zq1 ?_ _)); refine zq11 ?_ NB109_107.out _; (with_reducible repeat (first | refine zq0 ?_ _ | refine zq2 ?_ | refine zq1 ?_ _)); refine zq11 ?_ NB109_107.out _; (with_reducible repeat (first | refine zq0 ?_ _ | refine zq2 ?_ | refine zq1 ?_ _)); refine zq11 ?_ NB109_107.out _; (with_reducible repeat (first | refine zq0 ?_ _ | refine zq2 ?_ | refine zq1 ?_ _)); refine zq11 ?_ NB109_107.out _; (with_reducible repeat (first | refine zq0 ?_ _ | refine zq2 ?_ | refine zq1 ?_ _)); exact BK109.out⟩, ⟨by repeat (first | (with_reducible first | exact HB.out | apply zq9 | apply zq7 | apply zq8 | refine zq6 ?_ GE101.out | refine zq6 ?_ GE107.out | refine zq6 ?_ GE109.out | refine zq6 ?_ GE118.out | refine zq6 ?_ GE126.out | refine zq6 ?_ GE131.out) | exact HB.out)⟩⟩
                    ·
                     replace c203 := Bool.eq_false_iff.mpr c203
                     subst c203
                     have H1 : (if t125 = 2 then (weighbridgelaw26_SingleTakes.l0 kj120 l1 (wrap64 (x8_2 + 1)) a0_0 a0_1 a0_2 a0_3 a0_4 a0_5 t121 t122 t123 t124 t102 t103 t104 t105) else (none)) = some r := by rw [if_neg (show ¬ (false = true) by decide)] at H; exact H
                     clear H
                     have H := H1
                     clear H1
                     by_cases c219 : t125 = 2
                     ·
                      rw [if_pos c219] at H
                      have c219b0 : (t125 == 2) = true := beq_iff_eq.mpr c219
                      have c219b1 : (t125 != 2) = false := bne_eq_false_iff_eq.mpr c219
                      clear c219
                      have H' := zq3 H
                      clear H
                      have hnb220 := NB131_101.out
                      have hnc220 := NB101_131.out
                      have hnb221 := NB131_107.out
                      have hnc221 := NB107_131.out
                      have hnb222 := NB131_109.out
                      have hnc222 := NB109_131.out
                      have hnb223 := NB131_118.out
                      have hnc223 := NB118_131.out
                      have hnb224 := NB131_126.out
                      have hnc224 := NB126_131.out
                      have hcz225_0 : wc.cell? ⟨gb131, 0, none⟩ = some (.int .u64 0) := (zq5 BK131.out 0).trans rfl
                      have hcz225_1 : wc.cell? ⟨gb131, 1, none⟩ = some (.int .u64 0) := (zq5 BK131.out 1).trans rfl
                      have hfz225_0 := zq4 BK131.out 0
                      have hfz225_1 := zq4 BK131.out 1
                      have hnb226 := NB126_101.out
                      have hnc226 := NB101_126.out
                      have hnb227 := NB126_107.out
                      have hnc227 := NB107_126.out
                      have hnb228 := NB126_109.out
                      have hnc228 := NB109_126.out
                      have hnb229 := NB126_118.out
                      have hnc229 := NB118_126.out
                      have hcz230_0 : wc.cell? ⟨gb126, 0, none⟩ = some (.int .u64 t121) := (zq5 BK126.out 0).trans rfl
                      have hcz230_1 : wc.cell? ⟨gb126, 1, none⟩ = some (.int .u64 t122) := (zq5 BK126.out 1).trans rfl
                      have hcz230_2 : wc.cell? ⟨gb126, 2, none⟩ = some (.int .u64 t123) := (zq5 BK126.out 2).trans rfl
                      have hcz230_3 : wc.cell? ⟨gb126, 3, none⟩ = some (.bool t124) := (zq5 BK126.out 3).trans rfl
                      have hfz230_0 := zq4 BK126.out 0
                      have hfz230_1 := zq4 BK126.out 1
                      have hfz230_2 := zq4 BK126.out 2
                      have hfz230_3 := zq4 BK126.out 3
                      have hnb231 := NB107_101.out
                      have hnc231 := NB101_107.out
                      have hnb232 := NB107_109.out
                      have hnc232 := NB109_107.out
                      have hnb233 := NB107_118.out
                      have hnc233 := NB118_107.out
                      have hcz234_0 : wc.cell? ⟨gb107, 0, none⟩ = some (.int .u64 x108000_2) := (zq5 BK107.out 0).trans rfl
                      have hcz234_1 : wc.cell? ⟨gb107, 1, none⟩ = some (.int .u64 x108001_2) := (zq5 BK107.out 1).trans rfl
                      have hcz234_2 : wc.cell? ⟨gb107, 2, none⟩ = some (.int .u64 x108002_2) := (zq5 BK107.out 2).trans rfl
                      have hcz234_3 : wc.cell? ⟨gb107, 3, none⟩ = some (.bool x108003_2) := (zq5 BK107.out 3).trans rfl
                      have hfz234_0 := zq4 BK107.out 0
                      have hfz234_1 := zq4 BK107.out 1
                      have hfz234_2 := zq4 BK107.out 2
                      have hfz234_3 := zq4 BK107.out 3
                      go_wp2
                      go_roundg kj120
                      case measure => have := HJ3.out; have := HK2.out; have := HJ26.out; have := HJ117.out; have := HJ120.out; omega
                      case rel => exact ⟨(wrap64 (x8_2 + 1)), (t121), (t122), (t123), (t124), (by first | rfl | (simp; done) | (simp [*]; done)), H', ⟨by have := HJ3.out; have := HK2.out; have := HJ26.out; have := HJ117.out; have := HJ120.out; omega⟩, ⟨by (with_reducible repeat (first | refine zq0 ?_ _ | refine zq2 ?_ | refine zq1 ?_ _)); refine zq11 ?_ NB101_107.out _; (with_reducible repeat (first | refine zq0 ?_ _ | refine zq2 ?_ | refine zq1 ?_ _)); refine zq11 ?_ NB101_107.out _; (with_reducible repeat (first | refine zq0 ?_ _ | refine zq2 ?_ | refine zq1 ?_ _)); refine zq11 ?_ NB101_107.out _; (with_reducible repeat (first | refine zq0 ?_ _ | refine zq2 ?_ | refine zq1 ?_ _)); refine zq11 ?_ NB101_107.out _; (with_reducible repeat (first | refine zq0 ?_ _ | refine zq2 ?_ | refine zq1 ?_ _)); exact BK101.out⟩, ⟨by (with_reducible repeat (first | refine zq0 ?_ _ | refine zq2 ?_ | refine zq1 ?_ _)); refine blk_put (cs := #[.int .u64 t121, .int .u64 t122, .int .u64 t123, .bool x108003_2]) ?_ 3 _ rfl; (with_reducible repeat (first | refine zq0 ?_ _ | refine zq2 ?_ | refine zq1 ?_ _)); refine blk_put (cs := #[.int .u64 t121, .int .u64 t122, .int .u64 x108002_2, .bool x108003_2]) ?_ 2 _ rfl; (with_reducible repeat (first | refine zq0 ?_ _ | refine zq2 ?_ | refine zq1 ?_ _)); refine blk_put (cs := #[.int .u64 t121, .int .u64 x108001_2, .int .u64 x108002_2, .bool x108003_2]) ?_ 1 _ rfl; (with_reducible repeat (first | refine zq0 ?_ _ | refine zq2 ?_ | refine zq1 ?_ _)); refine blk_put (cs := #[.int .u64 x108000_2, .int .u64 x108001_2, .int .u64 x108002_2, .bool x108003_2]) ?_ 0 _ rfl; (with_reducible repeat (first | refine zq0 ?_ _ | refine zq2 ?_ | refine zq1 ?_ _)); exact BK107.out⟩, ⟨by (with_reducible repeat (first | refine zq0 ?_ _ | refine zq2 ?_ | refine zq1 ?_ _)); refine zq11 ?_ NB109_107.out _; (with_reducible repeat (first | refine zq0 ?_ _ | refine zq2 ?_ | refine zq1 ?_ _)); refine zq11 ?_ NB109_107.out _; (with_reducible repeat (first | refine zq0 ?_ _ | refine zq2 ?_ | refine zq1 ?_ _)); refine zq11 ?_ NB109_107.out _; (with_reducible repeat (first | refine zq0 ?_ _ | refine zq2 ?_ | refine zq1 ?_ _)); refine zq11 ?_ NB109_107.out _; (with_reducible repeat (first | refine zq0 ?_ _ | refine zq2 ?_ | refine zq1 ?_ _)); exact BK109.out⟩, ⟨by repeat (first | (with_reducible first | exact HB.out | apply zq9 | apply zq7 | apply zq8 | refine zq6 ?_ GE101.out | refine zq6 ?_ GE107.out | refine zq6 ?_ GE109.out | refine zq6 ?_ GE118.out | refine zq6 ?_ GE126.out | refine zq6 ?_ GE131.out) | exact HB.out)⟩⟩
                     ·
                      rw [if_neg c219] at H
                      exact absurd H (by simp)
                   ·
                    rw [if_neg c202] at H
                    exact absurd H (by simp)
                  ·
                   rw [if_neg c201] at H
                   exact absurd H (by simp)
       ·
        rw [if_neg c22] at H
        exact absurd H (by simp)
      ·
       rw [if_neg c21] at H
       have c21b0 : decide (x8_2 < (l1.length : Int)) = false := decide_eq_false c21
       clear c21
       replace H := Option.bind_eq_some_iff.mp H
       obtain ⟨t110, A2350, H⟩ := H
       replace H : (some t110) = some r := H
       have A235 := zq3 A2350
       clear A2350
       obtain rfl := Option.some.inj H
       go_wp2_with (first | ((with_reducible refine gate_callee (f := 24) rfl ?_); refine goesL_ (some 167) rfl rfl Try.func24 (by kernel_rfl) rfl #[] rfl (by (try simp only [List.map_toArray, List.map_cons, List.map_nil]); first | done | rfl | (simp only [List.length_drop, List.length_take]; rfl)) ?_; (with_reducible refine (weighbridgelaw26_live.calls  t110 _ A235.out).mono ?_); rintro e w236 ⟨rfl, hb⟩; refine ⟨_, rfl, ?_⟩; have n0_ := zq3 (zq10 (g := gb101) (o := .cells #[.int .i64 a0_0, .bool a0_1, .int .u64 a0_2, .int .u64 a0_3, .int .u64 a0_4, .int .u64 a0_5] 24 (0, 0)) (by (with_reducible repeat (first | refine zq0 ?_ _ | refine zq2 ?_ | refine zq1 ?_ _)); exact BK101.out) hb); have n1_ := zq3 (zq10 (g := gb107) (o := .cells #[.int .u64 x108000_2, .int .u64 x108001_2, .int .u64 x108002_2, .bool x108003_2] 26 (0, 0)) (by (with_reducible repeat (first | refine zq0 ?_ _ | refine zq2 ?_ | refine zq1 ?_ _)); exact BK107.out) hb); have n2_ := zq3 (zq10 (g := gb109) (o := .cells #[.int .u64 t102, .int .u64 t103, .int .u64 t104, .bool t105] 26 (0, 0)) (by (with_reducible repeat (first | refine zq0 ?_ _ | refine zq2 ?_ | refine zq1 ?_ _)); exact BK109.out) hb); have n3_ := zq3 (below_step (by repeat (first | (with_reducible first | exact HB.out | apply zq9 | apply zq7 | apply zq8 | refine zq6 ?_ GE101.out | refine zq6 ?_ GE107.out | refine zq6 ?_ GE109.out) | exact HB.out)) hb); clear BK101; clear BK107; clear BK109; clear HB; have BK101 := n0_; have BK107 := n1_; have BK109 := n2_; have HB := n3_; clear n0_ n1_ n2_ n3_; (try clear hb); (try clear hb2); (try clear hk); (try clear hi)))
       go_ret
       exact ⟨by first | rfl | (simp [errW_none, errW_some] <;> rfl) | (simp [*, errW_none, errW_some] <;> rfl), by repeat (first | (with_reducible first | exact HB.out | apply zq9 | apply zq7 | apply zq8 | refine zq6 ?_ GE101.out | refine zq6 ?_ GE107.out | refine zq6 ?_ GE109.out) | exact HB.out)⟩

end Go.Proofs.Ytkefamalcmglgaa.P
