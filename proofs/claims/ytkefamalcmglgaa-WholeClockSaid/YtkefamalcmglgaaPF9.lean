/- Printed out of the translation: what functions compute, and the proofs that the code computes just this. -/
import Derived.Test.YtkefamalcmglgaaP0
import Derived.Test.YtkefamalcmglgaaPF25
import Derived.Test.YtkefamalcmglgaaPF20
import Derived.Test.YtkefamalcmglgaaPF22
import Derived.Test.YtkefamalcmglgaaRatchet
namespace Go.Proofs.Ytkefamalcmglgaa.P
open Go.RowKit Go.Proofs.YtkefamalcmglgaaW.PrintWords Go.Proofs.YtkefamalcmglgaaW.PrintLast Go.Proofs.YtkefamalcmglgaaW.PrintMore
attribute [local go_sem] max2_int min2_int max_two min_two max_three min_three max_four min_four   -- for this text's walks alone
set_option linter.unusedVariables false
set_option linter.unusedSimpArgs false

/-! ### weighbridgetop_WholeClock: function 9 -/
mutual
def weighbridgetop_WholeClock.j0 : Nat → List (S28) → Int → Bool → Int → Bool → Int → Int → Int → Int → Int → Int → Int → Bool → Option (Bool)
  | 0, _, _, _, _, _, _, _, _, _, _, _, _, _ => none
  | k + 1, x1, x2, x30, x102000, x102001, x102002, x102003, x102004, x102005, x108000, x108001, x108002, x108003 => if x30 = true then ((single_Check.f k 0 false 0 0 0 0).bind fun t108 => (some (t108 == 10))) else (weighbridgetop_WholeClock.l0 k x1 x2 ([] : List Int) 0 x102000 x102001 x102002 x102003 x102004 x102005 x108000 x108001 x108002 x108003)
def weighbridgetop_WholeClock.l0 : Nat → List (S28) → Int → List Int → Int → Int → Bool → Int → Int → Int → Int → Int → Int → Int → Bool → Option (Bool)
  | 0, _, _, _, _, _, _, _, _, _, _, _, _, _, _ => none
  | k + 1, x1, x2, x9, x10, x102000, x102001, x102002, x102003, x102004, x102005, x108000, x108001, x108002, x108003 => if x10 < (x1.length : Int) then (if 0 ≤ x10 then (if ((rd_T28 x1 x10).f1) < 0 then ((single_Check.f k 0 false 0 0 0 0).bind fun t110 => (some (t110 == 10))) else (if x9.length < 17592186044416 then (weighbridgetop_WholeClock.l0 k x1 x2 (x9 ++ [(rd_T28 x1 x10).f0]) (wrap64 (x10 + 1)) x102000 x102001 x102002 x102003 x102004 x102005 x108000 x108001 x108002 x108003) else (none))) else (none)) else ((ratchet_Run.f x9).bind fun t115 => (if (t115.length : Int) = (x1.length : Int) then (weighbridgetop_WholeClock.l1 k x1 x2 t115 true 0 x102000 x102001 x102002 x102003 x102004 x102005 x108000 x108001 x108002 x108003 x108000 x108001 x108002 x108003 x108000 x108001 x108002 x108003) else (none)))
def weighbridgetop_WholeClock.l1 : Nat → List (S28) → Int → List Int → Bool → Int → Int → Bool → Int → Int → Int → Int → Int → Int → Int → Bool → Int → Int → Int → Bool → Int → Int → Int → Bool → Option (Bool)
  | 0, _, _, _, _, _, _, _, _, _, _, _, _, _, _, _, _, _, _, _, _, _, _, _ => none
  | k + 1, x1, x2, x11, x14, x15, x102000, x102001, x102002, x102003, x102004, x102005, x108000, x108001, x108002, x108003, x119000, x119001, x119002, x119003, x120000, x120001, x120002, x120003 => if x15 < (x1.length : Int) then (if 0 ≤ x15 then ((single_Step.f k x102000 x102001 x102002 x102003 x102004 x102005 x108000 x108001 x108002 x108003 ((rd_T28 x1 x15).f0) ((rd_T28 x1 x15).f1) ((rd_T28 x1 x15).f2)).bind fun bt124 => (if x15 < (x11.length : Int) then ((single_Step.f k x102000 x102001 x102002 x102003 x102004 x102005 x119000 x119001 x119002 x119003 (rd x11 x15) ((rd_T28 x1 x15).f1) ((rd_T28 x1 x15).f2)).bind fun bt132 => (if bt124.2.2.2.2 = bt132.2.2.2.2 then (if bt124.1 = bt132.1 then (weighbridgetop_WholeClock.j3 k x1 x2 x11 x14 x15 bt124.2.2.2.2 (bt124.2.1 != bt132.2.1) x102000 x102001 x102002 x102003 x102004 x102005 bt124.1 bt124.2.1 bt124.2.2.1 bt124.2.2.2.1 bt132.1 bt132.2.1 bt132.2.2.1 bt132.2.2.2.1 x120000 x120001 x120002 x120003) else (weighbridgetop_WholeClock.j3 k x1 x2 x11 x14 x15 bt124.2.2.2.2 true x102000 x102001 x102002 x102003 x102004 x102005 bt124.1 bt124.2.1 bt124.2.2.1 bt124.2.2.2.1 bt132.1 bt132.2.1 bt132.2.2.1 bt132.2.2.2.1 x120000 x120001 x120002 x120003)) else (weighbridgetop_WholeClock.j3 k x1 x2 x11 x14 x15 bt124.2.2.2.2 true x102000 x102001 x102002 x102003 x102004 x102005 bt124.1 bt124.2.1 bt124.2.2.1 bt124.2.2.2.1 bt132.1 bt132.2.1 bt132.2.2.1 bt132.2.2.2.1 x120000 x120001 x120002 x120003))) else (none))) else (none)) else ((single_Check.f k 0 false 0 0 0 0).bind fun t120 => (some (t120 == 10)))
def weighbridgetop_WholeClock.j3 : Nat → List (S28) → Int → List Int → Bool → Int → Int → Bool → Int → Bool → Int → Int → Int → Int → Int → Int → Int → Bool → Int → Int → Int → Bool → Int → Int → Int → Bool → Option (Bool)
  | 0, _, _, _, _, _, _, _, _, _, _, _, _, _, _, _, _, _, _, _, _, _, _, _, _, _ => none
  | k + 1, x1, x2, x11, x14, x15, x16, x129, x102000, x102001, x102002, x102003, x102004, x102005, x108000, x108001, x108002, x108003, x119000, x119001, x119002, x119003, x120000, x120001, x120002, x120003 => if x129 = true then (none) else (if x14 = true then (if 0 ≤ x15 then (if x15 < (x1.length : Int) then (weighbridgetop_WholeClock.j4 k x1 x2 x11 (decide ((IntKind.u64.wrap (((rd_T28 x1 x15).f0) + x2)) ≥ x2)) x15 x16 x102000 x102001 x102002 x102003 x102004 x102005 x108000 x108001 x108002 x108003 x119000 x119001 x119002 x119003 x120000 x120001 x120002 x120003) else (none)) else (none)) else (weighbridgetop_WholeClock.j4 k x1 x2 x11 false x15 x16 x102000 x102001 x102002 x102003 x102004 x102005 x108000 x108001 x108002 x108003 x119000 x119001 x119002 x119003 x120000 x120001 x120002 x120003))
def weighbridgetop_WholeClock.j4 : Nat → List (S28) → Int → List Int → Bool → Int → Int → Int → Bool → Int → Int → Int → Int → Int → Int → Int → Bool → Int → Int → Int → Bool → Int → Int → Int → Bool → Option (Bool)
  | 0, _, _, _, _, _, _, _, _, _, _, _, _, _, _, _, _, _, _, _, _, _, _, _, _ => none
  | k + 1, x1, x2, x11, x14, x15, x16, x102000, x102001, x102002, x102003, x102004, x102005, x108000, x108001, x108002, x108003, x119000, x119001, x119002, x119003, x120000, x120001, x120002, x120003 => if x14 = true then (if 0 ≤ x15 then (if x15 < (x1.length : Int) then ((single_Step.f k x102000 x102001 x102002 x102003 x102004 x102005 x120000 x120001 x120002 x120003 (IntKind.u64.wrap (((rd_T28 x1 x15).f0) + x2)) ((rd_T28 x1 x15).f1) ((rd_T28 x1 x15).f2)).bind fun bt141 => (if bt141.2.2.2.2 = x16 then (if bt141.1 = x108000 then (if bt141.2.1 = x108001 then (weighbridgetop_WholeClock.l1 k x1 x2 x11 x14 (wrap64 (x15 + 1)) x102000 x102001 x102002 x102003 x102004 x102005 x108000 x108001 x108002 x108003 x119000 x119001 x119002 x119003 bt141.1 bt141.2.1 bt141.2.2.1 bt141.2.2.2.1) else (none)) else (none)) else (none))) else (none)) else (none)) else (weighbridgetop_WholeClock.l1 k x1 x2 x11 x14 (wrap64 (x15 + 1)) x102000 x102001 x102002 x102003 x102004 x102005 x108000 x108001 x108002 x108003 x119000 x119001 x119002 x119003 x120000 x120001 x120002 x120003)
end
def weighbridgetop_WholeClock.f (k : Nat) (a0_0 : Int) (a0_1 : Bool) (a0_2 : Int) (a0_3 : Int) (a0_4 : Int) (a0_5 : Int) (l1 : List (S28)) (a2 : Int) : Option (Bool) := (single_New.f k a0_0 a0_1 a0_2 a0_3 a0_4 a0_5).bind fun bt102 => (if bt102.2.2.2.2 = 0 then (weighbridgetop_WholeClock.j0 k l1 a2 (decide ((l1.length : Int) > 100)) a0_0 a0_1 a0_2 a0_3 a0_4 a0_5 bt102.1 bt102.2.1 bt102.2.2.1 bt102.2.2.2.1) else (weighbridgetop_WholeClock.j0 k l1 a2 true a0_0 a0_1 a0_2 a0_3 a0_4 a0_5 bt102.1 bt102.2.1 bt102.2.2.1 bt102.2.2.2.1))
def weighbridgetop_WholeClock.T20 : Bool × List (List Nat × List Nat) := (true, [([], []), ([], []), ([], []), ([], []), ([2, 3], [2, 3]), ([4], [4]), ([5], [5]), ([], []), ([], []), ([7, 8], [7, 8]), ([9], [9]), ([10], [10]), ([], []), ([], []), ([12, 13], [12, 13]), ([14], [14]), ([15], [15]), ([0, 1, 6, 11, 16], [0, 1, 6, 11, 16]), ([17], [17]), ([18], [18]), ([18], [18]), ([19, 17, 0, 1, 2, 3, 4, 5, 6, 7, 8, 9, 10, 11, 12, 13, 14, 15, 16, 17, 18, 19], [19]), ([20, 21, 0, 1, 2, 3, 4, 5, 6, 7, 8, 9, 10, 11, 12, 13, 14, 15, 16, 17, 18, 19, 20, 21], [20])])
def weighbridgetop_WholeClock.B20 : List Nat := [0, 0, 0, 0, 12, 28, 60, 0, 0, 384, 896, 1920, 0, 0, 12288, 28672, 61440, 131071, 262143, 524287, 524287, 1048575, 4194303]
theorem weighbridgetop_WholeClock.tab20 : rtab .any (opsOf Try.f9 20) = weighbridgetop_WholeClock.T20 := by kernel_rfl
theorem weighbridgetop_WholeClock.bits20 : waitsOk weighbridgetop_WholeClock.T20.2 weighbridgetop_WholeClock.B20 = true := by kernel_rfl
def weighbridgetop_WholeClock.T21 : Bool × List (List Nat × List Nat) := (true, [([], []), ([], []), ([], []), ([], []), ([2, 3], [2, 3]), ([4], [4]), ([], []), ([], []), ([6, 7], [6, 7]), ([8], [8]), ([9], [9]), ([], []), ([], []), ([11, 12], [11, 12]), ([13], [13]), ([14], [14]), ([0, 1, 5, 10, 15], [0, 1, 5, 10, 15]), ([16], [16]), ([17], [17]), ([17], [17]), ([18, 16, 0, 1, 2, 3, 4, 5, 6, 7, 8, 9, 10, 11, 12, 13, 14, 15, 16, 17, 18], [18]), ([19, 20, 0, 1, 2, 3, 4, 5, 6, 7, 8, 9, 10, 11, 12, 13, 14, 15, 16, 17, 18, 19, 20], [19])])
def weighbridgetop_WholeClock.B21 : List Nat := [0, 0, 0, 0, 12, 28, 0, 0, 192, 448, 960, 0, 0, 6144, 14336, 30720, 65535, 131071, 262143, 262143, 524287, 2097151]
theorem weighbridgetop_WholeClock.tab21 : rtab .any (opsOf Try.f9 21) = weighbridgetop_WholeClock.T21 := by kernel_rfl
theorem weighbridgetop_WholeClock.bits21 : waitsOk weighbridgetop_WholeClock.T21.2 weighbridgetop_WholeClock.B21 = true := by kernel_rfl
def weighbridgetop_WholeClock.T26 : Bool × List (List Nat × List Nat) := (true, [([], []), ([], []), ([], []), ([], []), ([2, 3], [2, 3]), ([4], [4]), ([5], [5]), ([], []), ([6, 7], [6, 7]), ([], []), ([], []), ([9, 10], [9, 10]), ([11], [11]), ([12], [12]), ([], []), ([], []), ([14, 15], [14, 15]), ([16], [16]), ([17], [17]), ([0, 1, 8, 13, 18], [0, 1, 8, 13, 18]), ([19], [19]), ([20], [20]), ([20], [20]), ([21, 19, 0, 1, 2, 3, 4, 5, 6, 7, 8, 9, 10, 11, 12, 13, 14, 15, 16, 17, 18, 19, 20, 21], [21]), ([22, 23, 0, 1, 2, 3, 4, 5, 6, 7, 8, 9, 10, 11, 12, 13, 14, 15, 16, 17, 18, 19, 20, 21, 22, 23], [22])])
def weighbridgetop_WholeClock.B26 : List Nat := [0, 0, 0, 0, 12, 28, 60, 0, 252, 0, 0, 1536, 3584, 7680, 0, 0, 49152, 114688, 245760, 524287, 1048575, 2097151, 2097151, 4194303, 16777215]
theorem weighbridgetop_WholeClock.tab26 : rtab .any (opsOf Try.f9 26) = weighbridgetop_WholeClock.T26 := by kernel_rfl
theorem weighbridgetop_WholeClock.bits26 : waitsOk weighbridgetop_WholeClock.T26.2 weighbridgetop_WholeClock.B26 = true := by kernel_rfl
set_option maxHeartbeats 8000000 in
set_option maxRecDepth 100000 in
theorem weighbridgetop_WholeClock.calls (k : Nat) (a0_0 : Int) (a0_1 : Bool) (a0_2 : Int) (a0_3 : Int) (a0_4 : Int) (a0_5 : Int) (A1 : Option Addr) (c1 : Nat) (l1 : List (S28)) (a2 : Int) (r : Bool) (w : World) (hr1 : Kd.C k28 w A1 l1.length l1) (hc1 : l1.length ≤ c1) (h : weighbridgetop_WholeClock.f k a0_0 a0_1 a0_2 a0_3 a0_4 a0_5 l1 a2 = some r) :
    Calls Try.prog 9 #[.agg #[.int .i64 a0_0, .bool a0_1, .int .u64 a0_2, .int .u64 a0_3, .int .u64 a0_4, .int .u64 a0_5], .slice A1 l1.length c1, .int .u64 a2] w fun e w' => e = .returned (.bool r) ∧ Below w.heap.size w w' := by
  have hu24 := Try.underlying24
  have hu26 := Try.underlying26
  have HR1 := zq3 hr1
  have HC1 := zq3 hc1
  clear hr1 hc1
  have HB := zq3 (Below.refl w.heap.size w)
  have H : ((single_New.f k a0_0 a0_1 a0_2 a0_3 a0_4 a0_5).bind fun bt102 => (if bt102.2.2.2.2 = 0 then (weighbridgetop_WholeClock.j0 k l1 a2 (decide ((l1.length : Int) > 100)) a0_0 a0_1 a0_2 a0_3 a0_4 a0_5 bt102.1 bt102.2.1 bt102.2.2.1 bt102.2.2.2.1) else (weighbridgetop_WholeClock.j0 k l1 a2 true a0_0 a0_1 a0_2 a0_3 a0_4 a0_5 bt102.1 bt102.2.1 bt102.2.2.1 bt102.2.2.2.1))) = some r := h
  clear h
  replace H := Option.bind_eq_some_iff.mp H
  obtain ⟨⟨t102, t103, t104, t105, t106⟩, A40, H⟩ := H
  replace H : (if t106 = 0 then (weighbridgetop_WholeClock.j0 k l1 a2 (decide ((l1.length : Int) > 100)) a0_0 a0_1 a0_2 a0_3 a0_4 a0_5 t102 t103 t104 t105) else (weighbridgetop_WholeClock.j0 k l1 a2 true a0_0 a0_1 a0_2 a0_3 a0_4 a0_5 t102 t103 t104 t105)) = some r := H
  have A4 := zq3 A40
  clear A40
  have HC5 := zq3 H
  clear H
  go_enter Try.func9, Try.ntmps9
  go_upto_region 2 with (first | ((with_reducible refine gate_dst (N := 3) rfl ?_); (try (refine gate_guard (by rfl) ?_; dsimp only)); refine box_event ?hg (N := 3) ?hd (cs := #[.int .i64 a0_0, .bool a0_1, .int .u64 a0_2, .int .u64 a0_3, .int .u64 a0_4, .int .u64 a0_5]) (t := 24) ?hr ?_; (case hd => rfl); (case hg => rfl); (case hr => first | (go_simp; done) | (go_simp; rfl)); intro gb101 hg w6 hbox hb; have n0_ := zq3 (below_step (by repeat (first | (with_reducible first | exact HB.out | apply zq9 | apply zq7 | apply zq8) | exact HB.out)) hb); have n1_ := zq3 (hbox); have n2_ := zq3 ((by rw [hg]; exact (below_size (by repeat (first | (with_reducible first | exact HB.out | apply zq9 | apply zq7 | apply zq8) | exact HB.out))) : w.heap.size ≤ gb101)); have n3_ := zq3 ((by rw [hg]; exact (below_size (by repeat (first | (with_reducible first | exact HB.out | apply zq9 | apply zq7 | apply zq8) | exact HB.out))) : w.heap.size ≤ gb101)); clear HB; have HB := n0_; have BK101 := n1_; have GW101 := n2_; have GE101 := n3_; clear n0_ n1_ n2_ n3_; clear hb hbox hg; have hcz7_0 : w6.cell? ⟨gb101, 0, none⟩ = some (.int .i64 a0_0) := (zq5 BK101.out 0).trans rfl; have hcz7_1 : w6.cell? ⟨gb101, 1, none⟩ = some (.bool a0_1) := (zq5 BK101.out 1).trans rfl; have hcz7_2 : w6.cell? ⟨gb101, 2, none⟩ = some (.int .u64 a0_2) := (zq5 BK101.out 2).trans rfl; have hcz7_3 : w6.cell? ⟨gb101, 3, none⟩ = some (.int .u64 a0_3) := (zq5 BK101.out 3).trans rfl; have hcz7_4 : w6.cell? ⟨gb101, 4, none⟩ = some (.int .u64 a0_4) := (zq5 BK101.out 4).trans rfl; have hcz7_5 : w6.cell? ⟨gb101, 5, none⟩ = some (.int .u64 a0_5) := (zq5 BK101.out 5).trans rfl; have hfz7_0 := zq4 BK101.out 0; have hfz7_1 := zq4 BK101.out 1; have hfz7_2 := zq4 BK101.out 2; have hfz7_3 := zq4 BK101.out 3; have hfz7_4 := zq4 BK101.out 4; have hfz7_5 := zq4 BK101.out 5) | ((with_reducible refine gate_callee (f := 20) rfl ?_); refine goesL_ (some 21) rfl rfl Try.func20 (by kernel_rfl) rfl #[.agg #[.int .i64 a0_0, .bool a0_1, .int .u64 a0_2, .int .u64 a0_3, .int .u64 a0_4, .int .u64 a0_5]] rfl (by (try simp only [List.map_toArray, List.map_cons, List.map_nil]); first | done | rfl | (simp only [List.length_drop, List.length_take]; rfl)) ?_; (with_reducible refine (single_New.calls k a0_0 a0_1 a0_2 a0_3 a0_4 a0_5 t102 t103 t104 t105 t106 _ A4.out).mono ?_); rintro e w8 ⟨rfl, hb⟩; refine ⟨_, rfl, ?_⟩; have n0_ := zq3 (zq10 (g := gb101) (o := .cells #[.int .i64 a0_0, .bool a0_1, .int .u64 a0_2, .int .u64 a0_3, .int .u64 a0_4, .int .u64 a0_5] 24 (0, 0)) (by (with_reducible repeat (first | refine zq0 ?_ _ | refine zq2 ?_ | refine zq1 ?_ _)); exact BK101.out) hb); have n1_ := zq3 (below_step (by repeat (first | (with_reducible first | exact HB.out | apply zq9 | apply zq7 | apply zq8 | refine zq6 ?_ GE101.out) | exact HB.out)) hb); clear BK101; clear HB; have BK101 := n0_; have HB := n1_; clear n0_ n1_; (try clear hb); (try clear hb2); (try clear hk); (try clear hi)) | ((with_reducible refine gate_dst (N := 7) rfl ?_); (try (refine gate_guard (by rfl) ?_; dsimp only)); refine box_event ?hg (N := 7) ?hd (cs := #[.int .u64 0, .int .u64 0, .int .u64 0, .bool false]) (t := 26) ?hr ?_; (case hd => rfl); (case hg => rfl); (case hr => first | (go_simp; done) | (go_simp; rfl)); intro gb107 hg w9 hbox hb; have n0_ := zq3 (zq10 (g := gb101) (o := .cells #[.int .i64 a0_0, .bool a0_1, .int .u64 a0_2, .int .u64 a0_3, .int .u64 a0_4, .int .u64 a0_5] 24 (0, 0)) (by (with_reducible repeat (first | refine zq0 ?_ _ | refine zq2 ?_ | refine zq1 ?_ _)); exact BK101.out) hb); have n1_ := zq3 (below_step (by repeat (first | (with_reducible first | exact HB.out | apply zq9 | apply zq7 | apply zq8 | refine zq6 ?_ GE101.out) | exact HB.out)) hb); have n2_ := zq3 (hbox); have n3_ := zq3 ((by rw [hg]; exact (below_size (by repeat (first | (with_reducible first | exact HB.out | apply zq9 | apply zq7 | apply zq8 | refine zq6 ?_ GE101.out) | exact HB.out))) : w.heap.size ≤ gb107)); have n4_ := zq3 ((by rw [hg]; exact (below_size (by repeat (first | (with_reducible first | exact HB.out | apply zq9 | apply zq7 | apply zq8 | refine zq6 ?_ GE101.out) | exact HB.out))) : w.heap.size ≤ gb107)); have n5_ := zq3 ((by rw [hg]; exact Nat.ne_of_lt (blk_lt (g := gb101) (o := .cells #[.int .i64 a0_0, .bool a0_1, .int .u64 a0_2, .int .u64 a0_3, .int .u64 a0_4, .int .u64 a0_5] 24 (0, 0)) (by (with_reducible repeat (first | refine zq0 ?_ _ | refine zq2 ?_ | refine zq1 ?_ _)); exact BK101.out)) : gb101 ≠ gb107)); have n6_ := zq3 ((by rw [hg]; exact Nat.ne_of_gt (blk_lt (g := gb101) (o := .cells #[.int .i64 a0_0, .bool a0_1, .int .u64 a0_2, .int .u64 a0_3, .int .u64 a0_4, .int .u64 a0_5] 24 (0, 0)) (by (with_reducible repeat (first | refine zq0 ?_ _ | refine zq2 ?_ | refine zq1 ?_ _)); exact BK101.out)) : gb107 ≠ gb101)); clear BK101; clear HB; have BK101 := n0_; have HB := n1_; have BK107 := n2_; have GW107 := n3_; have GE107 := n4_; have NB101_107 := n5_; have NB107_101 := n6_; clear n0_ n1_ n2_ n3_ n4_ n5_ n6_; clear hb hbox hg; have hnb10 := NB107_101.out; have hnc10 := NB101_107.out; have hcz11_0 : w9.cell? ⟨gb107, 0, none⟩ = some (.int .u64 0) := (zq5 BK107.out 0).trans rfl; have hcz11_1 : w9.cell? ⟨gb107, 1, none⟩ = some (.int .u64 0) := (zq5 BK107.out 1).trans rfl; have hcz11_2 : w9.cell? ⟨gb107, 2, none⟩ = some (.int .u64 0) := (zq5 BK107.out 2).trans rfl; have hcz11_3 : w9.cell? ⟨gb107, 3, none⟩ = some (.bool false) := (zq5 BK107.out 3).trans rfl; have hfz11_0 := zq4 BK107.out 0; have hfz11_1 := zq4 BK107.out 1; have hfz11_2 := zq4 BK107.out 2; have hfz11_3 := zq4 BK107.out 3))
  (try simp only [Act.put, List.setIfInBounds_toArray, List.set_cons_zero, List.set_cons_succ])
  go_cut [30] (fun v30 wc => ∃ (kq : Nat) (x30_4 : Bool), v30 = .bool x30_4 ∧ Aside0 (weighbridgetop_WholeClock.j0 kq l1 a2 x30_4 a0_0 a0_1 a0_2 a0_3 a0_4 a0_5 t102 t103 t104 t105 = some r) ∧ Aside0 (kq ≤ k) ∧ Aside0 (wc.heap[gb101]? = some (.cells #[.int .i64 a0_0, .bool a0_1, .int .u64 a0_2, .int .u64 a0_3, .int .u64 a0_4, .int .u64 a0_5] 24 (0, 0))) ∧ Aside0 (wc.heap[gb107]? = some (.cells #[.int .u64 t102, .int .u64 t103, .int .u64 t104, .bool t105] 26 (0, 0))) ∧ Aside0 (Below w.heap.size w wc))
  case first =>
    have H := HC5.out
    clear HC5
    by_cases c12 : t106 = 0
    · rw [if_pos c12] at H
      have c12b0 : (t106 == 0) = true := beq_iff_eq.mpr c12
      have c12b1 : (t106 != 0) = false := bne_eq_false_iff_eq.mpr c12
      clear c12
      (first | rw [c12b0] | (simp only [i64_w, i32_w]; rw [c12b0]) | skip)
      have H' := zq3 H
      clear H
      go_wp2
      go_meet
      case rel => exact ⟨_, (decide ((l1.length : Int) > 100)), (by first | rfl | (simp; done) | (simp [*]; done)), H', ⟨by first | omega | exact Nat.le_refl _⟩, ⟨by (with_reducible repeat (first | refine zq0 ?_ _ | refine zq2 ?_ | refine zq1 ?_ _)); refine zq11 ?_ NB101_107.out _; (with_reducible repeat (first | refine zq0 ?_ _ | refine zq2 ?_ | refine zq1 ?_ _)); refine zq11 ?_ NB101_107.out _; (with_reducible repeat (first | refine zq0 ?_ _ | refine zq2 ?_ | refine zq1 ?_ _)); refine zq11 ?_ NB101_107.out _; (with_reducible repeat (first | refine zq0 ?_ _ | refine zq2 ?_ | refine zq1 ?_ _)); refine zq11 ?_ NB101_107.out _; (with_reducible repeat (first | refine zq0 ?_ _ | refine zq2 ?_ | refine zq1 ?_ _)); exact BK101.out⟩, ⟨by (with_reducible repeat (first | refine zq0 ?_ _ | refine zq2 ?_ | refine zq1 ?_ _)); refine blk_put (cs := #[.int .u64 t102, .int .u64 t103, .int .u64 t104, .bool false]) ?_ 3 _ rfl; (with_reducible repeat (first | refine zq0 ?_ _ | refine zq2 ?_ | refine zq1 ?_ _)); refine blk_put (cs := #[.int .u64 t102, .int .u64 t103, .int .u64 0, .bool false]) ?_ 2 _ rfl; (with_reducible repeat (first | refine zq0 ?_ _ | refine zq2 ?_ | refine zq1 ?_ _)); refine blk_put (cs := #[.int .u64 t102, .int .u64 0, .int .u64 0, .bool false]) ?_ 1 _ rfl; (with_reducible repeat (first | refine zq0 ?_ _ | refine zq2 ?_ | refine zq1 ?_ _)); refine blk_put (cs := #[.int .u64 0, .int .u64 0, .int .u64 0, .bool false]) ?_ 0 _ rfl; (with_reducible repeat (first | refine zq0 ?_ _ | refine zq2 ?_ | refine zq1 ?_ _)); exact BK107.out⟩, ⟨by repeat (first | (with_reducible first | exact HB.out | apply zq9 | apply zq7 | apply zq8 | refine zq6 ?_ GE101.out | refine zq6 ?_ GE107.out) | exact HB.out)⟩⟩
    · rw [if_neg c12] at H
      have c12b0 : (t106 == 0) = false := beq_eq_false_iff_ne.mpr c12
      have c12b1 : (t106 != 0) = true := bne_iff_ne.mpr c12
      (first | rw [c12b0] | (simp only [i64_w, i32_w]; rw [c12b0]) | skip)
      have H' := zq3 H
      clear H
      go_wp2
      go_meet
      case rel => exact ⟨_, (true), (by first | rfl | (simp; done) | (simp [*]; done)), H', ⟨by first | omega | exact Nat.le_refl _⟩, ⟨by (with_reducible repeat (first | refine zq0 ?_ _ | refine zq2 ?_ | refine zq1 ?_ _)); refine zq11 ?_ NB101_107.out _; (with_reducible repeat (first | refine zq0 ?_ _ | refine zq2 ?_ | refine zq1 ?_ _)); refine zq11 ?_ NB101_107.out _; (with_reducible repeat (first | refine zq0 ?_ _ | refine zq2 ?_ | refine zq1 ?_ _)); refine zq11 ?_ NB101_107.out _; (with_reducible repeat (first | refine zq0 ?_ _ | refine zq2 ?_ | refine zq1 ?_ _)); refine zq11 ?_ NB101_107.out _; (with_reducible repeat (first | refine zq0 ?_ _ | refine zq2 ?_ | refine zq1 ?_ _)); exact BK101.out⟩, ⟨by (with_reducible repeat (first | refine zq0 ?_ _ | refine zq2 ?_ | refine zq1 ?_ _)); refine blk_put (cs := #[.int .u64 t102, .int .u64 t103, .int .u64 t104, .bool false]) ?_ 3 _ rfl; (with_reducible repeat (first | refine zq0 ?_ _ | refine zq2 ?_ | refine zq1 ?_ _)); refine blk_put (cs := #[.int .u64 t102, .int .u64 t103, .int .u64 0, .bool false]) ?_ 2 _ rfl; (with_reducible repeat (first | refine zq0 ?_ _ | refine zq2 ?_ | refine zq1 ?_ _)); refine blk_put (cs := #[.int .u64 t102, .int .u64 0, .int .u64 0, .bool false]) ?_ 1 _ rfl; (with_reducible repeat (first | refine zq0 ?_ _ | refine zq2 ?_ | refine zq1 ?_ _)); refine blk_put (cs := #[.int .u64 0, .int .u64 0, .int .u64 0, .bool false]) ?_ 0 _ rfl; (with_reducible repeat (first | refine zq0 ?_ _ | refine zq2 ?_ | refine zq1 ?_ _)); exact BK107.out⟩, ⟨by repeat (first | (with_reducible first | exact HB.out | apply zq9 | apply zq7 | apply zq8 | refine zq6 ?_ GE101.out | refine zq6 ?_ GE107.out) | exact HB.out)⟩⟩
  case rest =>
    clear HC5
    try clear c1
    try clear c2
    try clear p2
    try clear c9
    try clear c10
    try clear c12
    try clear c12b0
    try clear c12b1
    try clear hcz11_0
    try clear hcz11_1
    try clear hcz11_2
    try clear hcz11_3
    try clear hcz7_0
    try clear hcz7_1
    try clear hcz7_2
    try clear hcz7_3
    try clear hcz7_4
    try clear hcz7_5
    try clear hfz11_0
    try clear hfz11_1
    try clear hfz11_2
    try clear hfz11_3
    try clear hfz7_0
    try clear hfz7_1
    try clear hfz7_2
    try clear hfz7_3
    try clear hfz7_4
    try clear hfz7_5
    obtain ⟨kq, x30_4, rfl, HA, HJ4, BK101, BK107, HB⟩ := hcut
    cases kq with
    | zero => exact absurd HA.out (by simp [weighbridgetop_WholeClock.j0])
    | succ kj4 =>
      have H := HA.out
      clear HA
      simp only [weighbridgetop_WholeClock.j0] at H
      by_cases c13 : x30_4 = true
      · subst c13
        have H1 : ((single_Check.f kj4 0 false 0 0 0 0).bind fun t108 => (some (t108 == 10))) = some r := by rw [if_pos rfl] at H; exact H
        clear H
        have H := H1
        clear H1
        replace H := Option.bind_eq_some_iff.mp H
        obtain ⟨t108, A140, H⟩ := H
        replace H : (some (t108 == 10)) = some r := H
        have A14 := zq3 A140
        clear A140
        obtain rfl := Option.some.inj H
        go_wp2_with (first | ((with_reducible refine gate_callee (f := 25) rfl ?_); refine goesL_ (some 32) rfl rfl Try.func25 (by kernel_rfl) rfl #[.agg #[.int .i64 0, .bool false, .int .u64 0, .int .u64 0, .int .u64 0, .int .u64 0]] rfl (by (try simp only [List.map_toArray, List.map_cons, List.map_nil]); first | done | rfl | (simp only [List.length_drop, List.length_take]; rfl)) ?_; (with_reducible refine (single_Check.calls kj4 0 false 0 0 0 0 t108 _ A14.out).mono ?_); rintro e w15 ⟨rfl, hb⟩; refine ⟨_, rfl, ?_⟩; have n0_ := zq3 (zq10 (g := gb101) (o := .cells #[.int .i64 a0_0, .bool a0_1, .int .u64 a0_2, .int .u64 a0_3, .int .u64 a0_4, .int .u64 a0_5] 24 (0, 0)) (by (with_reducible repeat (first | refine zq0 ?_ _ | refine zq2 ?_ | refine zq1 ?_ _)); exact BK101.out) hb); have n1_ := zq3 (zq10 (g := gb107) (o := .cells #[.int .u64 t102, .int .u64 t103, .int .u64 t104, .bool t105] 26 (0, 0)) (by (with_reducible repeat (first | refine zq0 ?_ _ | refine zq2 ?_ | refine zq1 ?_ _)); exact BK107.out) hb); have n2_ := zq3 (below_step (by repeat (first | (with_reducible first | exact HB.out | apply zq9 | apply zq7 | apply zq8 | refine zq6 ?_ GE101.out | refine zq6 ?_ GE107.out) | exact HB.out)) hb); clear BK101; clear BK107; clear HB; have BK101 := n0_; have BK107 := n1_; have HB := n2_; clear n0_ n1_ n2_; (try clear hb); (try clear hb2); (try clear hk); (try clear hi)))
        go_ret
        exact ⟨by first | rfl | (simp [errW_none, errW_some] <;> rfl) | (simp [*, errW_none, errW_some] <;> rfl), by repeat (first | (with_reducible first | exact HB.out | apply zq9 | apply zq7 | apply zq8 | refine zq6 ?_ GE101.out | refine zq6 ?_ GE107.out) | exact HB.out)⟩
      · replace c13 := Bool.eq_false_iff.mpr c13
        subst c13
        have H1 : (weighbridgetop_WholeClock.l0 kj4 l1 a2 ([] : List Int) 0 a0_0 a0_1 a0_2 a0_3 a0_4 a0_5 t102 t103 t104 t105) = some r := by rw [if_neg (show ¬ (false = true) by decide)] at H; exact H
        clear H
        have H := H1
        clear H1
        have H' := zq3 H
        clear H
        go_wp2
        go_loopg [9, 10] kj4 (fun kq v9 v10 w' => ∃ (x9_2 : List Int) (x10_2 : Int), v10 = .int .i64 x10_2 ∧ Aside0 (weighbridgetop_WholeClock.l0 kq l1 a2 x9_2 x10_2 a0_0 a0_1 a0_2 a0_3 a0_4 a0_5 t102 t103 t104 t105 = some r) ∧ Aside0 (kq ≤ kj4) ∧ Aside0 (Kd.R (Kd.int .u64) 22 w' w.heap.size (fun _ => True) v9 x9_2) ∧ Aside0 (w'.heap[gb101]? = some (.cells #[.int .i64 a0_0, .bool a0_1, .int .u64 a0_2, .int .u64 a0_3, .int .u64 a0_4, .int .u64 a0_5] 24 (0, 0))) ∧ Aside0 (w'.heap[gb107]? = some (.cells #[.int .u64 t102, .int .u64 t103, .int .u64 t104, .bool t105] 26 (0, 0))) ∧ Aside0 (Below w.heap.size w w'))
        case atStart => exact ⟨(([] : List Int)), (0), (by first | rfl | (simp; done) | (simp [*]; done)), H', ⟨Nat.le_refl _⟩, ⟨by first | exact Kd.R_nil _ _ _ _ _ | exact Kd.N_nil _ _ _ _ _ | exact Kd.V_nil _ _ _ _ _ | exact Kd.Q_nil _ _ _ _ _ | exact Kd.S_nil _ _ _ _ _⟩, ⟨by (with_reducible repeat (first | refine zq0 ?_ _ | refine zq2 ?_ | refine zq1 ?_ _)); exact BK101.out⟩, ⟨by (with_reducible repeat (first | refine zq0 ?_ _ | refine zq2 ?_ | refine zq1 ?_ _)); exact BK107.out⟩, ⟨by repeat (first | (with_reducible first | exact HB.out | apply zq9 | apply zq7 | apply zq8 | refine zq6 ?_ GE101.out | refine zq6 ?_ GE107.out) | exact HB.out)⟩⟩
        case round =>
          clear H'
          try clear c1
          try clear c2
          try clear p2
          try clear c9
          try clear c10
          try clear c12
          try clear c12b0
          try clear c12b1
          try clear c13
          try clear hcz11_0
          try clear hcz11_1
          try clear hcz11_2
          try clear hcz11_3
          try clear hcz7_0
          try clear hcz7_1
          try clear hcz7_2
          try clear hcz7_3
          try clear hcz7_4
          try clear hcz7_5
          try clear hfz11_0
          try clear hfz11_1
          try clear hfz11_2
          try clear hfz11_3
          try clear hfz7_0
          try clear hfz7_1
          try clear hfz7_2
          try clear hfz7_3
          try clear hfz7_4
          try clear hfz7_5
          try clear p2
          obtain ⟨x9_2, x10_2, rfl, HA, HK2, HO_9, BK101, BK107, HB⟩ := hrel
          cases gk with
          | zero => exact absurd HA.out (by simp [weighbridgetop_WholeClock.l0])
          | succ k2 =>
            have H := HA.out
            clear HA
            simp only [weighbridgetop_WholeClock.l0] at H
            by_cases c16 : x10_2 < (l1.length : Int)
            · rw [if_pos c16] at H
              have c16b0 : decide (x10_2 < (l1.length : Int)) = true := decide_eq_true c16
              clear c16
              by_cases c17 : 0 ≤ x10_2
              · rw [if_pos c17] at H
                have c17b0 : decide (0 ≤ x10_2) = true := decide_eq_true c17
                clear c17
                by_cases c18 : ((rd_T28 l1 x10_2).f1) < 0
                · rw [if_pos c18] at H
                  have c18b0 : decide (((rd_T28 l1 x10_2).f1) < 0) = true := decide_eq_true c18
                  clear c18
                  replace H := Option.bind_eq_some_iff.mp H
                  obtain ⟨t110, A190, H⟩ := H
                  replace H : (some (t110 == 10)) = some r := H
                  have A19 := zq3 A190
                  clear A190
                  obtain rfl := Option.some.inj H
                  have p109 : 0 ≤ (x10_2 : Int) := of_decide_eq_true (by first | (with_reducible assumption) | assumption)
                  have q109 : x10_2 < (l1.length : Int) := of_decide_eq_true (by first | (with_reducible assumption) | assumption)
                  obtain ⟨ad109, e109, hx109_0, hx109_1, hx109_2⟩ := at_T28 HR1.out x10_2 p109 q109
                  cases e109
                  replace hx109_0 := (HB.out.cell (World.block_lt_of_cell? w _ hx109_0)).trans hx109_0
                  replace hx109_1 := (HB.out.cell (World.block_lt_of_cell? w _ hx109_1)).trans hx109_1
                  replace hx109_2 := (HB.out.cell (World.block_lt_of_cell? w _ hx109_2)).trans hx109_2
                  replace p109 := eq_true p109
                  replace q109 := eq_true q109
                  go_wp2_with (first | ((with_reducible refine gate_callee (f := 25) rfl ?_); refine goesL_ (some 47) rfl rfl Try.func25 (by kernel_rfl) rfl #[.agg #[.int .i64 0, .bool false, .int .u64 0, .int .u64 0, .int .u64 0, .int .u64 0]] rfl (by (try simp only [List.map_toArray, List.map_cons, List.map_nil]); first | done | rfl | (simp only [List.length_drop, List.length_take]; rfl)) ?_; (with_reducible refine (single_Check.calls k2 0 false 0 0 0 0 t110 _ A19.out).mono ?_); rintro e w20 ⟨rfl, hb⟩; refine ⟨_, rfl, ?_⟩; have n0_ := zq3 (Kd.R_below (by (with_reducible repeat (first | apply Kd.R_alloc | apply Kd.R_drewN | apply Kd.R_drew)); exact HO_9.out) hb); have n1_ := zq3 (zq10 (g := gb101) (o := .cells #[.int .i64 a0_0, .bool a0_1, .int .u64 a0_2, .int .u64 a0_3, .int .u64 a0_4, .int .u64 a0_5] 24 (0, 0)) (by (with_reducible repeat (first | refine zq0 ?_ _ | refine zq2 ?_ | refine zq1 ?_ _)); exact BK101.out) hb); have n2_ := zq3 (zq10 (g := gb107) (o := .cells #[.int .u64 t102, .int .u64 t103, .int .u64 t104, .bool t105] 26 (0, 0)) (by (with_reducible repeat (first | refine zq0 ?_ _ | refine zq2 ?_ | refine zq1 ?_ _)); exact BK107.out) hb); have n3_ := zq3 (below_step (by repeat (first | (with_reducible first | exact HB.out | apply zq9 | apply zq7 | apply zq8 | refine zq6 ?_ GE101.out | refine zq6 ?_ GE107.out) | exact HB.out)) hb); clear HO_9; clear BK101; clear BK107; clear HB; have HO_9 := n0_; have BK101 := n1_; have BK107 := n2_; have HB := n3_; clear n0_ n1_ n2_ n3_; (try clear hb); (try clear hb2); (try clear hk); (try clear hi)))
                  go_ret
                  exact ⟨by first | rfl | (simp [errW_none, errW_some] <;> rfl) | (simp [*, errW_none, errW_some] <;> rfl), by repeat (first | (with_reducible first | exact HB.out | apply zq9 | apply zq7 | apply zq8 | refine zq6 ?_ GE101.out | refine zq6 ?_ GE107.out) | exact HB.out)⟩
                · rw [if_neg c18] at H
                  have c18b0 : decide (((rd_T28 l1 x10_2).f1) < 0) = false := decide_eq_false c18
                  clear c18
                  by_cases c21 : x9_2.length < 17592186044416
                  · rw [if_pos c21] at H
                    have LMc21 := zq3 c21
                    clear c21
                    obtain ⟨y112, hy112⟩ : ∃ y_ : List Int, y_ = (x9_2 ++ [(rd_T28 l1 x10_2).f0]) := ⟨_, rfl⟩
                    replace H : (weighbridgetop_WholeClock.l0 k2 l1 a2 y112 (wrap64 (x10_2 + 1)) a0_0 a0_1 a0_2 a0_3 a0_4 a0_5 t102 t103 t104 t105) = some r := by first | (rw [hy112]; with_reducible exact H) | (have H2_ := (Option.bind_some _ _).symm.trans H; rw [hy112]; with_reducible exact H2_) | (have H2_ := (Option.bind_some _ _).symm.trans H; with_reducible exact H2_) | with_reducible exact H | (rw [hy112]; exact H) | exact H
                    have Ny112 := zq3 hy112
                    clear hy112
                    have H' := zq3 H
                    clear H
                    have p109 : 0 ≤ (x10_2 : Int) := of_decide_eq_true (by first | (with_reducible assumption) | assumption)
                    have q109 : x10_2 < (l1.length : Int) := of_decide_eq_true (by first | (with_reducible assumption) | assumption)
                    obtain ⟨ad109, e109, hx109_0, hx109_1, hx109_2⟩ := at_T28 HR1.out x10_2 p109 q109
                    cases e109
                    replace hx109_0 := (HB.out.cell (World.block_lt_of_cell? w _ hx109_0)).trans hx109_0
                    replace hx109_1 := (HB.out.cell (World.block_lt_of_cell? w _ hx109_1)).trans hx109_1
                    replace hx109_2 := (HB.out.cell (World.block_lt_of_cell? w _ hx109_2)).trans hx109_2
                    replace p109 := eq_true p109
                    replace q109 := eq_true q109
                    have p111 : 0 ≤ (x10_2 : Int) := of_decide_eq_true (by first | (with_reducible assumption) | assumption)
                    have q111 : x10_2 < (l1.length : Int) := of_decide_eq_true (by first | (with_reducible assumption) | assumption)
                    obtain ⟨ad111, e111, hx111_0, hx111_1, hx111_2⟩ := at_T28 HR1.out x10_2 p111 q111
                    obtain rfl : ad109 = ad111 := (by injection e111)
                    replace hx111_0 := (HB.out.cell (World.block_lt_of_cell? w _ hx111_0)).trans hx111_0
                    replace hx111_1 := (HB.out.cell (World.block_lt_of_cell? w _ hx111_1)).trans hx111_1
                    replace hx111_2 := (HB.out.cell (World.block_lt_of_cell? w _ hx111_2)).trans hx111_2
                    replace p111 := eq_true p111
                    replace q111 := eq_true q111
                    go_wp2_with (first | ((with_reducible refine gate_builtin (b := .append) (xs := #[.tmp 49, .tmp 55]) rfl ?_); (try (refine gate_guard (by rfl) ?_; dsimp only)); at_builtin; refine Kd.R_append (Kd.int .u64) (w0 := w) w.heap.size rfl (.tmp 49) (.tmp 55) 42 22 (.int .u64 0) 8 rfl Try.underlying42 info22 rfl (by decide) (by omega) u9 x9_2 ((rd_T28 l1 x10_2).f0) [.int .u64 ((rd_T28 l1 x10_2).f0)] (fun _ => True) (fun _ => False) rfl rfl ?aP (fun _ hk => hk.elim) ?aF ?aO ?aB ?aS ?aL ?_; (case aP => exact rfl); (case aB => exact (by repeat (first | (with_reducible first | exact HB.out | apply zq9 | apply zq7 | apply zq8 | refine zq6 ?_ GE101.out | refine zq6 ?_ GE107.out) | exact HB.out))); (case aF => exact (fun _ _ => trivial)); (case aO => exact (by (with_reducible repeat (first | apply Kd.R_alloc | apply Kd.R_drewN | apply Kd.R_drew)); exact HO_9.out)); (case aS => exact (below_size (by repeat (first | (with_reducible first | exact HB.out | apply zq9 | apply zq7 | apply zq8 | refine zq6 ?_ GE101.out | refine zq6 ?_ GE107.out) | exact HB.out)))); (case aL => have := LMc21.out; omega); intro v113 w22 ho hb hg hat; rw [← Ny112.out] at ho; have n0_ := zq3 (blk_grown (g := gb101) (o := .cells #[.int .i64 a0_0, .bool a0_1, .int .u64 a0_2, .int .u64 a0_3, .int .u64 a0_4, .int .u64 a0_5] 24 (0, 0)) (by (with_reducible repeat (first | refine zq0 ?_ _ | refine zq2 ?_ | refine zq1 ?_ _)); exact BK101.out) hg (Kd.R_ne HO_9.out BK101.out (by decide))); have n1_ := zq3 (blk_grown (g := gb107) (o := .cells #[.int .u64 t102, .int .u64 t103, .int .u64 t104, .bool t105] 26 (0, 0)) (by (with_reducible repeat (first | refine zq0 ?_ _ | refine zq2 ?_ | refine zq1 ?_ _)); exact BK107.out) hg (Kd.R_ne HO_9.out BK107.out (by decide))); have n2_ := zq3 (hb); have n3_ := zq3 (ho); clear BK101; clear BK107; clear HB; clear HO_9; have BK101 := n0_; have BK107 := n1_; have HB := n2_; have HO114 := n3_; clear n0_ n1_ n2_ n3_; clear ho hb hg hat))
                    go_roundg k2
                    case measure => have := HJ4.out; have := HK2.out; omega
                    case rel => exact ⟨(y112), (wrap64 (x10_2 + 1)), (by first | rfl | (simp; done) | (simp [*]; done)), H', ⟨by have := HJ4.out; have := HK2.out; omega⟩, ⟨by (with_reducible repeat (first | apply Kd.R_alloc | apply Kd.R_drewN | apply Kd.R_drew)); exact HO114.out⟩, ⟨by (with_reducible repeat (first | refine zq0 ?_ _ | refine zq2 ?_ | refine zq1 ?_ _)); exact BK101.out⟩, ⟨by (with_reducible repeat (first | refine zq0 ?_ _ | refine zq2 ?_ | refine zq1 ?_ _)); exact BK107.out⟩, ⟨by repeat (first | (with_reducible first | exact HB.out | apply zq9 | apply zq7 | apply zq8 | refine zq6 ?_ GE101.out | refine zq6 ?_ GE107.out) | exact HB.out)⟩⟩
                  · rw [if_neg c21] at H
                    exact absurd H (by simp)
              · rw [if_neg c17] at H
                exact absurd H (by simp)
            · rw [if_neg c16] at H
              have c16b0 : decide (x10_2 < (l1.length : Int)) = false := decide_eq_false c16
              clear c16
              replace H := Option.bind_eq_some_iff.mp H
              obtain ⟨t115, A230, H⟩ := H
              replace H : (if (t115.length : Int) = (l1.length : Int) then (weighbridgetop_WholeClock.l1 k2 l1 a2 t115 true 0 a0_0 a0_1 a0_2 a0_3 a0_4 a0_5 t102 t103 t104 t105 t102 t103 t104 t105 t102 t103 t104 t105) else (none)) = some r := H
              have A23 := zq3 A230
              clear A230
              by_cases c24 : (t115.length : Int) = (l1.length : Int)
              · rw [if_pos c24] at H
                have c24b0 : ((t115.length : Int) == (l1.length : Int)) = true := beq_iff_eq.mpr c24
                have c24b1 : ((t115.length : Int) != (l1.length : Int)) = false := bne_eq_false_iff_eq.mpr c24
                have c24b2 : (t115.length == l1.length) = true := by first | simpa using c24 | (simp at c24 ⊢; omega)
                clear c24
                have H' := zq3 H
                clear H
                obtain ⟨Ao25, co25, eo25⟩ := Kd.R_slice HO_9.out
                subst eo25
                try go_wp2_with (first | ((with_reducible refine gate_callee (f := 27) rfl ?_); refine goesL_ (some 58) rfl rfl Try.func27 (by kernel_rfl) rfl #[.slice Ao25 x9_2.length co25] rfl (by (try simp only [List.map_toArray, List.map_cons, List.map_nil]); first | done | rfl | (simp only [List.length_drop, List.length_take]; rfl)) ?_; (with_reducible refine (ratchet_Run.calls _ _ x9_2 t115 _ ?side1 ?side2 A23.out).mono ?_); (case side1 => repeat (first | exact (Kd.R_reads' HO_9.out).2.2 | (with_reducible refine Kd.C_alloc ?_ _) | (with_reducible refine Kd.C_drewN ?_ _) | (with_reducible refine Kd.C_drew ?_))); (case side2 => exact (Kd.R_reads' HO_9.out).2.1); rintro e w26 ⟨v116, rfl, ho0, hb⟩; refine ⟨_, rfl, ?_⟩; have n0_ := zq3 (Kd.R_elder' (by (with_reducible repeat (first | apply Kd.R_alloc | apply Kd.R_drewN | apply Kd.R_drew)); exact HO_9.out) (Kd.R_base ho0) hb); have n1_ := zq3 (Kd.R_lower (Kd.R_new' ho0 (Kd.R_lt (by (with_reducible repeat (first | apply Kd.R_alloc | apply Kd.R_drewN | apply Kd.R_drew)); exact HO_9.out))) (below_size (by repeat (first | (with_reducible first | exact HB.out | apply zq9 | apply zq7 | apply zq8 | refine zq6 ?_ GE101.out | refine zq6 ?_ GE107.out) | exact HB.out)))); have n2_ := zq3 (zq10 (g := gb101) (o := .cells #[.int .i64 a0_0, .bool a0_1, .int .u64 a0_2, .int .u64 a0_3, .int .u64 a0_4, .int .u64 a0_5] 24 (0, 0)) (by (with_reducible repeat (first | refine zq0 ?_ _ | refine zq2 ?_ | refine zq1 ?_ _)); exact BK101.out) hb); have n3_ := zq3 (zq10 (g := gb107) (o := .cells #[.int .u64 t102, .int .u64 t103, .int .u64 t104, .bool t105] 26 (0, 0)) (by (with_reducible repeat (first | refine zq0 ?_ _ | refine zq2 ?_ | refine zq1 ?_ _)); exact BK107.out) hb); have n4_ := zq3 (below_step (by repeat (first | (with_reducible first | exact HB.out | apply zq9 | apply zq7 | apply zq8 | refine zq6 ?_ GE101.out | refine zq6 ?_ GE107.out) | exact HB.out)) hb); clear HO_9; clear BK101; clear BK107; clear HB; have HO_9 := n0_; have HO117 := n1_; have BK101 := n2_; have BK107 := n3_; have HB := n4_; clear n0_ n1_ n2_ n3_ n4_; (try clear hb); (try clear hb2); (try clear hk); (try clear hi); (try clear ho0); obtain ⟨Ao27, co27, eo27⟩ := Kd.R_slice HO117.out; subst eo27))
                have n0_ := zq3 (Kd.R_drew HO_9.out)
                have n1_ := zq3 (Kd.R_drew HO117.out)
                have n2_ := zq3 (zq2 BK101.out)
                have n3_ := zq3 (zq2 BK107.out)
                have n4_ := zq3 (zq8 HB.out)
                clear HO_9
                clear HO117
                clear BK101
                clear BK107
                clear HB
                have HO_9 := n0_
                have HO117 := n1_
                have BK101 := n2_
                have BK107 := n3_
                have HB := n4_
                clear n0_ n1_ n2_ n3_ n4_
                refine start_ (n := 6) (S := fun w' => w'.cell? ⟨gb107, 0, none⟩ = some (.int .u64 t102) ∧ w'.cell? ⟨gb107, 1, none⟩ = some (.int .u64 t103) ∧ w'.cell? ⟨gb107, 2, none⟩ = some (.int .u64 t104) ∧ w'.cell? ⟨gb107, 3, none⟩ = some (.bool t105)) (ds := []) #[false, false, false, false, false, false] (by kernel_rfl) rfl rfl ⟨(zq5 BK107.out 0).trans rfl, (zq5 BK107.out 1).trans rfl, (zq5 BK107.out 2).trans rfl, (zq5 BK107.out 3).trans rfl⟩ (fun hHeld => ?_)
                generalize w26.drew = w28 at HO_9 HO117 BK101 BK107 HB hHeld ⊢
                refine take_ (i := 0) (N := some 64) (v := ?_) (a' := ?_) #[true, false, false, false, false, false] rfl rfl (by kernel_rfl) (fun _ _ _ h => h) (Or.inl ⟨by rfl, ?_⟩) hHeld ?_ ?_
                rotate_left
                · rintro w' ⟨s0, s1, s2, s3⟩
                  go_simp
                  with_reducible rfl
                rotate_left
                · simp only [Act.put, List.setIfInBounds_toArray, List.set_cons_zero, List.set_cons_succ, i64_w, i32_w]
                  rfl
                refine take_ (i := 1) (N := some 65) (v := ?_) (a' := ?_) #[true, true, false, false, false, false] rfl rfl (by kernel_rfl) (fun _ _ _ h => h) (Or.inl ⟨by rfl, ?_⟩) hHeld ?_ ?_
                rotate_left
                · rintro w' ⟨s0, s1, s2, s3⟩
                  go_simp
                  with_reducible rfl
                rotate_left
                · simp only [Act.put, List.setIfInBounds_toArray, List.set_cons_zero, List.set_cons_succ, i64_w, i32_w]
                  rfl
                refine join_ (σ := Nat × Nat) 2 #[true, true, true, true, false, false] (fun s_ => [(12, .pointer (some ⟨s_.1, 0, none⟩)), (13, .pointer (some ⟨s_.2, 0, none⟩))]) (fun s_ w' => (w'.cell? ⟨gb107, 0, none⟩ = some (.int .u64 t102) ∧ w'.cell? ⟨gb107, 1, none⟩ = some (.int .u64 t103) ∧ w'.cell? ⟨gb107, 2, none⟩ = some (.int .u64 t104) ∧ w'.cell? ⟨gb107, 3, none⟩ = some (.bool t105)) ∧ (Kd.R (Kd.int .u64) 22 w' w.heap.size (fun k_ => some k_ ≠ (.slice Ao25 x9_2.length co25 : Value).ownBlock) (.slice Ao27 t115.length co27) t115) ∧ (Kd.R (Kd.int .u64) 22 w' w.heap.size (fun k_ => some k_ ≠ (.slice Ao27 t115.length co27 : Value).ownBlock) (.slice Ao25 x9_2.length co25) x9_2) ∧ (w'.heap[gb101]? = some (.cells #[.int .i64 a0_0, .bool a0_1, .int .u64 a0_2, .int .u64 a0_3, .int .u64 a0_4, .int .u64 a0_5] 24 (0, 0))) ∧ (w'.heap[gb107]? = some (.cells #[.int .u64 t102, .int .u64 t103, .int .u64 t104, .bool t105] 26 (0, 0))) ∧ (w'.heap[s_.1]? = some (.cells #[.int .u64 0, .int .u64 0, .int .u64 0, .bool false] 26 (0, 0))) ∧ (w'.heap[s_.2]? = some (.cells #[.int .u64 0, .int .u64 0, .int .u64 0, .bool false] 26 (0, 0))) ∧ (w.heap.size ≤ s_.1) ∧ (w.heap.size ≤ s_.1) ∧ (gb101 ≠ s_.1) ∧ (s_.1 ≠ gb101) ∧ (gb107 ≠ s_.1) ∧ (s_.1 ≠ gb107) ∧ (s_.2 ≠ s_.1) ∧ (s_.1 ≠ s_.2) ∧ (w.heap.size ≤ s_.2) ∧ (w.heap.size ≤ s_.2) ∧ (gb101 ≠ s_.2) ∧ (s_.2 ≠ gb101) ∧ (gb107 ≠ s_.2) ∧ (s_.2 ≠ gb107) ∧ (Below w.heap.size w w')) ?_ ?_
                rotate_left
                · intro hCont
                  refine two_ (i := 2) (j := 3) (Ni := some 12) (Nj := some 13) #[true, true, true, false, false, false] #[true, true, false, true, false, false] rfl rfl rfl rfl (by kernel_rfl) (by decide) (by decide) (fun K hK => ?_) (fun K hK => ?_)
                  · skip
                    refine box_step ?hg (N := 12) ?hd (cs := #[.int .u64 0, .int .u64 0, .int .u64 0, .bool false]) (t := 26) ?hr ?_; (case hd => rfl); (case hg => rfl); (case hr => first | (go_simp; done) | (go_simp; rfl))
                    intro gb118 hg w29 hbox hb
                    have n0_ := zq3 (Kd.R_below (by (with_reducible repeat (first | apply Kd.R_alloc | apply Kd.R_drewN | apply Kd.R_drew)); exact HO_9.out) hb)
                    have n1_ := zq3 (Kd.R_below (by (with_reducible repeat (first | apply Kd.R_alloc | apply Kd.R_drewN | apply Kd.R_drew)); exact HO117.out) hb)
                    have n2_ := zq3 (zq10 (g := gb101) (o := .cells #[.int .i64 a0_0, .bool a0_1, .int .u64 a0_2, .int .u64 a0_3, .int .u64 a0_4, .int .u64 a0_5] 24 (0, 0)) (by (with_reducible repeat (first | refine zq0 ?_ _ | refine zq2 ?_ | refine zq1 ?_ _)); exact BK101.out) hb)
                    have n3_ := zq3 (zq10 (g := gb107) (o := .cells #[.int .u64 t102, .int .u64 t103, .int .u64 t104, .bool t105] 26 (0, 0)) (by (with_reducible repeat (first | refine zq0 ?_ _ | refine zq2 ?_ | refine zq1 ?_ _)); exact BK107.out) hb)
                    have n4_ := zq3 (below_step (by repeat (first | (with_reducible first | exact HB.out | apply zq9 | apply zq7 | apply zq8 | refine zq6 ?_ GE101.out | refine zq6 ?_ GE107.out) | exact HB.out)) hb)
                    have n5_ := zq3 (hbox)
                    have n6_ := zq3 ((by rw [hg]; exact (below_size (by repeat (first | (with_reducible first | exact HB.out | apply zq9 | apply zq7 | apply zq8 | refine zq6 ?_ GE101.out | refine zq6 ?_ GE107.out) | exact HB.out))) : w.heap.size ≤ gb118))
                    have n7_ := zq3 ((by rw [hg]; exact (below_size (by repeat (first | (with_reducible first | exact HB.out | apply zq9 | apply zq7 | apply zq8 | refine zq6 ?_ GE101.out | refine zq6 ?_ GE107.out) | exact HB.out))) : w.heap.size ≤ gb118))
                    have n8_ := zq3 ((by rw [hg]; exact Nat.ne_of_lt (blk_lt (g := gb101) (o := .cells #[.int .i64 a0_0, .bool a0_1, .int .u64 a0_2, .int .u64 a0_3, .int .u64 a0_4, .int .u64 a0_5] 24 (0, 0)) (by (with_reducible repeat (first | refine zq0 ?_ _ | refine zq2 ?_ | refine zq1 ?_ _)); exact BK101.out)) : gb101 ≠ gb118))
                    have n9_ := zq3 ((by rw [hg]; exact Nat.ne_of_gt (blk_lt (g := gb101) (o := .cells #[.int .i64 a0_0, .bool a0_1, .int .u64 a0_2, .int .u64 a0_3, .int .u64 a0_4, .int .u64 a0_5] 24 (0, 0)) (by (with_reducible repeat (first | refine zq0 ?_ _ | refine zq2 ?_ | refine zq1 ?_ _)); exact BK101.out)) : gb118 ≠ gb101))
                    have n10_ := zq3 ((by rw [hg]; exact Nat.ne_of_lt (blk_lt (g := gb107) (o := .cells #[.int .u64 t102, .int .u64 t103, .int .u64 t104, .bool t105] 26 (0, 0)) (by (with_reducible repeat (first | refine zq0 ?_ _ | refine zq2 ?_ | refine zq1 ?_ _)); exact BK107.out)) : gb107 ≠ gb118))
                    have n11_ := zq3 ((by rw [hg]; exact Nat.ne_of_gt (blk_lt (g := gb107) (o := .cells #[.int .u64 t102, .int .u64 t103, .int .u64 t104, .bool t105] 26 (0, 0)) (by (with_reducible repeat (first | refine zq0 ?_ _ | refine zq2 ?_ | refine zq1 ?_ _)); exact BK107.out)) : gb118 ≠ gb107))
                    clear HO_9
                    clear HO117
                    clear BK101
                    clear BK107
                    clear HB
                    have HO_9 := n0_
                    have HO117 := n1_
                    have BK101 := n2_
                    have BK107 := n3_
                    have HB := n4_
                    have BK118 := n5_
                    have GW118 := n6_
                    have GE118 := n7_
                    have NB101_118 := n8_
                    have NB118_101 := n9_
                    have NB107_118 := n10_
                    have NB118_107 := n11_
                    clear n0_ n1_ n2_ n3_ n4_ n5_ n6_ n7_ n8_ n9_ n10_ n11_
                    clear hb hbox hg
                    refine hK.out _ _ ⟨(zq5 BK107.out 0).trans rfl, (zq5 BK107.out 1).trans rfl, (zq5 BK107.out 2).trans rfl, (zq5 BK107.out 3).trans rfl⟩ (fun hHeld => ?_)
                    clear hK K
                    refine norm_ (a' := ?_) ?_ ?_
                    rotate_left
                    · show Act.put _ (some 12) _ = _
                      simp only [Act.put, List.setIfInBounds_toArray, List.set_cons_zero, List.set_cons_succ, i64_w, i32_w]
                      rfl
                    refine one_ (i := 3) (N := some 13) #[true, true, true, true, false, false] rfl rfl (by kernel_rfl) (by decide) (fun K hK => ?_)
                    refine box_step ?hg (N := 13) ?hd (cs := #[.int .u64 0, .int .u64 0, .int .u64 0, .bool false]) (t := 26) ?hr ?_; (case hd => rfl); (case hg => rfl); (case hr => first | (go_simp; done) | (go_simp; rfl))
                    intro gb119 hg w30 hbox hb
                    have n0_ := zq3 (Kd.R_below (by (with_reducible repeat (first | apply Kd.R_alloc | apply Kd.R_drewN | apply Kd.R_drew)); exact HO_9.out) hb)
                    have n1_ := zq3 (Kd.R_below (by (with_reducible repeat (first | apply Kd.R_alloc | apply Kd.R_drewN | apply Kd.R_drew)); exact HO117.out) hb)
                    have n2_ := zq3 (zq10 (g := gb101) (o := .cells #[.int .i64 a0_0, .bool a0_1, .int .u64 a0_2, .int .u64 a0_3, .int .u64 a0_4, .int .u64 a0_5] 24 (0, 0)) (by (with_reducible repeat (first | refine zq0 ?_ _ | refine zq2 ?_ | refine zq1 ?_ _)); exact BK101.out) hb)
                    have n3_ := zq3 (zq10 (g := gb107) (o := .cells #[.int .u64 t102, .int .u64 t103, .int .u64 t104, .bool t105] 26 (0, 0)) (by (with_reducible repeat (first | refine zq0 ?_ _ | refine zq2 ?_ | refine zq1 ?_ _)); exact BK107.out) hb)
                    have n4_ := zq3 (zq10 (g := gb118) (o := .cells #[.int .u64 0, .int .u64 0, .int .u64 0, .bool false] 26 (0, 0)) (by (with_reducible repeat (first | refine zq0 ?_ _ | refine zq2 ?_ | refine zq1 ?_ _)); exact BK118.out) hb)
                    have n5_ := zq3 (below_step (by repeat (first | (with_reducible first | exact HB.out | apply zq9 | apply zq7 | apply zq8 | refine zq6 ?_ GE101.out | refine zq6 ?_ GE107.out | refine zq6 ?_ GE118.out) | exact HB.out)) hb)
                    have n6_ := zq3 (hbox)
                    have n7_ := zq3 ((by rw [hg]; exact (below_size (by repeat (first | (with_reducible first | exact HB.out | apply zq9 | apply zq7 | apply zq8 | refine zq6 ?_ GE101.out | refine zq6 ?_ GE107.out | refine zq6 ?_ GE118.out) | exact HB.out))) : w.heap.size ≤ gb119))
                    have n8_ := zq3 ((by rw [hg]; exact (below_size (by repeat (first | (with_reducible first | exact HB.out | apply zq9 | apply zq7 | apply zq8 | refine zq6 ?_ GE101.out | refine zq6 ?_ GE107.out | refine zq6 ?_ GE118.out) | exact HB.out))) : w.heap.size ≤ gb119))
                    have n9_ := zq3 ((by rw [hg]; exact Nat.ne_of_lt (blk_lt (g := gb101) (o := .cells #[.int .i64 a0_0, .bool a0_1, .int .u64 a0_2, .int .u64 a0_3, .int .u64 a0_4, .int .u64 a0_5] 24 (0, 0)) (by (with_reducible repeat (first | refine zq0 ?_ _ | refine zq2 ?_ | refine zq1 ?_ _)); exact BK101.out)) : gb101 ≠ gb119))
                    have n10_ := zq3 ((by rw [hg]; exact Nat.ne_of_gt (blk_lt (g := gb101) (o := .cells #[.int .i64 a0_0, .bool a0_1, .int .u64 a0_2, .int .u64 a0_3, .int .u64 a0_4, .int .u64 a0_5] 24 (0, 0)) (by (with_reducible repeat (first | refine zq0 ?_ _ | refine zq2 ?_ | refine zq1 ?_ _)); exact BK101.out)) : gb119 ≠ gb101))
                    have n11_ := zq3 ((by rw [hg]; exact Nat.ne_of_lt (blk_lt (g := gb107) (o := .cells #[.int .u64 t102, .int .u64 t103, .int .u64 t104, .bool t105] 26 (0, 0)) (by (with_reducible repeat (first | refine zq0 ?_ _ | refine zq2 ?_ | refine zq1 ?_ _)); exact BK107.out)) : gb107 ≠ gb119))
                    have n12_ := zq3 ((by rw [hg]; exact Nat.ne_of_gt (blk_lt (g := gb107) (o := .cells #[.int .u64 t102, .int .u64 t103, .int .u64 t104, .bool t105] 26 (0, 0)) (by (with_reducible repeat (first | refine zq0 ?_ _ | refine zq2 ?_ | refine zq1 ?_ _)); exact BK107.out)) : gb119 ≠ gb107))
                    have n13_ := zq3 ((by rw [hg]; exact Nat.ne_of_lt (blk_lt (g := gb118) (o := .cells #[.int .u64 0, .int .u64 0, .int .u64 0, .bool false] 26 (0, 0)) (by (with_reducible repeat (first | refine zq0 ?_ _ | refine zq2 ?_ | refine zq1 ?_ _)); exact BK118.out)) : gb118 ≠ gb119))
                    have n14_ := zq3 ((by rw [hg]; exact Nat.ne_of_gt (blk_lt (g := gb118) (o := .cells #[.int .u64 0, .int .u64 0, .int .u64 0, .bool false] 26 (0, 0)) (by (with_reducible repeat (first | refine zq0 ?_ _ | refine zq2 ?_ | refine zq1 ?_ _)); exact BK118.out)) : gb119 ≠ gb118))
                    clear HO_9
                    clear HO117
                    clear BK101
                    clear BK107
                    clear BK118
                    clear HB
                    have HO_9 := n0_
                    have HO117 := n1_
                    have BK101 := n2_
                    have BK107 := n3_
                    have BK118 := n4_
                    have HB := n5_
                    have BK119 := n6_
                    have GW119 := n7_
                    have GE119 := n8_
                    have NB101_119 := n9_
                    have NB119_101 := n10_
                    have NB107_119 := n11_
                    have NB119_107 := n12_
                    have NB118_119 := n13_
                    have NB119_118 := n14_
                    clear n0_ n1_ n2_ n3_ n4_ n5_ n6_ n7_ n8_ n9_ n10_ n11_ n12_ n13_ n14_
                    clear hb hbox hg
                    refine hK.out _ _ ⟨(zq5 BK107.out 0).trans rfl, (zq5 BK107.out 1).trans rfl, (zq5 BK107.out 2).trans rfl, (zq5 BK107.out 3).trans rfl⟩ (fun hHeld => ?_)
                    clear hK K
                    refine norm_ (a' := ?_) ?_ ?_
                    rotate_left
                    · show Act.put _ (some 13) _ = _
                      simp only [Act.put, List.setIfInBounds_toArray, List.set_cons_zero, List.set_cons_succ, i64_w, i32_w]
                      rfl
                    exact norm_ (by simp only [putAll, Act.put, List.setIfInBounds_toArray, List.set_cons_zero, List.set_cons_succ]) (hCont (gb118, gb119) _ ⟨hHeld, (by (with_reducible repeat (first | apply Kd.R_alloc | apply Kd.R_drewN | apply Kd.R_drew)); exact Kd.R_mono HO117.out (fun _ hk => hk.2)), (by (with_reducible repeat (first | apply Kd.R_alloc | apply Kd.R_drewN | apply Kd.R_drew)); exact Kd.R_mono HO_9.out (fun _ hk => hk.2)), (by (with_reducible repeat (first | refine zq0 ?_ _ | refine zq2 ?_ | refine zq1 ?_ _)); exact BK101.out), (by (with_reducible repeat (first | refine zq0 ?_ _ | refine zq2 ?_ | refine zq1 ?_ _)); exact BK107.out), (by (with_reducible repeat (first | refine zq0 ?_ _ | refine zq2 ?_ | refine zq1 ?_ _)); exact BK118.out), (by (with_reducible repeat (first | refine zq0 ?_ _ | refine zq2 ?_ | refine zq1 ?_ _)); exact BK119.out), GW118.out, GE118.out, NB101_118.out, NB118_101.out, NB107_118.out, NB118_107.out, NB119_118.out, NB118_119.out, GW119.out, GE119.out, NB101_119.out, NB119_101.out, NB107_119.out, NB119_107.out, (by repeat (first | (with_reducible first | exact HB.out | apply zq9 | apply zq7 | apply zq8 | refine zq6 ?_ GE101.out | refine zq6 ?_ GE107.out | refine zq6 ?_ GE118.out | refine zq6 ?_ GE119.out) | exact HB.out))⟩)
                  · skip
                    refine box_step ?hg (N := 13) ?hd (cs := #[.int .u64 0, .int .u64 0, .int .u64 0, .bool false]) (t := 26) ?hr ?_; (case hd => rfl); (case hg => rfl); (case hr => first | (go_simp; done) | (go_simp; rfl))
                    intro gb119 hg w29 hbox hb
                    have n0_ := zq3 (Kd.R_below (by (with_reducible repeat (first | apply Kd.R_alloc | apply Kd.R_drewN | apply Kd.R_drew)); exact HO_9.out) hb)
                    have n1_ := zq3 (Kd.R_below (by (with_reducible repeat (first | apply Kd.R_alloc | apply Kd.R_drewN | apply Kd.R_drew)); exact HO117.out) hb)
                    have n2_ := zq3 (zq10 (g := gb101) (o := .cells #[.int .i64 a0_0, .bool a0_1, .int .u64 a0_2, .int .u64 a0_3, .int .u64 a0_4, .int .u64 a0_5] 24 (0, 0)) (by (with_reducible repeat (first | refine zq0 ?_ _ | refine zq2 ?_ | refine zq1 ?_ _)); exact BK101.out) hb)
                    have n3_ := zq3 (zq10 (g := gb107) (o := .cells #[.int .u64 t102, .int .u64 t103, .int .u64 t104, .bool t105] 26 (0, 0)) (by (with_reducible repeat (first | refine zq0 ?_ _ | refine zq2 ?_ | refine zq1 ?_ _)); exact BK107.out) hb)
                    have n4_ := zq3 (below_step (by repeat (first | (with_reducible first | exact HB.out | apply zq9 | apply zq7 | apply zq8 | refine zq6 ?_ GE101.out | refine zq6 ?_ GE107.out) | exact HB.out)) hb)
                    have n5_ := zq3 (hbox)
                    have n6_ := zq3 ((by rw [hg]; exact (below_size (by repeat (first | (with_reducible first | exact HB.out | apply zq9 | apply zq7 | apply zq8 | refine zq6 ?_ GE101.out | refine zq6 ?_ GE107.out) | exact HB.out))) : w.heap.size ≤ gb119))
                    have n7_ := zq3 ((by rw [hg]; exact (below_size (by repeat (first | (with_reducible first | exact HB.out | apply zq9 | apply zq7 | apply zq8 | refine zq6 ?_ GE101.out | refine zq6 ?_ GE107.out) | exact HB.out))) : w.heap.size ≤ gb119))
                    have n8_ := zq3 ((by rw [hg]; exact Nat.ne_of_lt (blk_lt (g := gb101) (o := .cells #[.int .i64 a0_0, .bool a0_1, .int .u64 a0_2, .int .u64 a0_3, .int .u64 a0_4, .int .u64 a0_5] 24 (0, 0)) (by (with_reducible repeat (first | refine zq0 ?_ _ | refine zq2 ?_ | refine zq1 ?_ _)); exact BK101.out)) : gb101 ≠ gb119))
                    have n9_ := zq3 ((by rw [hg]; exact Nat.ne_of_gt (blk_lt (g := gb101) (o := .cells #[.int .i64 a0_0, .bool a0_1, .int .u64 a0_2, .int .u64 a0_3, .int .u64 a0_4, .int .u64 a0_5] 24 (0, 0)) (by (with_reducible repeat (first | refine zq0 ?_ _ | refine zq2 ?_ | refine zq1 ?_ _)); exact BK101.out)) : gb119 ≠ gb101))
                    have n10_ := zq3 ((by rw [hg]; exact Nat.ne_of_lt (blk_lt (g := gb107) (o := .cells #[.int .u64 t102, .int .u64 t103, .int .u64 t104, .bool t105] 26 (0, 0)) (by (with_reducible repeat (first | refine zq0 ?_ _ | refine zq2 ?_ | refine zq1 ?_ _)); exact BK107.out)) : gb107 ≠ gb119))
                    have n11_ := zq3 ((by rw [hg]; exact Nat.ne_of_gt (blk_lt (g := gb107) (o := .cells #[.int .u64 t102, .int .u64 t103, .int .u64 t104, .bool t105] 26 (0, 0)) (by (with_reducible repeat (first | refine zq0 ?_ _ | refine zq2 ?_ | refine zq1 ?_ _)); exact BK107.out)) : gb119 ≠ gb107))
                    clear HO_9
                    clear HO117
                    clear BK101
                    clear BK107
                    clear HB
                    have HO_9 := n0_
                    have HO117 := n1_
                    have BK101 := n2_
                    have BK107 := n3_
                    have HB := n4_
                    have BK119 := n5_
                    have GW119 := n6_
                    have GE119 := n7_
                    have NB101_119 := n8_
                    have NB119_101 := n9_
                    have NB107_119 := n10_
                    have NB119_107 := n11_
                    clear n0_ n1_ n2_ n3_ n4_ n5_ n6_ n7_ n8_ n9_ n10_ n11_
                    clear hb hbox hg
                    refine hK.out _ _ ⟨(zq5 BK107.out 0).trans rfl, (zq5 BK107.out 1).trans rfl, (zq5 BK107.out 2).trans rfl, (zq5 BK107.out 3).trans rfl⟩ (fun hHeld => ?_)
                    clear hK K
                    refine norm_ (a' := ?_) ?_ ?_
                    rotate_left
                    · show Act.put _ (some 13) _ = _
                      simp only [Act.put, List.setIfInBounds_toArray, List.set_cons_zero, List.set_cons_succ, i64_w, i32_w]
                      rfl
                    refine one_ (i := 2) (N := some 12) #[true, true, true, true, false, false] rfl rfl (by kernel_rfl) (by decide) (fun K hK => ?_)
                    refine box_step ?hg (N := 12) ?hd (cs := #[.int .u64 0, .int .u64 0, .int .u64 0, .bool false]) (t := 26) ?hr ?_; (case hd => rfl); (case hg => rfl); (case hr => first | (go_simp; done) | (go_simp; rfl))
                    intro gb118 hg w30 hbox hb
                    have n0_ := zq3 (Kd.R_below (by (with_reducible repeat (first | apply Kd.R_alloc | apply Kd.R_drewN | apply Kd.R_drew)); exact HO_9.out) hb)
                    have n1_ := zq3 (Kd.R_below (by (with_reducible repeat (first | apply Kd.R_alloc | apply Kd.R_drewN | apply Kd.R_drew)); exact HO117.out) hb)
                    have n2_ := zq3 (zq10 (g := gb101) (o := .cells #[.int .i64 a0_0, .bool a0_1, .int .u64 a0_2, .int .u64 a0_3, .int .u64 a0_4, .int .u64 a0_5] 24 (0, 0)) (by (with_reducible repeat (first | refine zq0 ?_ _ | refine zq2 ?_ | refine zq1 ?_ _)); exact BK101.out) hb)
                    have n3_ := zq3 (zq10 (g := gb107) (o := .cells #[.int .u64 t102, .int .u64 t103, .int .u64 t104, .bool t105] 26 (0, 0)) (by (with_reducible repeat (first | refine zq0 ?_ _ | refine zq2 ?_ | refine zq1 ?_ _)); exact BK107.out) hb)
                    have n4_ := zq3 (zq10 (g := gb119) (o := .cells #[.int .u64 0, .int .u64 0, .int .u64 0, .bool false] 26 (0, 0)) (by (with_reducible repeat (first | refine zq0 ?_ _ | refine zq2 ?_ | refine zq1 ?_ _)); exact BK119.out) hb)
                    have n5_ := zq3 (below_step (by repeat (first | (with_reducible first | exact HB.out | apply zq9 | apply zq7 | apply zq8 | refine zq6 ?_ GE101.out | refine zq6 ?_ GE107.out | refine zq6 ?_ GE119.out) | exact HB.out)) hb)
                    have n6_ := zq3 (hbox)
                    have n7_ := zq3 ((by rw [hg]; exact (below_size (by repeat (first | (with_reducible first | exact HB.out | apply zq9 | apply zq7 | apply zq8 | refine zq6 ?_ GE101.out | refine zq6 ?_ GE107.out | refine zq6 ?_ GE119.out) | exact HB.out))) : w.heap.size ≤ gb118))
                    have n8_ := zq3 ((by rw [hg]; exact (below_size (by repeat (first | (with_reducible first | exact HB.out | apply zq9 | apply zq7 | apply zq8 | refine zq6 ?_ GE101.out | refine zq6 ?_ GE107.out | refine zq6 ?_ GE119.out) | exact HB.out))) : w.heap.size ≤ gb118))
                    have n9_ := zq3 ((by rw [hg]; exact Nat.ne_of_lt (blk_lt (g := gb101) (o := .cells #[.int .i64 a0_0, .bool a0_1, .int .u64 a0_2, .int .u64 a0_3, .int .u64 a0_4, .int .u64 a0_5] 24 (0, 0)) (by (with_reducible repeat (first | refine zq0 ?_ _ | refine zq2 ?_ | refine zq1 ?_ _)); exact BK101.out)) : gb101 ≠ gb118))
                    have n10_ := zq3 ((by rw [hg]; exact Nat.ne_of_gt (blk_lt (g := gb101) (o := .cells #[.int .i64 a0_0, .bool a0_1, .int .u64 a0_2, .int .u64 a0_3, .int .u64 a0_4, .int .u64 a0_5] 24 (0, 0)) (by (with_reducible repeat (first | refine zq0 ?_ _ | refine zq2 ?_ | refine zq1 ?_ _)); exact BK101.out)) : gb118 ≠ gb101))
                    have n11_ := zq3 ((by rw [hg]; exact Nat.ne_of_lt (blk_lt (g := gb107) (o := .cells #[.int .u64 t102, .int .u64 t103, .int .u64 t104, .bool t105] 26 (0, 0)) (by (with_reducible repeat (first | refine zq0 ?_ _ | refine zq2 ?_ | refine zq1 ?_ _)); exact BK107.out)) : gb107 ≠ gb118))
                    have n12_ := zq3 ((by rw [hg]; exact Nat.ne_of_gt (blk_lt (g := gb107) (o := .cells #[.int .u64 t102, .int .u64 t103, .int .u64 t104, .bool t105] 26 (0, 0)) (by (with_reducible repeat (first | refine zq0 ?_ _ | refine zq2 ?_ | refine zq1 ?_ _)); exact BK107.out)) : gb118 ≠ gb107))
                    have n13_ := zq3 ((by rw [hg]; exact Nat.ne_of_lt (blk_lt (g := gb119) (o := .cells #[.int .u64 0, .int .u64 0, .int .u64 0, .bool false] 26 (0, 0)) (by (with_reducible repeat (first | refine zq0 ?_ _ | refine zq2 ?_ | refine zq1 ?_ _)); exact BK119.out)) : gb119 ≠ gb118))
                    have n14_ := zq3 ((by rw [hg]; exact Nat.ne_of_gt (blk_lt (g := gb119) (o := .cells #[.int .u64 0, .int .u64 0, .int .u64 0, .bool false] 26 (0, 0)) (by (with_reducible repeat (first | refine zq0 ?_ _ | refine zq2 ?_ | refine zq1 ?_ _)); exact BK119.out)) : gb118 ≠ gb119))
                    clear HO_9
                    clear HO117
                    clear BK101
                    clear BK107
                    clear BK119
                    clear HB
                    have HO_9 := n0_
                    have HO117 := n1_
                    have BK101 := n2_
                    have BK107 := n3_
                    have BK119 := n4_
                    have HB := n5_
                    have BK118 := n6_
                    have GW118 := n7_
                    have GE118 := n8_
                    have NB101_118 := n9_
                    have NB118_101 := n10_
                    have NB107_118 := n11_
                    have NB118_107 := n12_
                    have NB119_118 := n13_
                    have NB118_119 := n14_
                    clear n0_ n1_ n2_ n3_ n4_ n5_ n6_ n7_ n8_ n9_ n10_ n11_ n12_ n13_ n14_
                    clear hb hbox hg
                    refine hK.out _ _ ⟨(zq5 BK107.out 0).trans rfl, (zq5 BK107.out 1).trans rfl, (zq5 BK107.out 2).trans rfl, (zq5 BK107.out 3).trans rfl⟩ (fun hHeld => ?_)
                    clear hK K
                    refine norm_ (a' := ?_) ?_ ?_
                    rotate_left
                    · show Act.put _ (some 12) _ = _
                      simp only [Act.put, List.setIfInBounds_toArray, List.set_cons_zero, List.set_cons_succ, i64_w, i32_w]
                      rfl
                    exact norm_ (by simp only [putAll, Act.put, List.setIfInBounds_toArray, List.set_cons_zero, List.set_cons_succ]) (hCont (gb118, gb119) _ ⟨hHeld, (by (with_reducible repeat (first | apply Kd.R_alloc | apply Kd.R_drewN | apply Kd.R_drew)); exact Kd.R_mono HO117.out (fun _ hk => hk.2)), (by (with_reducible repeat (first | apply Kd.R_alloc | apply Kd.R_drewN | apply Kd.R_drew)); exact Kd.R_mono HO_9.out (fun _ hk => hk.2)), (by (with_reducible repeat (first | refine zq0 ?_ _ | refine zq2 ?_ | refine zq1 ?_ _)); exact BK101.out), (by (with_reducible repeat (first | refine zq0 ?_ _ | refine zq2 ?_ | refine zq1 ?_ _)); exact BK107.out), (by (with_reducible repeat (first | refine zq0 ?_ _ | refine zq2 ?_ | refine zq1 ?_ _)); exact BK118.out), (by (with_reducible repeat (first | refine zq0 ?_ _ | refine zq2 ?_ | refine zq1 ?_ _)); exact BK119.out), GW118.out, GE118.out, NB101_118.out, NB118_101.out, NB107_118.out, NB118_107.out, NB119_118.out, NB118_119.out, GW119.out, GE119.out, NB101_119.out, NB119_101.out, NB107_119.out, NB119_107.out, (by repeat (first | (with_reducible first | exact HB.out | apply zq9 | apply zq7 | apply zq8 | refine zq6 ?_ GE101.out | refine zq6 ?_ GE107.out | refine zq6 ?_ GE119.out | refine zq6 ?_ GE118.out) | exact HB.out))⟩)
                rintro ⟨gb118, gb119⟩ w31 ⟨hS_, h0_, h1_, h2_, h3_, h4_, h5_, h6_, h7_, h8_, h9_, h10_, h11_, h12_, h13_, h14_, h15_, h16_, h17_, h18_, h19_, h20_⟩
                have n0_ : Aside0 (Kd.R (Kd.int .u64) 22 w31 w.heap.size (fun k_ => some k_ ≠ (.slice Ao25 x9_2.length co25 : Value).ownBlock) (.slice Ao27 t115.length co27) t115) := ⟨h0_⟩
                have n1_ : Aside0 (Kd.R (Kd.int .u64) 22 w31 w.heap.size (fun k_ => some k_ ≠ (.slice Ao27 t115.length co27 : Value).ownBlock) (.slice Ao25 x9_2.length co25) x9_2) := ⟨h1_⟩
                have n2_ : Aside0 (w31.heap[gb101]? = some (.cells #[.int .i64 a0_0, .bool a0_1, .int .u64 a0_2, .int .u64 a0_3, .int .u64 a0_4, .int .u64 a0_5] 24 (0, 0))) := ⟨h2_⟩
                have n3_ : Aside0 (w31.heap[gb107]? = some (.cells #[.int .u64 t102, .int .u64 t103, .int .u64 t104, .bool t105] 26 (0, 0))) := ⟨h3_⟩
                have n4_ : Aside0 (w31.heap[gb118]? = some (.cells #[.int .u64 0, .int .u64 0, .int .u64 0, .bool false] 26 (0, 0))) := ⟨h4_⟩
                have n5_ : Aside0 (w31.heap[gb119]? = some (.cells #[.int .u64 0, .int .u64 0, .int .u64 0, .bool false] 26 (0, 0))) := ⟨h5_⟩
                have n6_ : Aside0 (w.heap.size ≤ gb118) := ⟨h6_⟩
                have n7_ : Aside0 (w.heap.size ≤ gb118) := ⟨h7_⟩
                have n8_ : Aside0 (gb101 ≠ gb118) := ⟨h8_⟩
                have n9_ : Aside0 (gb118 ≠ gb101) := ⟨h9_⟩
                have n10_ : Aside0 (gb107 ≠ gb118) := ⟨h10_⟩
                have n11_ : Aside0 (gb118 ≠ gb107) := ⟨h11_⟩
                have n12_ : Aside0 (gb119 ≠ gb118) := ⟨h12_⟩
                have n13_ : Aside0 (gb118 ≠ gb119) := ⟨h13_⟩
                have n14_ : Aside0 (w.heap.size ≤ gb119) := ⟨h14_⟩
                have n15_ : Aside0 (w.heap.size ≤ gb119) := ⟨h15_⟩
                have n16_ : Aside0 (gb101 ≠ gb119) := ⟨h16_⟩
                have n17_ : Aside0 (gb119 ≠ gb101) := ⟨h17_⟩
                have n18_ : Aside0 (gb107 ≠ gb119) := ⟨h18_⟩
                have n19_ : Aside0 (gb119 ≠ gb107) := ⟨h19_⟩
                have n20_ : Aside0 (Below w.heap.size w w31) := ⟨h20_⟩
                clear HO_9
                clear HO117
                clear BK101
                clear BK107
                clear HB
                clear h0_ h1_ h2_ h3_ h4_ h5_ h6_ h7_ h8_ h9_ h10_ h11_ h12_ h13_ h14_ h15_ h16_ h17_ h18_ h19_ h20_
                have HO117 := n0_
                have HO_9 := n1_
                have BK101 := n2_
                have BK107 := n3_
                have BK118 := n4_
                have BK119 := n5_
                have GW118 := n6_
                have GE118 := n7_
                have NB101_118 := n8_
                have NB118_101 := n9_
                have NB107_118 := n10_
                have NB118_107 := n11_
                have NB119_118 := n12_
                have NB118_119 := n13_
                have GW119 := n14_
                have GE119 := n15_
                have NB101_119 := n16_
                have NB119_101 := n17_
                have NB107_119 := n18_
                have NB119_107 := n19_
                have HB := n20_
                clear n0_ n1_ n2_ n3_ n4_ n5_ n6_ n7_ n8_ n9_ n10_ n11_ n12_ n13_ n14_ n15_ n16_ n17_ n18_ n19_ n20_
                have hHeld : w31.cell? ⟨gb107, 0, none⟩ = some (.int .u64 t102) ∧ w31.cell? ⟨gb107, 1, none⟩ = some (.int .u64 t103) ∧ w31.cell? ⟨gb107, 2, none⟩ = some (.int .u64 t104) ∧ w31.cell? ⟨gb107, 3, none⟩ = some (.bool t105) := hS_
                refine norm_ (a' := ?_) ?_ ?_
                rotate_left
                · simp only [putAll, Act.put, List.setIfInBounds_toArray, List.set_cons_zero, List.set_cons_succ]
                  rfl
                refine one_ (i := 4) (N := none) #[true, true, true, true, true, false] rfl rfl (by kernel_rfl) (by decide) (fun K hK => ?_)
                have hs32 : w31.cell? ⟨gb118, 0, none⟩ = some (.int .u64 0) := (zq5 BK118.out 0).trans rfl
                have hfs32 := zq4 BK118.out 0
                have hns32_0 := NB101_118.out
                have hns32_1 := NB107_118.out
                have hns32_3 := NB119_118.out
                have hms32_0 := NB118_101.out
                have hms32_1 := NB118_107.out
                have hms32_3 := NB118_119.out
                have hs33 : w31.cell? ⟨gb118, 1, none⟩ = some (.int .u64 0) := (zq5 BK118.out 1).trans rfl
                have hfs33 := zq4 BK118.out 1
                have hns33_0 := NB101_118.out
                have hns33_1 := NB107_118.out
                have hns33_3 := NB119_118.out
                have hms33_0 := NB118_101.out
                have hms33_1 := NB118_107.out
                have hms33_3 := NB118_119.out
                have hs34 : w31.cell? ⟨gb118, 2, none⟩ = some (.int .u64 0) := (zq5 BK118.out 2).trans rfl
                have hfs34 := zq4 BK118.out 2
                have hns34_0 := NB101_118.out
                have hns34_1 := NB107_118.out
                have hns34_3 := NB119_118.out
                have hms34_0 := NB118_101.out
                have hms34_1 := NB118_107.out
                have hms34_3 := NB118_119.out
                have hs35 : w31.cell? ⟨gb118, 3, none⟩ = some (.bool false) := (zq5 BK118.out 3).trans rfl
                have hfs35 := zq4 BK118.out 3
                have hns35_0 := NB101_118.out
                have hns35_1 := NB107_118.out
                have hns35_3 := NB119_118.out
                have hms35_0 := NB118_101.out
                have hms35_1 := NB118_107.out
                have hms35_3 := NB118_119.out
                refine skip_ (w1 := ?_) (by rfl) rfl ?_ ?_
                rotate_left
                · go_simp
                  rfl
                refine hK.out _ _ ⟨((cell_far (p := ⟨gb118, _, none⟩) NB107_118.out _).trans (((cell_far (p := ⟨gb118, _, none⟩) NB107_118.out _).trans (((cell_far (p := ⟨gb118, _, none⟩) NB107_118.out _).trans (((cell_far (p := ⟨gb118, _, none⟩) NB107_118.out _).trans (hHeld.1)))))))), ((cell_far (p := ⟨gb118, _, none⟩) NB107_118.out _).trans (((cell_far (p := ⟨gb118, _, none⟩) NB107_118.out _).trans (((cell_far (p := ⟨gb118, _, none⟩) NB107_118.out _).trans (((cell_far (p := ⟨gb118, _, none⟩) NB107_118.out _).trans (hHeld.2.1)))))))), ((cell_far (p := ⟨gb118, _, none⟩) NB107_118.out _).trans (((cell_far (p := ⟨gb118, _, none⟩) NB107_118.out _).trans (((cell_far (p := ⟨gb118, _, none⟩) NB107_118.out _).trans (((cell_far (p := ⟨gb118, _, none⟩) NB107_118.out _).trans (hHeld.2.2.1)))))))), ((cell_far (p := ⟨gb118, _, none⟩) NB107_118.out _).trans (((cell_far (p := ⟨gb118, _, none⟩) NB107_118.out _).trans (((cell_far (p := ⟨gb118, _, none⟩) NB107_118.out _).trans (((cell_far (p := ⟨gb118, _, none⟩) NB107_118.out _).trans (hHeld.2.2.2))))))))⟩ (fun hHeld => ?_)
                clear hK K
                refine one_ (i := 5) (N := none) #[true, true, true, true, true, true] rfl rfl (by kernel_rfl) (by decide) (fun K hK => ?_)
                have hs36 : w31.cell? ⟨gb119, 0, none⟩ = some (.int .u64 0) := (zq5 BK119.out 0).trans rfl
                have hfs36 := zq4 BK119.out 0
                have hns36_0 := NB101_119.out
                have hns36_1 := NB107_119.out
                have hns36_2 := NB118_119.out
                have hms36_0 := NB119_101.out
                have hms36_1 := NB119_107.out
                have hms36_2 := NB119_118.out
                have hs37 : w31.cell? ⟨gb119, 1, none⟩ = some (.int .u64 0) := (zq5 BK119.out 1).trans rfl
                have hfs37 := zq4 BK119.out 1
                have hns37_0 := NB101_119.out
                have hns37_1 := NB107_119.out
                have hns37_2 := NB118_119.out
                have hms37_0 := NB119_101.out
                have hms37_1 := NB119_107.out
                have hms37_2 := NB119_118.out
                have hs38 : w31.cell? ⟨gb119, 2, none⟩ = some (.int .u64 0) := (zq5 BK119.out 2).trans rfl
                have hfs38 := zq4 BK119.out 2
                have hns38_0 := NB101_119.out
                have hns38_1 := NB107_119.out
                have hns38_2 := NB118_119.out
                have hms38_0 := NB119_101.out
                have hms38_1 := NB119_107.out
                have hms38_2 := NB119_118.out
                have hs39 : w31.cell? ⟨gb119, 3, none⟩ = some (.bool false) := (zq5 BK119.out 3).trans rfl
                have hfs39 := zq4 BK119.out 3
                have hns39_0 := NB101_119.out
                have hns39_1 := NB107_119.out
                have hns39_2 := NB118_119.out
                have hms39_0 := NB119_101.out
                have hms39_1 := NB119_107.out
                have hms39_2 := NB119_118.out
                refine skip_ (w1 := ?_) (by rfl) rfl ?_ ?_
                rotate_left
                · go_simp
                  rfl
                refine hK.out _ _ ⟨((cell_far (p := ⟨gb119, _, none⟩) NB107_119.out _).trans (((cell_far (p := ⟨gb119, _, none⟩) NB107_119.out _).trans (((cell_far (p := ⟨gb119, _, none⟩) NB107_119.out _).trans (((cell_far (p := ⟨gb119, _, none⟩) NB107_119.out _).trans (hHeld.1)))))))), ((cell_far (p := ⟨gb119, _, none⟩) NB107_119.out _).trans (((cell_far (p := ⟨gb119, _, none⟩) NB107_119.out _).trans (((cell_far (p := ⟨gb119, _, none⟩) NB107_119.out _).trans (((cell_far (p := ⟨gb119, _, none⟩) NB107_119.out _).trans (hHeld.2.1)))))))), ((cell_far (p := ⟨gb119, _, none⟩) NB107_119.out _).trans (((cell_far (p := ⟨gb119, _, none⟩) NB107_119.out _).trans (((cell_far (p := ⟨gb119, _, none⟩) NB107_119.out _).trans (((cell_far (p := ⟨gb119, _, none⟩) NB107_119.out _).trans (hHeld.2.2.1)))))))), ((cell_far (p := ⟨gb119, _, none⟩) NB107_119.out _).trans (((cell_far (p := ⟨gb119, _, none⟩) NB107_119.out _).trans (((cell_far (p := ⟨gb119, _, none⟩) NB107_119.out _).trans (((cell_far (p := ⟨gb119, _, none⟩) NB107_119.out _).trans (hHeld.2.2.2))))))))⟩ (fun hHeld => ?_)
                clear hK K
                refine done_ (by kernel_rfl) ?_
                try go_wp2
                go_loopg [14, 15] k2 (fun kq v14 v15 w' => ∃ (x14_3 : Bool) (x15_3 : Int) (x108000_3 : Int) (x108001_3 : Int) (x108002_3 : Int) (x108003_3 : Bool) (x119000_3 : Int) (x119001_3 : Int) (x119002_3 : Int) (x119003_3 : Bool) (x120000_3 : Int) (x120001_3 : Int) (x120002_3 : Int) (x120003_3 : Bool), v14 = .bool x14_3 ∧ v15 = .int .i64 x15_3 ∧ Aside0 (weighbridgetop_WholeClock.l1 kq l1 a2 t115 x14_3 x15_3 a0_0 a0_1 a0_2 a0_3 a0_4 a0_5 x108000_3 x108001_3 x108002_3 x108003_3 x119000_3 x119001_3 x119002_3 x119003_3 x120000_3 x120001_3 x120002_3 x120003_3 = some r) ∧ Aside0 (kq ≤ k2) ∧ Aside0 (Kd.R (Kd.int .u64) 22 w' w.heap.size (fun _ => True) (.slice Ao27 t115.length co27) t115) ∧ Aside0 (w'.heap[gb101]? = some (.cells #[.int .i64 a0_0, .bool a0_1, .int .u64 a0_2, .int .u64 a0_3, .int .u64 a0_4, .int .u64 a0_5] 24 (0, 0))) ∧ Aside0 (w'.heap[gb107]? = some (.cells #[.int .u64 x108000_3, .int .u64 x108001_3, .int .u64 x108002_3, .bool x108003_3] 26 (0, 0))) ∧ Aside0 (w'.heap[gb118]? = some (.cells #[.int .u64 x119000_3, .int .u64 x119001_3, .int .u64 x119002_3, .bool x119003_3] 26 (0, 0))) ∧ Aside0 (w'.heap[gb119]? = some (.cells #[.int .u64 x120000_3, .int .u64 x120001_3, .int .u64 x120002_3, .bool x120003_3] 26 (0, 0))) ∧ Aside0 (Below w.heap.size w w'))
                case atStart => exact ⟨(true), (0), (t102), (t103), (t104), (t105), (t102), (t103), (t104), (t105), (t102), (t103), (t104), (t105), (by first | rfl | (simp; done) | (simp [*]; done)), (by first | rfl | (simp; done) | (simp [*]; done)), H', ⟨Nat.le_refl _⟩, ⟨by (with_reducible repeat (first | apply Kd.R_alloc | apply Kd.R_drewN | apply Kd.R_drew)); exact Kd.R_mono (Kd.R_far (p := ⟨gb119, 3, none⟩) (Kd.R_far (p := ⟨gb119, 2, none⟩) (Kd.R_far (p := ⟨gb119, 1, none⟩) (Kd.R_far (p := ⟨gb119, 0, none⟩) (Kd.R_far (p := ⟨gb118, 3, none⟩) (Kd.R_far (p := ⟨gb118, 2, none⟩) (Kd.R_far (p := ⟨gb118, 1, none⟩) (Kd.R_far (p := ⟨gb118, 0, none⟩) (Kd.R_types (Kd.R_types HO117.out BK118.out (by decide)) BK119.out (by decide)) (fun _ hk => hk.1.2) (.int .u64 t102)) (fun _ hk => hk.1.2) (.int .u64 t103)) (fun _ hk => hk.1.2) (.int .u64 t104)) (fun _ hk => hk.1.2) (.bool t105)) (fun _ hk => hk.2) (.int .u64 t102)) (fun _ hk => hk.2) (.int .u64 t103)) (fun _ hk => hk.2) (.int .u64 t104)) (fun _ hk => hk.2) (.bool t105)) (fun _ hk => trivial)⟩, ⟨by (with_reducible repeat (first | refine zq0 ?_ _ | refine zq2 ?_ | refine zq1 ?_ _)); refine zq11 ?_ NB101_119.out _; (with_reducible repeat (first | refine zq0 ?_ _ | refine zq2 ?_ | refine zq1 ?_ _)); refine zq11 ?_ NB101_119.out _; (with_reducible repeat (first | refine zq0 ?_ _ | refine zq2 ?_ | refine zq1 ?_ _)); refine zq11 ?_ NB101_119.out _; (with_reducible repeat (first | refine zq0 ?_ _ | refine zq2 ?_ | refine zq1 ?_ _)); refine zq11 ?_ NB101_119.out _; (with_reducible repeat (first | refine zq0 ?_ _ | refine zq2 ?_ | refine zq1 ?_ _)); refine zq11 ?_ NB101_118.out _; (with_reducible repeat (first | refine zq0 ?_ _ | refine zq2 ?_ | refine zq1 ?_ _)); refine zq11 ?_ NB101_118.out _; (with_reducible repeat (first | refine zq0 ?_ _ | refine zq2 ?_ | refine zq1 ?_ _)); refine zq11 ?_ NB101_118.out _; (with_reducible repeat (first | refine zq0 ?_ _ | refine zq2 ?_ | refine zq1 ?_ _)); refine zq11 ?_ NB101_118.out _; (with_reducible repeat (first | refine zq0 ?_ _ | refine zq2 ?_ | refine zq1 ?_ _)); exact BK101.out⟩, ⟨by (with_reducible repeat (first | refine zq0 ?_ _ | refine zq2 ?_ | refine zq1 ?_ _)); refine zq11 ?_ NB107_119.out _; (with_reducible repeat (first | refine zq0 ?_ _ | refine zq2 ?_ | refine zq1 ?_ _)); refine zq11 ?_ NB107_119.out _; (with_reducible repeat (first | refine zq0 ?_ _ | refine zq2 ?_ | refine zq1 ?_ _)); refine zq11 ?_ NB107_119.out _; (with_reducible repeat (first | refine zq0 ?_ _ | refine zq2 ?_ | refine zq1 ?_ _)); refine zq11 ?_ NB107_119.out _; (with_reducible repeat (first | refine zq0 ?_ _ | refine zq2 ?_ | refine zq1 ?_ _)); refine zq11 ?_ NB107_118.out _; (with_reducible repeat (first | refine zq0 ?_ _ | refine zq2 ?_ | refine zq1 ?_ _)); refine zq11 ?_ NB107_118.out _; (with_reducible repeat (first | refine zq0 ?_ _ | refine zq2 ?_ | refine zq1 ?_ _)); refine zq11 ?_ NB107_118.out _; (with_reducible repeat (first | refine zq0 ?_ _ | refine zq2 ?_ | refine zq1 ?_ _)); refine zq11 ?_ NB107_118.out _; (with_reducible repeat (first | refine zq0 ?_ _ | refine zq2 ?_ | refine zq1 ?_ _)); exact BK107.out⟩, ⟨by (with_reducible repeat (first | refine zq0 ?_ _ | refine zq2 ?_ | refine zq1 ?_ _)); refine zq11 ?_ NB118_119.out _; (with_reducible repeat (first | refine zq0 ?_ _ | refine zq2 ?_ | refine zq1 ?_ _)); refine zq11 ?_ NB118_119.out _; (with_reducible repeat (first | refine zq0 ?_ _ | refine zq2 ?_ | refine zq1 ?_ _)); refine zq11 ?_ NB118_119.out _; (with_reducible repeat (first | refine zq0 ?_ _ | refine zq2 ?_ | refine zq1 ?_ _)); refine zq11 ?_ NB118_119.out _; (with_reducible repeat (first | refine zq0 ?_ _ | refine zq2 ?_ | refine zq1 ?_ _)); refine blk_put (cs := #[.int .u64 t102, .int .u64 t103, .int .u64 t104, .bool false]) ?_ 3 _ rfl; (with_reducible repeat (first | refine zq0 ?_ _ | refine zq2 ?_ | refine zq1 ?_ _)); refine blk_put (cs := #[.int .u64 t102, .int .u64 t103, .int .u64 0, .bool false]) ?_ 2 _ rfl; (with_reducible repeat (first | refine zq0 ?_ _ | refine zq2 ?_ | refine zq1 ?_ _)); refine blk_put (cs := #[.int .u64 t102, .int .u64 0, .int .u64 0, .bool false]) ?_ 1 _ rfl; (with_reducible repeat (first | refine zq0 ?_ _ | refine zq2 ?_ | refine zq1 ?_ _)); refine blk_put (cs := #[.int .u64 0, .int .u64 0, .int .u64 0, .bool false]) ?_ 0 _ rfl; (with_reducible repeat (first | refine zq0 ?_ _ | refine zq2 ?_ | refine zq1 ?_ _)); exact BK118.out⟩, ⟨by (with_reducible repeat (first | refine zq0 ?_ _ | refine zq2 ?_ | refine zq1 ?_ _)); refine blk_put (cs := #[.int .u64 t102, .int .u64 t103, .int .u64 t104, .bool false]) ?_ 3 _ rfl; (with_reducible repeat (first | refine zq0 ?_ _ | refine zq2 ?_ | refine zq1 ?_ _)); refine blk_put (cs := #[.int .u64 t102, .int .u64 t103, .int .u64 0, .bool false]) ?_ 2 _ rfl; (with_reducible repeat (first | refine zq0 ?_ _ | refine zq2 ?_ | refine zq1 ?_ _)); refine blk_put (cs := #[.int .u64 t102, .int .u64 0, .int .u64 0, .bool false]) ?_ 1 _ rfl; (with_reducible repeat (first | refine zq0 ?_ _ | refine zq2 ?_ | refine zq1 ?_ _)); refine blk_put (cs := #[.int .u64 0, .int .u64 0, .int .u64 0, .bool false]) ?_ 0 _ rfl; (with_reducible repeat (first | refine zq0 ?_ _ | refine zq2 ?_ | refine zq1 ?_ _)); refine zq11 ?_ NB119_118.out _; (with_reducible repeat (first | refine zq0 ?_ _ | refine zq2 ?_ | refine zq1 ?_ _)); refine zq11 ?_ NB119_118.out _; (with_reducible repeat (first | refine zq0 ?_ _ | refine zq2 ?_ | refine zq1 ?_ _)); refine zq11 ?_ NB119_118.out _; (with_reducible repeat (first | refine zq0 ?_ _ | refine zq2 ?_ | refine zq1 ?_ _)); refine zq11 ?_ NB119_118.out _; (with_reducible repeat (first | refine zq0 ?_ _ | refine zq2 ?_ | refine zq1 ?_ _)); exact BK119.out⟩, ⟨by repeat (first | (with_reducible first | exact HB.out | apply zq9 | apply zq7 | apply zq8 | refine zq6 ?_ GE101.out | refine zq6 ?_ GE107.out | refine zq6 ?_ GE118.out | refine zq6 ?_ GE119.out) | exact HB.out)⟩⟩
                case round =>
                  clear H'
                  try clear c1
                  try clear p1
                  try clear q1
                  try clear hx1
                  try clear c2
                  try clear p2
                  try clear p6
                  try clear c9
                  try clear c10
                  try clear p10
                  try clear q10
                  try clear hx10
                  try clear p11
                  try clear q11
                  try clear hx11
                  try clear c12
                  try clear c12b0
                  try clear c12b1
                  try clear c13
                  try clear c16
                  try clear c16b0
                  try clear c17
                  try clear c17b0
                  try clear c18
                  try clear c18b0
                  try clear c20
                  try clear c21
                  try clear c24
                  try clear c24b0
                  try clear c24b1
                  try clear c24b2
                  try clear c25
                  try clear c27
                  try clear hcz11_0
                  try clear hcz11_1
                  try clear hcz11_2
                  try clear hcz11_3
                  try clear hcz7_0
                  try clear hcz7_1
                  try clear hcz7_2
                  try clear hcz7_3
                  try clear hcz7_4
                  try clear hcz7_5
                  try clear hfz11_0
                  try clear hfz11_1
                  try clear hfz11_2
                  try clear hfz11_3
                  try clear hfz7_0
                  try clear hfz7_1
                  try clear hfz7_2
                  try clear hfz7_3
                  try clear hfz7_4
                  try clear hfz7_5
                  try clear hx109_0
                  try clear hx109_1
                  try clear hx109_2
                  try clear hx111_0
                  try clear hx111_1
                  try clear hx111_2
                  try clear p109
                  try clear p111
                  try clear p2
                  try clear q109
                  try clear q111
                  obtain ⟨x14_3, x15_3, x108000_3, x108001_3, x108002_3, x108003_3, x119000_3, x119001_3, x119002_3, x119003_3, x120000_3, x120001_3, x120002_3, x120003_3, rfl, rfl, HA, HK3, HO_11, BK101, BK107, BK118, BK119, HB⟩ := hrel
                  cases gk with
                  | zero => exact absurd HA.out (by simp [weighbridgetop_WholeClock.l1])
                  | succ k3 =>
                    have H := HA.out
                    clear HA
                    simp only [weighbridgetop_WholeClock.l1] at H
                    by_cases c40 : x15_3 < (l1.length : Int)
                    · rw [if_pos c40] at H
                      have c40b0 : decide (x15_3 < (l1.length : Int)) = true := decide_eq_true c40
                      clear c40
                      by_cases c41 : 0 ≤ x15_3
                      · rw [if_pos c41] at H
                        have c41b0 : decide (0 ≤ x15_3) = true := decide_eq_true c41
                        clear c41
                        replace H := Option.bind_eq_some_iff.mp H
                        obtain ⟨⟨t124, t125, t126, t127, t128⟩, A420, H⟩ := H
                        replace H : (if x15_3 < (t115.length : Int) then ((single_Step.f k3 a0_0 a0_1 a0_2 a0_3 a0_4 a0_5 x119000_3 x119001_3 x119002_3 x119003_3 (rd t115 x15_3) ((rd_T28 l1 x15_3).f1) ((rd_T28 l1 x15_3).f2)).bind fun bt132 => (if t128 = bt132.2.2.2.2 then (if t124 = bt132.1 then (weighbridgetop_WholeClock.j3 k3 l1 a2 t115 x14_3 x15_3 t128 (t125 != bt132.2.1) a0_0 a0_1 a0_2 a0_3 a0_4 a0_5 t124 t125 t126 t127 bt132.1 bt132.2.1 bt132.2.2.1 bt132.2.2.2.1 x120000_3 x120001_3 x120002_3 x120003_3) else (weighbridgetop_WholeClock.j3 k3 l1 a2 t115 x14_3 x15_3 t128 true a0_0 a0_1 a0_2 a0_3 a0_4 a0_5 t124 t125 t126 t127 bt132.1 bt132.2.1 bt132.2.2.1 bt132.2.2.2.1 x120000_3 x120001_3 x120002_3 x120003_3)) else (weighbridgetop_WholeClock.j3 k3 l1 a2 t115 x14_3 x15_3 t128 true a0_0 a0_1 a0_2 a0_3 a0_4 a0_5 t124 t125 t126 t127 bt132.1 bt132.2.1 bt132.2.2.1 bt132.2.2.2.1 x120000_3 x120001_3 x120002_3 x120003_3))) else (none)) = some r := H
                        have A42 := zq3 A420
                        clear A420
                        by_cases c43 : x15_3 < (t115.length : Int)
                        · rw [if_pos c43] at H
                          have c43b0 : decide (x15_3 < (t115.length : Int)) = true := decide_eq_true c43
                          clear c43
                          replace H := Option.bind_eq_some_iff.mp H
                          obtain ⟨⟨t132, t133, t134, t135, t136⟩, A440, H⟩ := H
                          replace H : (if t128 = t136 then (if t124 = t132 then (weighbridgetop_WholeClock.j3 k3 l1 a2 t115 x14_3 x15_3 t128 (t125 != t133) a0_0 a0_1 a0_2 a0_3 a0_4 a0_5 t124 t125 t126 t127 t132 t133 t134 t135 x120000_3 x120001_3 x120002_3 x120003_3) else (weighbridgetop_WholeClock.j3 k3 l1 a2 t115 x14_3 x15_3 t128 true a0_0 a0_1 a0_2 a0_3 a0_4 a0_5 t124 t125 t126 t127 t132 t133 t134 t135 x120000_3 x120001_3 x120002_3 x120003_3)) else (weighbridgetop_WholeClock.j3 k3 l1 a2 t115 x14_3 x15_3 t128 true a0_0 a0_1 a0_2 a0_3 a0_4 a0_5 t124 t125 t126 t127 t132 t133 t134 t135 x120000_3 x120001_3 x120002_3 x120003_3)) = some r := H
                          have A44 := zq3 A440
                          clear A440
                          have HC45 := zq3 H
                          clear H
                          try go_wp2
                          have n0_ := zq3 (Kd.R_drew HO_11.out)
                          have n1_ := zq3 (zq2 BK101.out)
                          have n2_ := zq3 (zq2 BK107.out)
                          have n3_ := zq3 (zq2 BK118.out)
                          have n4_ := zq3 (zq2 BK119.out)
                          have n5_ := zq3 (zq8 HB.out)
                          clear HO_11
                          clear BK101
                          clear BK107
                          clear BK118
                          clear BK119
                          clear HB
                          have HO_11 := n0_
                          have BK101 := n1_
                          have BK107 := n2_
                          have BK118 := n3_
                          have BK119 := n4_
                          have HB := n5_
                          clear n0_ n1_ n2_ n3_ n4_ n5_
                          have p121 : 0 ≤ (x15_3 : Int) := of_decide_eq_true (by first | (with_reducible assumption) | assumption)
                          have q121 : x15_3 < (l1.length : Int) := of_decide_eq_true (by first | (with_reducible assumption) | assumption)
                          obtain ⟨ad121, e121, hx121_0, hx121_1, hx121_2⟩ := at_T28 HR1.out x15_3 p121 q121
                          have hw121_2 := hx121_2
                          have hw121_1 := hx121_1
                          have hw121_0 := hx121_0
                          cases e121
                          replace hx121_0 := (HB.out.cell (World.block_lt_of_cell? w _ hx121_0)).trans hx121_0
                          replace hx121_1 := (HB.out.cell (World.block_lt_of_cell? w _ hx121_1)).trans hx121_1
                          replace hx121_2 := (HB.out.cell (World.block_lt_of_cell? w _ hx121_2)).trans hx121_2
                          replace p121 := eq_true p121
                          replace q121 := eq_true q121
                          have p122 : 0 ≤ (x15_3 : Int) := of_decide_eq_true (by first | (with_reducible assumption) | assumption)
                          have q122 : x15_3 < (l1.length : Int) := of_decide_eq_true (by first | (with_reducible assumption) | assumption)
                          obtain ⟨ad122, e122, hx122_0, hx122_1, hx122_2⟩ := at_T28 HR1.out x15_3 p122 q122
                          have hw122_2 := hx122_2
                          have hw122_1 := hx122_1
                          have hw122_0 := hx122_0
                          obtain rfl : ad121 = ad122 := (by injection e122)
                          replace hx122_0 := (HB.out.cell (World.block_lt_of_cell? w _ hx122_0)).trans hx122_0
                          replace hx122_1 := (HB.out.cell (World.block_lt_of_cell? w _ hx122_1)).trans hx122_1
                          replace hx122_2 := (HB.out.cell (World.block_lt_of_cell? w _ hx122_2)).trans hx122_2
                          replace p122 := eq_true p122
                          replace q122 := eq_true q122
                          have p123 : 0 ≤ (x15_3 : Int) := of_decide_eq_true (by first | (with_reducible assumption) | assumption)
                          have q123 : x15_3 < (l1.length : Int) := of_decide_eq_true (by first | (with_reducible assumption) | assumption)
                          obtain ⟨ad123, e123, hx123_0, hx123_1, hx123_2⟩ := at_T28 HR1.out x15_3 p123 q123
                          have hw123_2 := hx123_2
                          have hw123_1 := hx123_1
                          have hw123_0 := hx123_0
                          obtain rfl : ad121 = ad123 := (by injection e123)
                          replace hx123_0 := (HB.out.cell (World.block_lt_of_cell? w _ hx123_0)).trans hx123_0
                          replace hx123_1 := (HB.out.cell (World.block_lt_of_cell? w _ hx123_1)).trans hx123_1
                          replace hx123_2 := (HB.out.cell (World.block_lt_of_cell? w _ hx123_2)).trans hx123_2
                          replace p123 := eq_true p123
                          replace q123 := eq_true q123
                          refine start_ (n := 23) (S := fun w' => w'.cell? ⟨gb101, 0, none⟩ = some (.int .i64 a0_0) ∧ w'.cell? ⟨gb101, 1, none⟩ = some (.bool a0_1) ∧ w'.cell? ⟨gb101, 2, none⟩ = some (.int .u64 a0_2) ∧ w'.cell? ⟨gb101, 3, none⟩ = some (.int .u64 a0_3) ∧ w'.cell? ⟨gb101, 4, none⟩ = some (.int .u64 a0_4) ∧ w'.cell? ⟨gb101, 5, none⟩ = some (.int .u64 a0_5) ∧ w'.cell? ⟨gb107, 0, none⟩ = some (.int .u64 x108000_3) ∧ w'.cell? ⟨gb107, 1, none⟩ = some (.int .u64 x108001_3) ∧ w'.cell? ⟨gb107, 2, none⟩ = some (.int .u64 x108002_3) ∧ w'.cell? ⟨gb107, 3, none⟩ = some (.bool x108003_3) ∧ w'.cell? (ad121.add ((x15_3).toNat * 3)) = some (.int .u64 ((rd_T28 l1 x15_3).f0)) ∧ w'.cell? ⟨(ad121.add ((x15_3).toNat * 3)).block, (ad121.add ((x15_3).toNat * 3)).off + 1, none⟩ = some (.int .i64 ((rd_T28 l1 x15_3).f1)) ∧ w'.cell? ⟨(ad121.add ((x15_3).toNat * 3)).block, (ad121.add ((x15_3).toNat * 3)).off + 2, none⟩ = some (.int .i64 ((rd_T28 l1 x15_3).f2)) ∧ w'.cell? (ad121.add ((x15_3).toNat * 3)) = some (.int .u64 ((rd_T28 l1 x15_3).f0)) ∧ w'.cell? ⟨(ad121.add ((x15_3).toNat * 3)).block, (ad121.add ((x15_3).toNat * 3)).off + 1, none⟩ = some (.int .i64 ((rd_T28 l1 x15_3).f1)) ∧ w'.cell? ⟨(ad121.add ((x15_3).toNat * 3)).block, (ad121.add ((x15_3).toNat * 3)).off + 2, none⟩ = some (.int .i64 ((rd_T28 l1 x15_3).f2)) ∧ w'.cell? (ad121.add ((x15_3).toNat * 3)) = some (.int .u64 ((rd_T28 l1 x15_3).f0)) ∧ w'.cell? ⟨(ad121.add ((x15_3).toNat * 3)).block, (ad121.add ((x15_3).toNat * 3)).off + 1, none⟩ = some (.int .i64 ((rd_T28 l1 x15_3).f1)) ∧ w'.cell? ⟨(ad121.add ((x15_3).toNat * 3)).block, (ad121.add ((x15_3).toNat * 3)).off + 2, none⟩ = some (.int .i64 ((rd_T28 l1 x15_3).f2))) (ds := [21]) #[false, false, false, false, false, false, false, false, false, false, false, false, false, false, false, false, false, false, false, false, false, false, false] (by kernel_rfl) rfl rfl ⟨(zq5 BK101.out 0).trans rfl, (zq5 BK101.out 1).trans rfl, (zq5 BK101.out 2).trans rfl, (zq5 BK101.out 3).trans rfl, (zq5 BK101.out 4).trans rfl, (zq5 BK101.out 5).trans rfl, (zq5 BK107.out 0).trans rfl, (zq5 BK107.out 1).trans rfl, (zq5 BK107.out 2).trans rfl, (zq5 BK107.out 3).trans rfl, ((HB.out.cell (World.block_lt_of_cell? w _ hw121_0)).trans hw121_0), ((HB.out.cell (World.block_lt_of_cell? w _ hw121_1)).trans hw121_1), ((HB.out.cell (World.block_lt_of_cell? w _ hw121_2)).trans hw121_2), ((HB.out.cell (World.block_lt_of_cell? w _ hw122_0)).trans hw122_0), ((HB.out.cell (World.block_lt_of_cell? w _ hw122_1)).trans hw122_1), ((HB.out.cell (World.block_lt_of_cell? w _ hw122_2)).trans hw122_2), ((HB.out.cell (World.block_lt_of_cell? w _ hw123_0)).trans hw123_0), ((HB.out.cell (World.block_lt_of_cell? w _ hw123_1)).trans hw123_1), ((HB.out.cell (World.block_lt_of_cell? w _ hw123_2)).trans hw123_2)⟩ (fun hHeld => ?_); refine with_tabW weighbridgetop_WholeClock.tab20 weighbridgetop_WholeClock.bits20 (fun HT_ HW_ => ?_)
                          generalize wr.drew = w46 at HO_11 BK101 BK107 BK118 BK119 HB hx121_0 hx121_1 hx121_2 hx122_0 hx122_1 hx122_2 hx123_0 hx123_1 hx123_2 hHeld ⊢
                          refine pure_ (i := 2) (N := some 75) (v := ?_) (a' := ?_) #[false, false, true, false, false, false, false, false, false, false, false, false, false, false, false, false, false, false, false, false, false, false, false] rfl rfl (any_of HT_.out (by kernel_rfl)) (fun _ _ _ h => h) (Or.inl ⟨by rfl, ?_⟩) ?_ ?_
                          rotate_left
                          · intro w'
                            go_simp
                            with_reducible rfl
                          rotate_left
                          · simp only [Act.put, List.setIfInBounds_toArray, List.set_cons_zero, List.set_cons_succ, i64_w, i32_w]
                            rfl
                          refine pure_ (i := 3) (N := some 76) (v := ?_) (a' := ?_) #[false, false, true, true, false, false, false, false, false, false, false, false, false, false, false, false, false, false, false, false, false, false, false] rfl rfl (any_of HT_.out (by kernel_rfl)) (fun _ _ _ h => h) (Or.inl ⟨by rfl, ?_⟩) ?_ ?_
                          rotate_left
                          · intro w'
                            go_simp
                            with_reducible rfl
                          rotate_left
                          · simp only [Act.put, List.setIfInBounds_toArray, List.set_cons_zero, List.set_cons_succ, i64_w, i32_w]
                            rfl
                          refine pure_ (i := 4) (N := some 77) (v := ?_) (a' := ?_) #[false, false, true, true, true, false, false, false, false, false, false, false, false, false, false, false, false, false, false, false, false, false, false] rfl rfl (any_of HT_.out (by kernel_rfl)) (fun _ _ _ h => h) (Or.inl ⟨by rfl, ?_⟩) ?_ ?_
                          rotate_left
                          · intro w'
                            go_simp
                            with_reducible rfl
                          rotate_left
                          · simp only [Act.put, List.setIfInBounds_toArray, List.set_cons_zero, List.set_cons_succ, i64_w, i32_w]
                            rfl
                          refine pure_ (i := 5) (N := some 78) (v := ?_) (a' := ?_) #[false, false, true, true, true, true, false, false, false, false, false, false, false, false, false, false, false, false, false, false, false, false, false] rfl rfl (any_of HT_.out (by kernel_rfl)) (fun _ _ _ h => h) (Or.inl ⟨by rfl, ?_⟩) ?_ ?_
                          rotate_left
                          · intro w'
                            go_simp
                            with_reducible rfl
                          rotate_left
                          · simp only [Act.put, List.setIfInBounds_toArray, List.set_cons_zero, List.set_cons_succ, i64_w, i32_w]
                            rfl
                          refine pure_ (i := 7) (N := some 80) (v := ?_) (a' := ?_) #[false, false, true, true, true, true, false, true, false, false, false, false, false, false, false, false, false, false, false, false, false, false, false] rfl rfl (any_of HT_.out (by kernel_rfl)) (fun _ _ _ h => h) (Or.inl ⟨by rfl, ?_⟩) ?_ ?_
                          rotate_left
                          · intro w'
                            go_simp
                            with_reducible rfl
                          rotate_left
                          · simp only [Act.put, List.setIfInBounds_toArray, List.set_cons_zero, List.set_cons_succ, i64_w, i32_w]
                            rfl
                          refine pure_ (i := 8) (N := some 81) (v := ?_) (a' := ?_) #[false, false, true, true, true, true, false, true, true, false, false, false, false, false, false, false, false, false, false, false, false, false, false] rfl rfl (any_of HT_.out (by kernel_rfl)) (fun _ _ _ h => h) (Or.inl ⟨by rfl, ?_⟩) ?_ ?_
                          rotate_left
                          · intro w'
                            go_simp
                            with_reducible rfl
                          rotate_left
                          · simp only [Act.put, List.setIfInBounds_toArray, List.set_cons_zero, List.set_cons_succ, i64_w, i32_w]
                            rfl
                          refine pure_ (i := 9) (N := some 82) (v := ?_) (a' := ?_) #[false, false, true, true, true, true, false, true, true, true, false, false, false, false, false, false, false, false, false, false, false, false, false] rfl rfl (any_of HT_.out (by kernel_rfl)) (fun _ _ _ h => h) (Or.inl ⟨by rfl, ?_⟩) ?_ ?_
                          rotate_left
                          · intro w'
                            go_simp
                            with_reducible rfl
                          rotate_left
                          · simp only [Act.put, List.setIfInBounds_toArray, List.set_cons_zero, List.set_cons_succ, i64_w, i32_w]
                            rfl
                          refine pure_ (i := 10) (N := some 83) (v := ?_) (a' := ?_) #[false, false, true, true, true, true, false, true, true, true, true, false, false, false, false, false, false, false, false, false, false, false, false] rfl rfl (any_of HT_.out (by kernel_rfl)) (fun _ _ _ h => h) (Or.inl ⟨by rfl, ?_⟩) ?_ ?_
                          rotate_left
                          · intro w'
                            go_simp
                            with_reducible rfl
                          rotate_left
                          · simp only [Act.put, List.setIfInBounds_toArray, List.set_cons_zero, List.set_cons_succ, i64_w, i32_w]
                            rfl
                          refine pure_ (i := 12) (N := some 85) (v := ?_) (a' := ?_) #[false, false, true, true, true, true, false, true, true, true, true, false, true, false, false, false, false, false, false, false, false, false, false] rfl rfl (any_of HT_.out (by kernel_rfl)) (fun _ _ _ h => h) (Or.inl ⟨by rfl, ?_⟩) ?_ ?_
                          rotate_left
                          · intro w'
                            go_simp
                            with_reducible rfl
                          rotate_left
                          · simp only [Act.put, List.setIfInBounds_toArray, List.set_cons_zero, List.set_cons_succ, i64_w, i32_w]
                            rfl
                          refine pure_ (i := 13) (N := some 86) (v := ?_) (a' := ?_) #[false, false, true, true, true, true, false, true, true, true, true, false, true, true, false, false, false, false, false, false, false, false, false] rfl rfl (any_of HT_.out (by kernel_rfl)) (fun _ _ _ h => h) (Or.inl ⟨by rfl, ?_⟩) ?_ ?_
                          rotate_left
                          · intro w'
                            go_simp
                            with_reducible rfl
                          rotate_left
                          · simp only [Act.put, List.setIfInBounds_toArray, List.set_cons_zero, List.set_cons_succ, i64_w, i32_w]
                            rfl
                          refine pure_ (i := 14) (N := some 87) (v := ?_) (a' := ?_) #[false, false, true, true, true, true, false, true, true, true, true, false, true, true, true, false, false, false, false, false, false, false, false] rfl rfl (any_of HT_.out (by kernel_rfl)) (fun _ _ _ h => h) (Or.inl ⟨by rfl, ?_⟩) ?_ ?_
                          rotate_left
                          · intro w'
                            go_simp
                            with_reducible rfl
                          rotate_left
                          · simp only [Act.put, List.setIfInBounds_toArray, List.set_cons_zero, List.set_cons_succ, i64_w, i32_w]
                            rfl
                          refine pure_ (i := 15) (N := some 88) (v := ?_) (a' := ?_) #[false, false, true, true, true, true, false, true, true, true, true, false, true, true, true, true, false, false, false, false, false, false, false] rfl rfl (any_of HT_.out (by kernel_rfl)) (fun _ _ _ h => h) (Or.inl ⟨by rfl, ?_⟩) ?_ ?_
                          rotate_left
                          · intro w'
                            go_simp
                            with_reducible rfl
                          rotate_left
                          · simp only [Act.put, List.setIfInBounds_toArray, List.set_cons_zero, List.set_cons_succ, i64_w, i32_w]
                            rfl
                          refine take_ (i := 0) (N := some 73) (v := ?_) (a' := ?_) #[true, false, true, true, true, true, false, true, true, true, true, false, true, true, true, true, false, false, false, false, false, false, false] rfl rfl (take_ofW HT_.out HW_.out (by kernel_rfl)) (fun _ _ _ h => h) (Or.inl ⟨by rfl, ?_⟩) hHeld ?_ ?_
                          rotate_left
                          · rintro w' ⟨s0, s1, s2, s3, s4, s5, s6, s7, s8, s9, s10, s11, s12, s13, s14, s15, s16, s17, s18⟩
                            go_simp
                            with_reducible rfl
                          rotate_left
                          · simp only [Act.put, List.setIfInBounds_toArray, List.set_cons_zero, List.set_cons_succ, i64_w, i32_w]
                            rfl
                          refine take_ (i := 1) (N := some 74) (v := ?_) (a' := ?_) #[true, true, true, true, true, true, false, true, true, true, true, false, true, true, true, true, false, false, false, false, false, false, false] rfl rfl (take_ofW HT_.out HW_.out (by kernel_rfl)) (fun _ _ _ h => h) (Or.inl ⟨by rfl, ?_⟩) hHeld ?_ ?_
                          rotate_left
                          · rintro w' ⟨s0, s1, s2, s3, s4, s5, s6, s7, s8, s9, s10, s11, s12, s13, s14, s15, s16, s17, s18⟩
                            go_simp
                            with_reducible rfl
                          rotate_left
                          · simp only [Act.put, List.setIfInBounds_toArray, List.set_cons_zero, List.set_cons_succ, i64_w, i32_w]
                            rfl
                          refine take_ (i := 6) (N := some 79) (v := ?_) (a' := ?_) #[true, true, true, true, true, true, true, true, true, true, true, false, true, true, true, true, false, false, false, false, false, false, false] rfl rfl (take_ofW HT_.out HW_.out (by kernel_rfl)) (fun _ _ _ h => h) (Or.inl ⟨by rfl, ?_⟩) hHeld ?_ ?_
                          rotate_left
                          · rintro w' ⟨s0, s1, s2, s3, s4, s5, s6, s7, s8, s9, s10, s11, s12, s13, s14, s15, s16, s17, s18⟩
                            go_simp
                            with_reducible rfl
                          rotate_left
                          · simp only [Act.put, List.setIfInBounds_toArray, List.set_cons_zero, List.set_cons_succ, i64_w, i32_w]
                            rfl
                          refine take_ (i := 11) (N := some 84) (v := ?_) (a' := ?_) #[true, true, true, true, true, true, true, true, true, true, true, true, true, true, true, true, false, false, false, false, false, false, false] rfl rfl (take_ofW HT_.out HW_.out (by kernel_rfl)) (fun _ _ _ h => h) (Or.inl ⟨by rfl, ?_⟩) hHeld ?_ ?_
                          rotate_left
                          · rintro w' ⟨s0, s1, s2, s3, s4, s5, s6, s7, s8, s9, s10, s11, s12, s13, s14, s15, s16, s17, s18⟩
                            go_simp
                            with_reducible rfl
                          rotate_left
                          · simp only [Act.put, List.setIfInBounds_toArray, List.set_cons_zero, List.set_cons_succ, i64_w, i32_w]
                            rfl
                          refine take_ (i := 16) (N := some 89) (v := ?_) (a' := ?_) #[true, true, true, true, true, true, true, true, true, true, true, true, true, true, true, true, true, false, false, false, false, false, false] rfl rfl (take_ofW HT_.out HW_.out (by kernel_rfl)) (fun _ _ _ h => h) (Or.inl ⟨by rfl, ?_⟩) hHeld ?_ ?_
                          rotate_left
                          · rintro w' ⟨s0, s1, s2, s3, s4, s5, s6, s7, s8, s9, s10, s11, s12, s13, s14, s15, s16, s17, s18⟩
                            go_simp
                            with_reducible rfl
                          rotate_left
                          · simp only [Act.put, List.setIfInBounds_toArray, List.set_cons_zero, List.set_cons_succ, i64_w, i32_w]
                            rfl
                          refine one_ (i := 17) (N := some 90) #[true, true, true, true, true, true, true, true, true, true, true, true, true, true, true, true, true, true, false, false, false, false, false] rfl rfl (one_of HT_.out (by kernel_rfl)) (by decide) (fun K hK => ?_)
                          refine goes_ Try.func22 (by kernel_rfl) rfl #[.agg #[.int .i64 a0_0, .bool a0_1, .int .u64 a0_2, .int .u64 a0_3, .int .u64 a0_4, .int .u64 a0_5], .agg #[.int .u64 x108000_3, .int .u64 x108001_3, .int .u64 x108002_3, .bool x108003_3], .int .u64 ((rd_T28 l1 x15_3).f0), .int .i64 ((rd_T28 l1 x15_3).f1), .int .i64 ((rd_T28 l1 x15_3).f2)] (by rfl) rfl rfl (by (try simp only [List.map_toArray, List.map_cons, List.map_nil]); first | done | rfl | (simp only [List.length_drop, List.length_take]; rfl)) ?_
                          with_reducible refine (single_Step.calls k3 a0_0 a0_1 a0_2 a0_3 a0_4 a0_5 x108000_3 x108001_3 x108002_3 x108003_3 ((rd_T28 l1 x15_3).f0) ((rd_T28 l1 x15_3).f1) ((rd_T28 l1 x15_3).f2) t124 t125 t126 t127 t128 _ A42.out).mono ?_
                          rintro e w47 ⟨rfl, hb⟩
                          refine ⟨_, rfl, ?_⟩
                          have n0_ := zq3 (Kd.R_below (by (with_reducible repeat (first | apply Kd.R_alloc | apply Kd.R_drewN | apply Kd.R_drew)); exact HO_11.out) hb)
                          have n1_ := zq3 (zq10 (g := gb101) (o := .cells #[.int .i64 a0_0, .bool a0_1, .int .u64 a0_2, .int .u64 a0_3, .int .u64 a0_4, .int .u64 a0_5] 24 (0, 0)) (by (with_reducible repeat (first | refine zq0 ?_ _ | refine zq2 ?_ | refine zq1 ?_ _)); exact BK101.out) hb)
                          have n2_ := zq3 (zq10 (g := gb107) (o := .cells #[.int .u64 x108000_3, .int .u64 x108001_3, .int .u64 x108002_3, .bool x108003_3] 26 (0, 0)) (by (with_reducible repeat (first | refine zq0 ?_ _ | refine zq2 ?_ | refine zq1 ?_ _)); exact BK107.out) hb)
                          have n3_ := zq3 (zq10 (g := gb118) (o := .cells #[.int .u64 x119000_3, .int .u64 x119001_3, .int .u64 x119002_3, .bool x119003_3] 26 (0, 0)) (by (with_reducible repeat (first | refine zq0 ?_ _ | refine zq2 ?_ | refine zq1 ?_ _)); exact BK118.out) hb)
                          have n4_ := zq3 (zq10 (g := gb119) (o := .cells #[.int .u64 x120000_3, .int .u64 x120001_3, .int .u64 x120002_3, .bool x120003_3] 26 (0, 0)) (by (with_reducible repeat (first | refine zq0 ?_ _ | refine zq2 ?_ | refine zq1 ?_ _)); exact BK119.out) hb)
                          have n5_ := zq3 (below_step (by repeat (first | (with_reducible first | exact HB.out | apply zq9 | apply zq7 | apply zq8 | refine zq6 ?_ GE101.out | refine zq6 ?_ GE107.out | refine zq6 ?_ GE118.out | refine zq6 ?_ GE119.out) | exact HB.out)) hb)
                          clear HO_11
                          clear BK101
                          clear BK107
                          clear BK118
                          clear BK119
                          clear HB
                          have HO_11 := n0_
                          have BK101 := n1_
                          have BK107 := n2_
                          have BK118 := n3_
                          have BK119 := n4_
                          have HB := n5_
                          clear n0_ n1_ n2_ n3_ n4_ n5_
                          (try clear hb)
                          (try clear hb2)
                          (try clear hk)
                          (try clear hi)
                          refine hK.out _ _ ⟨(zq5 BK101.out 0).trans rfl, (zq5 BK101.out 1).trans rfl, (zq5 BK101.out 2).trans rfl, (zq5 BK101.out 3).trans rfl, (zq5 BK101.out 4).trans rfl, (zq5 BK101.out 5).trans rfl, (zq5 BK107.out 0).trans rfl, (zq5 BK107.out 1).trans rfl, (zq5 BK107.out 2).trans rfl, (zq5 BK107.out 3).trans rfl, ((HB.out.cell (World.block_lt_of_cell? w _ hw121_0)).trans hw121_0), ((HB.out.cell (World.block_lt_of_cell? w _ hw121_1)).trans hw121_1), ((HB.out.cell (World.block_lt_of_cell? w _ hw121_2)).trans hw121_2), ((HB.out.cell (World.block_lt_of_cell? w _ hw122_0)).trans hw122_0), ((HB.out.cell (World.block_lt_of_cell? w _ hw122_1)).trans hw122_1), ((HB.out.cell (World.block_lt_of_cell? w _ hw122_2)).trans hw122_2), ((HB.out.cell (World.block_lt_of_cell? w _ hw123_0)).trans hw123_0), ((HB.out.cell (World.block_lt_of_cell? w _ hw123_1)).trans hw123_1), ((HB.out.cell (World.block_lt_of_cell? w _ hw123_2)).trans hw123_2)⟩ (fun hHeld => ?_)
                          clear hK K
                          refine norm_ (a' := ?_) ?_ ?_
                          rotate_left
                          · show Act.put _ (some 90) _ = _
                            simp only [Act.put, List.setIfInBounds_toArray, List.set_cons_zero, List.set_cons_succ, i64_w, i32_w]
                            rfl
                          refine pure_ (i := 18) (N := some 72) (v := ?_) (a' := ?_) #[true, true, true, true, true, true, true, true, true, true, true, true, true, true, true, true, true, true, true, false, false, false, false] rfl rfl (any_of HT_.out (by kernel_rfl)) (fun _ _ _ h => h) (Or.inl ⟨by rfl, ?_⟩) ?_ ?_
                          rotate_left
                          · intro w'
                            go_simp
                            with_reducible rfl
                          rotate_left
                          · simp only [Act.put, List.setIfInBounds_toArray, List.set_cons_zero, List.set_cons_succ, i64_w, i32_w]
                            rfl
                          refine pure_ (i := 19) (N := some 91) (v := ?_) (a' := ?_) #[true, true, true, true, true, true, true, true, true, true, true, true, true, true, true, true, true, true, true, true, false, false, false] rfl rfl (any_of HT_.out (by kernel_rfl)) (fun _ _ _ h => h) (Or.inl ⟨by rfl, ?_⟩) ?_ ?_
                          rotate_left
                          · intro w'
                            go_simp
                            with_reducible rfl
                          rotate_left
                          · simp only [Act.put, List.setIfInBounds_toArray, List.set_cons_zero, List.set_cons_succ, i64_w, i32_w]
                            rfl
                          refine pure_ (i := 20) (N := some 92) (v := ?_) (a' := ?_) #[true, true, true, true, true, true, true, true, true, true, true, true, true, true, true, true, true, true, true, true, true, false, false] rfl rfl (any_of HT_.out (by kernel_rfl)) (fun _ _ _ h => h) (Or.inl ⟨by rfl, ?_⟩) ?_ ?_
                          rotate_left
                          · intro w'
                            go_simp
                            with_reducible rfl
                          rotate_left
                          · simp only [Act.put, List.setIfInBounds_toArray, List.set_cons_zero, List.set_cons_succ, i64_w, i32_w]
                            rfl
                          refine last_ (i := 21) (N := none) #[true, true, true, true, true, true, true, true, true, true, true, true, true, true, true, true, true, true, true, true, true, true, false] rfl rfl (one_of HT_.out (by kernel_rfl)) (by decide) (fun K hK => ?_)
                          have hs48 : w47.cell? ⟨gb107, 0, none⟩ = some (.int .u64 x108000_3) := (zq5 BK107.out 0).trans rfl
                          have hfs48 := zq4 BK107.out 0
                          have hns48_0 := NB101_107.out
                          have hns48_2 := NB118_107.out
                          have hns48_3 := NB119_107.out
                          have hms48_0 := NB107_101.out
                          have hms48_2 := NB107_118.out
                          have hms48_3 := NB107_119.out
                          have hs49 : w47.cell? ⟨gb107, 1, none⟩ = some (.int .u64 x108001_3) := (zq5 BK107.out 1).trans rfl
                          have hfs49 := zq4 BK107.out 1
                          have hns49_0 := NB101_107.out
                          have hns49_2 := NB118_107.out
                          have hns49_3 := NB119_107.out
                          have hms49_0 := NB107_101.out
                          have hms49_2 := NB107_118.out
                          have hms49_3 := NB107_119.out
                          have hs50 : w47.cell? ⟨gb107, 2, none⟩ = some (.int .u64 x108002_3) := (zq5 BK107.out 2).trans rfl
                          have hfs50 := zq4 BK107.out 2
                          have hns50_0 := NB101_107.out
                          have hns50_2 := NB118_107.out
                          have hns50_3 := NB119_107.out
                          have hms50_0 := NB107_101.out
                          have hms50_2 := NB107_118.out
                          have hms50_3 := NB107_119.out
                          have hs51 : w47.cell? ⟨gb107, 3, none⟩ = some (.bool x108003_3) := (zq5 BK107.out 3).trans rfl
                          have hfs51 := zq4 BK107.out 3
                          have hns51_0 := NB101_107.out
                          have hns51_2 := NB118_107.out
                          have hns51_3 := NB119_107.out
                          have hms51_0 := NB107_101.out
                          have hms51_2 := NB107_118.out
                          have hms51_3 := NB107_119.out
                          refine skip_ (w1 := ?_) (by rfl) rfl ?_ ?_
                          rotate_left
                          · go_simp
                            rfl
                          refine hK.out _ _ ?_
                          clear hK K
                          refine pure_ (i := 22) (N := some 16) (v := ?_) (a' := ?_) #[true, true, true, true, true, true, true, true, true, true, true, true, true, true, true, true, true, true, true, true, true, true, true] rfl rfl (any_of HT_.out (by kernel_rfl)) (fun _ _ _ h => h) (Or.inl ⟨by rfl, ?_⟩) ?_ ?_
                          rotate_left
                          · intro w'
                            go_simp
                            with_reducible rfl
                          rotate_left
                          · simp only [Act.put, List.setIfInBounds_toArray, List.set_cons_zero, List.set_cons_succ, i64_w, i32_w]
                            rfl
                          refine done_ (done_of HT_.out (by kernel_rfl)) ?_
                          try go_wp2
                          have n0_ : Aside0 (Kd.R (Kd.int .u64) 22 ((((w47.setCell ⟨gb107, 0, none⟩ (.int .u64 t124)).setCell ⟨gb107, 1, none⟩ (.int .u64 t125)).setCell ⟨gb107, 2, none⟩ (.int .u64 t126)).setCell ⟨gb107, 3, none⟩ (.bool t127)) w.heap.size (fun _ => True) (.slice Ao27 t115.length co27) t115) := ⟨by (with_reducible repeat (first | apply Kd.R_alloc | apply Kd.R_drewN | apply Kd.R_drew)); exact Kd.R_mono (Kd.R_far (p := ⟨gb107, 3, none⟩) (Kd.R_far (p := ⟨gb107, 2, none⟩) (Kd.R_far (p := ⟨gb107, 1, none⟩) (Kd.R_far (p := ⟨gb107, 0, none⟩) (Kd.R_types HO_11.out BK107.out (by decide)) (fun _ hk => hk.2) (.int .u64 t124)) (fun _ hk => hk.2) (.int .u64 t125)) (fun _ hk => hk.2) (.int .u64 t126)) (fun _ hk => hk.2) (.bool t127)) (fun _ hk => trivial)⟩
                          have n1_ : Aside0 (((((w47.setCell ⟨gb107, 0, none⟩ (.int .u64 t124)).setCell ⟨gb107, 1, none⟩ (.int .u64 t125)).setCell ⟨gb107, 2, none⟩ (.int .u64 t126)).setCell ⟨gb107, 3, none⟩ (.bool t127)).heap[gb101]? = some (.cells #[.int .i64 a0_0, .bool a0_1, .int .u64 a0_2, .int .u64 a0_3, .int .u64 a0_4, .int .u64 a0_5] 24 (0, 0))) := ⟨by (with_reducible repeat (first | refine zq0 ?_ _ | refine zq2 ?_ | refine zq1 ?_ _)); refine zq11 ?_ NB101_107.out _; (with_reducible repeat (first | refine zq0 ?_ _ | refine zq2 ?_ | refine zq1 ?_ _)); refine zq11 ?_ NB101_107.out _; (with_reducible repeat (first | refine zq0 ?_ _ | refine zq2 ?_ | refine zq1 ?_ _)); refine zq11 ?_ NB101_107.out _; (with_reducible repeat (first | refine zq0 ?_ _ | refine zq2 ?_ | refine zq1 ?_ _)); refine zq11 ?_ NB101_107.out _; (with_reducible repeat (first | refine zq0 ?_ _ | refine zq2 ?_ | refine zq1 ?_ _)); exact BK101.out⟩
                          have n2_ : Aside0 (((((w47.setCell ⟨gb107, 0, none⟩ (.int .u64 t124)).setCell ⟨gb107, 1, none⟩ (.int .u64 t125)).setCell ⟨gb107, 2, none⟩ (.int .u64 t126)).setCell ⟨gb107, 3, none⟩ (.bool t127)).heap[gb107]? = some (.cells #[.int .u64 t124, .int .u64 t125, .int .u64 t126, .bool t127] 26 (0, 0))) := ⟨by (with_reducible repeat (first | refine zq0 ?_ _ | refine zq2 ?_ | refine zq1 ?_ _)); refine blk_put (cs := #[.int .u64 t124, .int .u64 t125, .int .u64 t126, .bool x108003_3]) ?_ 3 _ rfl; (with_reducible repeat (first | refine zq0 ?_ _ | refine zq2 ?_ | refine zq1 ?_ _)); refine blk_put (cs := #[.int .u64 t124, .int .u64 t125, .int .u64 x108002_3, .bool x108003_3]) ?_ 2 _ rfl; (with_reducible repeat (first | refine zq0 ?_ _ | refine zq2 ?_ | refine zq1 ?_ _)); refine blk_put (cs := #[.int .u64 t124, .int .u64 x108001_3, .int .u64 x108002_3, .bool x108003_3]) ?_ 1 _ rfl; (with_reducible repeat (first | refine zq0 ?_ _ | refine zq2 ?_ | refine zq1 ?_ _)); refine blk_put (cs := #[.int .u64 x108000_3, .int .u64 x108001_3, .int .u64 x108002_3, .bool x108003_3]) ?_ 0 _ rfl; (with_reducible repeat (first | refine zq0 ?_ _ | refine zq2 ?_ | refine zq1 ?_ _)); exact BK107.out⟩
                          have n3_ : Aside0 (((((w47.setCell ⟨gb107, 0, none⟩ (.int .u64 t124)).setCell ⟨gb107, 1, none⟩ (.int .u64 t125)).setCell ⟨gb107, 2, none⟩ (.int .u64 t126)).setCell ⟨gb107, 3, none⟩ (.bool t127)).heap[gb118]? = some (.cells #[.int .u64 x119000_3, .int .u64 x119001_3, .int .u64 x119002_3, .bool x119003_3] 26 (0, 0))) := ⟨by (with_reducible repeat (first | refine zq0 ?_ _ | refine zq2 ?_ | refine zq1 ?_ _)); refine zq11 ?_ NB118_107.out _; (with_reducible repeat (first | refine zq0 ?_ _ | refine zq2 ?_ | refine zq1 ?_ _)); refine zq11 ?_ NB118_107.out _; (with_reducible repeat (first | refine zq0 ?_ _ | refine zq2 ?_ | refine zq1 ?_ _)); refine zq11 ?_ NB118_107.out _; (with_reducible repeat (first | refine zq0 ?_ _ | refine zq2 ?_ | refine zq1 ?_ _)); refine zq11 ?_ NB118_107.out _; (with_reducible repeat (first | refine zq0 ?_ _ | refine zq2 ?_ | refine zq1 ?_ _)); exact BK118.out⟩
                          have n4_ : Aside0 (((((w47.setCell ⟨gb107, 0, none⟩ (.int .u64 t124)).setCell ⟨gb107, 1, none⟩ (.int .u64 t125)).setCell ⟨gb107, 2, none⟩ (.int .u64 t126)).setCell ⟨gb107, 3, none⟩ (.bool t127)).heap[gb119]? = some (.cells #[.int .u64 x120000_3, .int .u64 x120001_3, .int .u64 x120002_3, .bool x120003_3] 26 (0, 0))) := ⟨by (with_reducible repeat (first | refine zq0 ?_ _ | refine zq2 ?_ | refine zq1 ?_ _)); refine zq11 ?_ NB119_107.out _; (with_reducible repeat (first | refine zq0 ?_ _ | refine zq2 ?_ | refine zq1 ?_ _)); refine zq11 ?_ NB119_107.out _; (with_reducible repeat (first | refine zq0 ?_ _ | refine zq2 ?_ | refine zq1 ?_ _)); refine zq11 ?_ NB119_107.out _; (with_reducible repeat (first | refine zq0 ?_ _ | refine zq2 ?_ | refine zq1 ?_ _)); refine zq11 ?_ NB119_107.out _; (with_reducible repeat (first | refine zq0 ?_ _ | refine zq2 ?_ | refine zq1 ?_ _)); exact BK119.out⟩
                          have n5_ : Aside0 (Below w.heap.size w ((((w47.setCell ⟨gb107, 0, none⟩ (.int .u64 t124)).setCell ⟨gb107, 1, none⟩ (.int .u64 t125)).setCell ⟨gb107, 2, none⟩ (.int .u64 t126)).setCell ⟨gb107, 3, none⟩ (.bool t127))) := ⟨by repeat (first | (with_reducible first | exact HB.out | apply zq9 | apply zq7 | apply zq8 | refine zq6 ?_ GE101.out | refine zq6 ?_ GE107.out | refine zq6 ?_ GE118.out | refine zq6 ?_ GE119.out) | exact HB.out)⟩
                          (try clear HO_11)
                          (try clear BK101)
                          (try clear BK107)
                          (try clear BK118)
                          (try clear BK119)
                          (try clear HB)
                          generalize ((((w47.setCell ⟨gb107, 0, none⟩ (.int .u64 t124)).setCell ⟨gb107, 1, none⟩ (.int .u64 t125)).setCell ⟨gb107, 2, none⟩ (.int .u64 t126)).setCell ⟨gb107, 3, none⟩ (.bool t127)) = w52 at n0_ n1_ n2_ n3_ n4_ n5_ ⊢
                          have HO_11 := n0_
                          have BK101 := n1_
                          have BK107 := n2_
                          have BK118 := n3_
                          have BK119 := n4_
                          have HB := n5_
                          clear n0_ n1_ n2_ n3_ n4_ n5_
                          have n0_ := zq3 (Kd.R_drew HO_11.out)
                          have n1_ := zq3 (zq2 BK101.out)
                          have n2_ := zq3 (zq2 BK107.out)
                          have n3_ := zq3 (zq2 BK118.out)
                          have n4_ := zq3 (zq2 BK119.out)
                          have n5_ := zq3 (zq8 HB.out)
                          clear HO_11
                          clear BK101
                          clear BK107
                          clear BK118
                          clear BK119
                          clear HB
                          have HO_11 := n0_
                          have BK101 := n1_
                          have BK107 := n2_
                          have BK118 := n3_
                          have BK119 := n4_
                          have HB := n5_
                          clear n0_ n1_ n2_ n3_ n4_ n5_
                          have p129 : 0 ≤ (x15_3 : Int) := of_decide_eq_true (by first | (with_reducible assumption) | assumption)
                          have q129 : x15_3 < (t115.length : Int) := of_decide_eq_true (by first | (with_reducible assumption) | assumption)
                          obtain ⟨ad129, e129, hx129_0⟩ := Kd.at_int (Kd.R_reads' HO_11.out).2.2 x15_3 p129 q129
                          cases e129
                          replace p129 := eq_true p129
                          replace q129 := eq_true q129
                          have p130 : 0 ≤ (x15_3 : Int) := of_decide_eq_true (by first | (with_reducible assumption) | assumption)
                          have q130 : x15_3 < (l1.length : Int) := of_decide_eq_true (by first | (with_reducible assumption) | assumption)
                          obtain ⟨ad130, e130, hx130_0, hx130_1, hx130_2⟩ := at_T28 HR1.out x15_3 p130 q130
                          have hw130_2 := hx130_2
                          have hw130_1 := hx130_1
                          have hw130_0 := hx130_0
                          obtain rfl : ad121 = ad130 := (by injection e130)
                          replace hx130_0 := (HB.out.cell (World.block_lt_of_cell? w _ hx130_0)).trans hx130_0
                          replace hx130_1 := (HB.out.cell (World.block_lt_of_cell? w _ hx130_1)).trans hx130_1
                          replace hx130_2 := (HB.out.cell (World.block_lt_of_cell? w _ hx130_2)).trans hx130_2
                          replace p130 := eq_true p130
                          replace q130 := eq_true q130
                          have p131 : 0 ≤ (x15_3 : Int) := of_decide_eq_true (by first | (with_reducible assumption) | assumption)
                          have q131 : x15_3 < (l1.length : Int) := of_decide_eq_true (by first | (with_reducible assumption) | assumption)
                          obtain ⟨ad131, e131, hx131_0, hx131_1, hx131_2⟩ := at_T28 HR1.out x15_3 p131 q131
                          have hw131_2 := hx131_2
                          have hw131_1 := hx131_1
                          have hw131_0 := hx131_0
                          obtain rfl : ad121 = ad131 := (by injection e131)
                          replace hx131_0 := (HB.out.cell (World.block_lt_of_cell? w _ hx131_0)).trans hx131_0
                          replace hx131_1 := (HB.out.cell (World.block_lt_of_cell? w _ hx131_1)).trans hx131_1
                          replace hx131_2 := (HB.out.cell (World.block_lt_of_cell? w _ hx131_2)).trans hx131_2
                          replace p131 := eq_true p131
                          replace q131 := eq_true q131
                          refine start_ (n := 22) (S := fun w' => w'.cell? ⟨gb101, 0, none⟩ = some (.int .i64 a0_0) ∧ w'.cell? ⟨gb101, 1, none⟩ = some (.bool a0_1) ∧ w'.cell? ⟨gb101, 2, none⟩ = some (.int .u64 a0_2) ∧ w'.cell? ⟨gb101, 3, none⟩ = some (.int .u64 a0_3) ∧ w'.cell? ⟨gb101, 4, none⟩ = some (.int .u64 a0_4) ∧ w'.cell? ⟨gb101, 5, none⟩ = some (.int .u64 a0_5) ∧ w'.cell? ⟨gb118, 0, none⟩ = some (.int .u64 x119000_3) ∧ w'.cell? ⟨gb118, 1, none⟩ = some (.int .u64 x119001_3) ∧ w'.cell? ⟨gb118, 2, none⟩ = some (.int .u64 x119002_3) ∧ w'.cell? ⟨gb118, 3, none⟩ = some (.bool x119003_3) ∧ w'.cell? (ad129.add (x15_3).toNat) = some (.int .u64 (rd t115 x15_3)) ∧ w'.cell? (ad121.add ((x15_3).toNat * 3)) = some (.int .u64 ((rd_T28 l1 x15_3).f0)) ∧ w'.cell? ⟨(ad121.add ((x15_3).toNat * 3)).block, (ad121.add ((x15_3).toNat * 3)).off + 1, none⟩ = some (.int .i64 ((rd_T28 l1 x15_3).f1)) ∧ w'.cell? ⟨(ad121.add ((x15_3).toNat * 3)).block, (ad121.add ((x15_3).toNat * 3)).off + 2, none⟩ = some (.int .i64 ((rd_T28 l1 x15_3).f2)) ∧ w'.cell? (ad121.add ((x15_3).toNat * 3)) = some (.int .u64 ((rd_T28 l1 x15_3).f0)) ∧ w'.cell? ⟨(ad121.add ((x15_3).toNat * 3)).block, (ad121.add ((x15_3).toNat * 3)).off + 1, none⟩ = some (.int .i64 ((rd_T28 l1 x15_3).f1)) ∧ w'.cell? ⟨(ad121.add ((x15_3).toNat * 3)).block, (ad121.add ((x15_3).toNat * 3)).off + 2, none⟩ = some (.int .i64 ((rd_T28 l1 x15_3).f2))) (ds := [20]) #[false, false, false, false, false, false, false, false, false, false, false, false, false, false, false, false, false, false, false, false, false, false] (by kernel_rfl) rfl rfl ⟨(zq5 BK101.out 0).trans rfl, (zq5 BK101.out 1).trans rfl, (zq5 BK101.out 2).trans rfl, (zq5 BK101.out 3).trans rfl, (zq5 BK101.out 4).trans rfl, (zq5 BK101.out 5).trans rfl, (zq5 BK118.out 0).trans rfl, (zq5 BK118.out 1).trans rfl, (zq5 BK118.out 2).trans rfl, (zq5 BK118.out 3).trans rfl, hx129_0, ((HB.out.cell (World.block_lt_of_cell? w _ hw130_0)).trans hw130_0), ((HB.out.cell (World.block_lt_of_cell? w _ hw130_1)).trans hw130_1), ((HB.out.cell (World.block_lt_of_cell? w _ hw130_2)).trans hw130_2), ((HB.out.cell (World.block_lt_of_cell? w _ hw131_0)).trans hw131_0), ((HB.out.cell (World.block_lt_of_cell? w _ hw131_1)).trans hw131_1), ((HB.out.cell (World.block_lt_of_cell? w _ hw131_2)).trans hw131_2)⟩ (fun hHeld => ?_); refine with_tabW weighbridgetop_WholeClock.tab21 weighbridgetop_WholeClock.bits21 (fun HT_ HW_ => ?_)
                          generalize w52.drew = w53 at HO_11 BK101 BK107 BK118 BK119 HB hx129_0 hx130_0 hx130_1 hx130_2 hx131_0 hx131_1 hx131_2 hHeld ⊢
                          refine pure_ (i := 2) (N := some 96) (v := ?_) (a' := ?_) #[false, false, true, false, false, false, false, false, false, false, false, false, false, false, false, false, false, false, false, false, false, false] rfl rfl (any_of HT_.out (by kernel_rfl)) (fun _ _ _ h => h) (Or.inl ⟨by rfl, ?_⟩) ?_ ?_
                          rotate_left
                          · intro w'
                            go_simp
                            with_reducible rfl
                          rotate_left
                          · simp only [Act.put, List.setIfInBounds_toArray, List.set_cons_zero, List.set_cons_succ, i64_w, i32_w]
                            rfl
                          refine pure_ (i := 3) (N := some 97) (v := ?_) (a' := ?_) #[false, false, true, true, false, false, false, false, false, false, false, false, false, false, false, false, false, false, false, false, false, false] rfl rfl (any_of HT_.out (by kernel_rfl)) (fun _ _ _ h => h) (Or.inl ⟨by rfl, ?_⟩) ?_ ?_
                          rotate_left
                          · intro w'
                            go_simp
                            with_reducible rfl
                          rotate_left
                          · simp only [Act.put, List.setIfInBounds_toArray, List.set_cons_zero, List.set_cons_succ, i64_w, i32_w]
                            rfl
                          refine pure_ (i := 4) (N := some 98) (v := ?_) (a' := ?_) #[false, false, true, true, true, false, false, false, false, false, false, false, false, false, false, false, false, false, false, false, false, false] rfl rfl (any_of HT_.out (by kernel_rfl)) (fun _ _ _ h => h) (Or.inl ⟨by rfl, ?_⟩) ?_ ?_
                          rotate_left
                          · intro w'
                            go_simp
                            with_reducible rfl
                          rotate_left
                          · simp only [Act.put, List.setIfInBounds_toArray, List.set_cons_zero, List.set_cons_succ, i64_w, i32_w]
                            rfl
                          refine pure_ (i := 6) (N := some 100) (v := ?_) (a' := ?_) #[false, false, true, true, true, false, true, false, false, false, false, false, false, false, false, false, false, false, false, false, false, false] rfl rfl (any_of HT_.out (by kernel_rfl)) (fun _ _ _ h => h) (Or.inl ⟨by rfl, ?_⟩) ?_ ?_
                          rotate_left
                          · intro w'
                            go_simp
                            with_reducible rfl
                          rotate_left
                          · simp only [Act.put, List.setIfInBounds_toArray, List.set_cons_zero, List.set_cons_succ, i64_w, i32_w]
                            rfl
                          refine pure_ (i := 7) (N := some 101) (v := ?_) (a' := ?_) #[false, false, true, true, true, false, true, true, false, false, false, false, false, false, false, false, false, false, false, false, false, false] rfl rfl (any_of HT_.out (by kernel_rfl)) (fun _ _ _ h => h) (Or.inl ⟨by rfl, ?_⟩) ?_ ?_
                          rotate_left
                          · intro w'
                            go_simp
                            with_reducible rfl
                          rotate_left
                          · simp only [Act.put, List.setIfInBounds_toArray, List.set_cons_zero, List.set_cons_succ, i64_w, i32_w]
                            rfl
                          refine pure_ (i := 8) (N := some 102) (v := ?_) (a' := ?_) #[false, false, true, true, true, false, true, true, true, false, false, false, false, false, false, false, false, false, false, false, false, false] rfl rfl (any_of HT_.out (by kernel_rfl)) (fun _ _ _ h => h) (Or.inl ⟨by rfl, ?_⟩) ?_ ?_
                          rotate_left
                          · intro w'
                            go_simp
                            with_reducible rfl
                          rotate_left
                          · simp only [Act.put, List.setIfInBounds_toArray, List.set_cons_zero, List.set_cons_succ, i64_w, i32_w]
                            rfl
                          refine pure_ (i := 9) (N := some 103) (v := ?_) (a' := ?_) #[false, false, true, true, true, false, true, true, true, true, false, false, false, false, false, false, false, false, false, false, false, false] rfl rfl (any_of HT_.out (by kernel_rfl)) (fun _ _ _ h => h) (Or.inl ⟨by rfl, ?_⟩) ?_ ?_
                          rotate_left
                          · intro w'
                            go_simp
                            with_reducible rfl
                          rotate_left
                          · simp only [Act.put, List.setIfInBounds_toArray, List.set_cons_zero, List.set_cons_succ, i64_w, i32_w]
                            rfl
                          refine pure_ (i := 11) (N := some 105) (v := ?_) (a' := ?_) #[false, false, true, true, true, false, true, true, true, true, false, true, false, false, false, false, false, false, false, false, false, false] rfl rfl (any_of HT_.out (by kernel_rfl)) (fun _ _ _ h => h) (Or.inl ⟨by rfl, ?_⟩) ?_ ?_
                          rotate_left
                          · intro w'
                            go_simp
                            with_reducible rfl
                          rotate_left
                          · simp only [Act.put, List.setIfInBounds_toArray, List.set_cons_zero, List.set_cons_succ, i64_w, i32_w]
                            rfl
                          refine pure_ (i := 12) (N := some 106) (v := ?_) (a' := ?_) #[false, false, true, true, true, false, true, true, true, true, false, true, true, false, false, false, false, false, false, false, false, false] rfl rfl (any_of HT_.out (by kernel_rfl)) (fun _ _ _ h => h) (Or.inl ⟨by rfl, ?_⟩) ?_ ?_
                          rotate_left
                          · intro w'
                            go_simp
                            with_reducible rfl
                          rotate_left
                          · simp only [Act.put, List.setIfInBounds_toArray, List.set_cons_zero, List.set_cons_succ, i64_w, i32_w]
                            rfl
                          refine pure_ (i := 13) (N := some 107) (v := ?_) (a' := ?_) #[false, false, true, true, true, false, true, true, true, true, false, true, true, true, false, false, false, false, false, false, false, false] rfl rfl (any_of HT_.out (by kernel_rfl)) (fun _ _ _ h => h) (Or.inl ⟨by rfl, ?_⟩) ?_ ?_
                          rotate_left
                          · intro w'
                            go_simp
                            with_reducible rfl
                          rotate_left
                          · simp only [Act.put, List.setIfInBounds_toArray, List.set_cons_zero, List.set_cons_succ, i64_w, i32_w]
                            rfl
                          refine pure_ (i := 14) (N := some 108) (v := ?_) (a' := ?_) #[false, false, true, true, true, false, true, true, true, true, false, true, true, true, true, false, false, false, false, false, false, false] rfl rfl (any_of HT_.out (by kernel_rfl)) (fun _ _ _ h => h) (Or.inl ⟨by rfl, ?_⟩) ?_ ?_
                          rotate_left
                          · intro w'
                            go_simp
                            with_reducible rfl
                          rotate_left
                          · simp only [Act.put, List.setIfInBounds_toArray, List.set_cons_zero, List.set_cons_succ, i64_w, i32_w]
                            rfl
                          refine take_ (i := 0) (N := some 94) (v := ?_) (a' := ?_) #[true, false, true, true, true, false, true, true, true, true, false, true, true, true, true, false, false, false, false, false, false, false] rfl rfl (take_ofW HT_.out HW_.out (by kernel_rfl)) (fun _ _ _ h => h) (Or.inl ⟨by rfl, ?_⟩) hHeld ?_ ?_
                          rotate_left
                          · rintro w' ⟨s0, s1, s2, s3, s4, s5, s6, s7, s8, s9, s10, s11, s12, s13, s14, s15, s16⟩
                            go_simp
                            with_reducible rfl
                          rotate_left
                          · simp only [Act.put, List.setIfInBounds_toArray, List.set_cons_zero, List.set_cons_succ, i64_w, i32_w]
                            rfl
                          refine take_ (i := 1) (N := some 95) (v := ?_) (a' := ?_) #[true, true, true, true, true, false, true, true, true, true, false, true, true, true, true, false, false, false, false, false, false, false] rfl rfl (take_ofW HT_.out HW_.out (by kernel_rfl)) (fun _ _ _ h => h) (Or.inl ⟨by rfl, ?_⟩) hHeld ?_ ?_
                          rotate_left
                          · rintro w' ⟨s0, s1, s2, s3, s4, s5, s6, s7, s8, s9, s10, s11, s12, s13, s14, s15, s16⟩
                            go_simp
                            with_reducible rfl
                          rotate_left
                          · simp only [Act.put, List.setIfInBounds_toArray, List.set_cons_zero, List.set_cons_succ, i64_w, i32_w]
                            rfl
                          refine take_ (i := 5) (N := some 99) (v := ?_) (a' := ?_) #[true, true, true, true, true, true, true, true, true, true, false, true, true, true, true, false, false, false, false, false, false, false] rfl rfl (take_ofW HT_.out HW_.out (by kernel_rfl)) (fun _ _ _ h => h) (Or.inl ⟨by rfl, ?_⟩) hHeld ?_ ?_
                          rotate_left
                          · rintro w' ⟨s0, s1, s2, s3, s4, s5, s6, s7, s8, s9, s10, s11, s12, s13, s14, s15, s16⟩
                            go_simp
                            with_reducible rfl
                          rotate_left
                          · simp only [Act.put, List.setIfInBounds_toArray, List.set_cons_zero, List.set_cons_succ, i64_w, i32_w]
                            rfl
                          refine take_ (i := 10) (N := some 104) (v := ?_) (a' := ?_) #[true, true, true, true, true, true, true, true, true, true, true, true, true, true, true, false, false, false, false, false, false, false] rfl rfl (take_ofW HT_.out HW_.out (by kernel_rfl)) (fun _ _ _ h => h) (Or.inl ⟨by rfl, ?_⟩) hHeld ?_ ?_
                          rotate_left
                          · rintro w' ⟨s0, s1, s2, s3, s4, s5, s6, s7, s8, s9, s10, s11, s12, s13, s14, s15, s16⟩
                            go_simp
                            with_reducible rfl
                          rotate_left
                          · simp only [Act.put, List.setIfInBounds_toArray, List.set_cons_zero, List.set_cons_succ, i64_w, i32_w]
                            rfl
                          refine take_ (i := 15) (N := some 109) (v := ?_) (a' := ?_) #[true, true, true, true, true, true, true, true, true, true, true, true, true, true, true, true, false, false, false, false, false, false] rfl rfl (take_ofW HT_.out HW_.out (by kernel_rfl)) (fun _ _ _ h => h) (Or.inl ⟨by rfl, ?_⟩) hHeld ?_ ?_
                          rotate_left
                          · rintro w' ⟨s0, s1, s2, s3, s4, s5, s6, s7, s8, s9, s10, s11, s12, s13, s14, s15, s16⟩
                            go_simp
                            with_reducible rfl
                          rotate_left
                          · simp only [Act.put, List.setIfInBounds_toArray, List.set_cons_zero, List.set_cons_succ, i64_w, i32_w]
                            rfl
                          refine one_ (i := 16) (N := some 110) #[true, true, true, true, true, true, true, true, true, true, true, true, true, true, true, true, true, false, false, false, false, false] rfl rfl (one_of HT_.out (by kernel_rfl)) (by decide) (fun K hK => ?_)
                          refine goes_ Try.func22 (by kernel_rfl) rfl #[.agg #[.int .i64 a0_0, .bool a0_1, .int .u64 a0_2, .int .u64 a0_3, .int .u64 a0_4, .int .u64 a0_5], .agg #[.int .u64 x119000_3, .int .u64 x119001_3, .int .u64 x119002_3, .bool x119003_3], .int .u64 (rd t115 x15_3), .int .i64 ((rd_T28 l1 x15_3).f1), .int .i64 ((rd_T28 l1 x15_3).f2)] (by rfl) rfl rfl (by (try simp only [List.map_toArray, List.map_cons, List.map_nil]); first | done | rfl | (simp only [List.length_drop, List.length_take]; rfl)) ?_
                          with_reducible refine (single_Step.calls k3 a0_0 a0_1 a0_2 a0_3 a0_4 a0_5 x119000_3 x119001_3 x119002_3 x119003_3 (rd t115 x15_3) ((rd_T28 l1 x15_3).f1) ((rd_T28 l1 x15_3).f2) t132 t133 t134 t135 t136 _ A44.out).mono ?_
                          rintro e w54 ⟨rfl, hb⟩
                          have HS10_ := (hb.cell (World.block_lt_of_cell? _ _ (hHeld.2.2.2.2.2.2.2.2.2.2.1))).trans (hHeld.2.2.2.2.2.2.2.2.2.2.1)
                          refine ⟨_, rfl, ?_⟩
                          have n0_ := zq3 (Kd.R_below (by (with_reducible repeat (first | apply Kd.R_alloc | apply Kd.R_drewN | apply Kd.R_drew)); exact HO_11.out) hb)
                          have n1_ := zq3 (zq10 (g := gb101) (o := .cells #[.int .i64 a0_0, .bool a0_1, .int .u64 a0_2, .int .u64 a0_3, .int .u64 a0_4, .int .u64 a0_5] 24 (0, 0)) (by (with_reducible repeat (first | refine zq0 ?_ _ | refine zq2 ?_ | refine zq1 ?_ _)); exact BK101.out) hb)
                          have n2_ := zq3 (zq10 (g := gb107) (o := .cells #[.int .u64 t124, .int .u64 t125, .int .u64 t126, .bool t127] 26 (0, 0)) (by (with_reducible repeat (first | refine zq0 ?_ _ | refine zq2 ?_ | refine zq1 ?_ _)); exact BK107.out) hb)
                          have n3_ := zq3 (zq10 (g := gb118) (o := .cells #[.int .u64 x119000_3, .int .u64 x119001_3, .int .u64 x119002_3, .bool x119003_3] 26 (0, 0)) (by (with_reducible repeat (first | refine zq0 ?_ _ | refine zq2 ?_ | refine zq1 ?_ _)); exact BK118.out) hb)
                          have n4_ := zq3 (zq10 (g := gb119) (o := .cells #[.int .u64 x120000_3, .int .u64 x120001_3, .int .u64 x120002_3, .bool x120003_3] 26 (0, 0)) (by (with_reducible repeat (first | refine zq0 ?_ _ | refine zq2 ?_ | refine zq1 ?_ _)); exact BK119.out) hb)
                          have n5_ := zq3 (below_step (by repeat (first | (with_reducible first | exact HB.out | apply zq9 | apply zq7 | apply zq8 | refine zq6 ?_ GE101.out | refine zq6 ?_ GE107.out | refine zq6 ?_ GE118.out | refine zq6 ?_ GE119.out) | exact HB.out)) hb)
                          clear HO_11
                          clear BK101
                          clear BK107
                          clear BK118
                          clear BK119
                          clear HB
                          have HO_11 := n0_
                          have BK101 := n1_
                          have BK107 := n2_
                          have BK118 := n3_
                          have BK119 := n4_
                          have HB := n5_
                          clear n0_ n1_ n2_ n3_ n4_ n5_
                          (try clear hb)
                          (try clear hb2)
                          (try clear hk)
                          (try clear hi)
                          refine hK.out _ _ ⟨(zq5 BK101.out 0).trans rfl, (zq5 BK101.out 1).trans rfl, (zq5 BK101.out 2).trans rfl, (zq5 BK101.out 3).trans rfl, (zq5 BK101.out 4).trans rfl, (zq5 BK101.out 5).trans rfl, (zq5 BK118.out 0).trans rfl, (zq5 BK118.out 1).trans rfl, (zq5 BK118.out 2).trans rfl, (zq5 BK118.out 3).trans rfl, HS10_, ((HB.out.cell (World.block_lt_of_cell? w _ hw130_0)).trans hw130_0), ((HB.out.cell (World.block_lt_of_cell? w _ hw130_1)).trans hw130_1), ((HB.out.cell (World.block_lt_of_cell? w _ hw130_2)).trans hw130_2), ((HB.out.cell (World.block_lt_of_cell? w _ hw131_0)).trans hw131_0), ((HB.out.cell (World.block_lt_of_cell? w _ hw131_1)).trans hw131_1), ((HB.out.cell (World.block_lt_of_cell? w _ hw131_2)).trans hw131_2)⟩ (fun hHeld => ?_)
                          clear hK K
                          refine norm_ (a' := ?_) ?_ ?_
                          rotate_left
                          · show Act.put _ (some 110) _ = _
                            simp only [Act.put, List.setIfInBounds_toArray, List.set_cons_zero, List.set_cons_succ, i64_w, i32_w]
                            rfl
                          refine pure_ (i := 17) (N := some 93) (v := ?_) (a' := ?_) #[true, true, true, true, true, true, true, true, true, true, true, true, true, true, true, true, true, true, false, false, false, false] rfl rfl (any_of HT_.out (by kernel_rfl)) (fun _ _ _ h => h) (Or.inl ⟨by rfl, ?_⟩) ?_ ?_
                          rotate_left
                          · intro w'
                            go_simp
                            with_reducible rfl
                          rotate_left
                          · simp only [Act.put, List.setIfInBounds_toArray, List.set_cons_zero, List.set_cons_succ, i64_w, i32_w]
                            rfl
                          refine pure_ (i := 18) (N := some 111) (v := ?_) (a' := ?_) #[true, true, true, true, true, true, true, true, true, true, true, true, true, true, true, true, true, true, true, false, false, false] rfl rfl (any_of HT_.out (by kernel_rfl)) (fun _ _ _ h => h) (Or.inl ⟨by rfl, ?_⟩) ?_ ?_
                          rotate_left
                          · intro w'
                            go_simp
                            with_reducible rfl
                          rotate_left
                          · simp only [Act.put, List.setIfInBounds_toArray, List.set_cons_zero, List.set_cons_succ, i64_w, i32_w]
                            rfl
                          refine pure_ (i := 19) (N := some 112) (v := ?_) (a' := ?_) #[true, true, true, true, true, true, true, true, true, true, true, true, true, true, true, true, true, true, true, true, false, false] rfl rfl (any_of HT_.out (by kernel_rfl)) (fun _ _ _ h => h) (Or.inl ⟨by rfl, ?_⟩) ?_ ?_
                          rotate_left
                          · intro w'
                            go_simp
                            with_reducible rfl
                          rotate_left
                          · simp only [Act.put, List.setIfInBounds_toArray, List.set_cons_zero, List.set_cons_succ, i64_w, i32_w]
                            rfl
                          refine last_ (i := 20) (N := none) #[true, true, true, true, true, true, true, true, true, true, true, true, true, true, true, true, true, true, true, true, true, false] rfl rfl (one_of HT_.out (by kernel_rfl)) (by decide) (fun K hK => ?_)
                          have hs55 : w54.cell? ⟨gb118, 0, none⟩ = some (.int .u64 x119000_3) := (zq5 BK118.out 0).trans rfl
                          have hfs55 := zq4 BK118.out 0
                          have hns55_0 := NB101_118.out
                          have hns55_1 := NB107_118.out
                          have hns55_3 := NB119_118.out
                          have hms55_0 := NB118_101.out
                          have hms55_1 := NB118_107.out
                          have hms55_3 := NB118_119.out
                          have hs56 : w54.cell? ⟨gb118, 1, none⟩ = some (.int .u64 x119001_3) := (zq5 BK118.out 1).trans rfl
                          have hfs56 := zq4 BK118.out 1
                          have hns56_0 := NB101_118.out
                          have hns56_1 := NB107_118.out
                          have hns56_3 := NB119_118.out
                          have hms56_0 := NB118_101.out
                          have hms56_1 := NB118_107.out
                          have hms56_3 := NB118_119.out
                          have hs57 : w54.cell? ⟨gb118, 2, none⟩ = some (.int .u64 x119002_3) := (zq5 BK118.out 2).trans rfl
                          have hfs57 := zq4 BK118.out 2
                          have hns57_0 := NB101_118.out
                          have hns57_1 := NB107_118.out
                          have hns57_3 := NB119_118.out
                          have hms57_0 := NB118_101.out
                          have hms57_1 := NB118_107.out
                          have hms57_3 := NB118_119.out
                          have hs58 : w54.cell? ⟨gb118, 3, none⟩ = some (.bool x119003_3) := (zq5 BK118.out 3).trans rfl
                          have hfs58 := zq4 BK118.out 3
                          have hns58_0 := NB101_118.out
                          have hns58_1 := NB107_118.out
                          have hns58_3 := NB119_118.out
                          have hms58_0 := NB118_101.out
                          have hms58_1 := NB118_107.out
                          have hms58_3 := NB118_119.out
                          refine skip_ (w1 := ?_) (by rfl) rfl ?_ ?_
                          rotate_left
                          · go_simp
                            rfl
                          refine hK.out _ _ ?_
                          clear hK K
                          refine pure_ (i := 21) (N := some 17) (v := ?_) (a' := ?_) #[true, true, true, true, true, true, true, true, true, true, true, true, true, true, true, true, true, true, true, true, true, true] rfl rfl (any_of HT_.out (by kernel_rfl)) (fun _ _ _ h => h) (Or.inl ⟨by rfl, ?_⟩) ?_ ?_
                          rotate_left
                          · intro w'
                            go_simp
                            with_reducible rfl
                          rotate_left
                          · simp only [Act.put, List.setIfInBounds_toArray, List.set_cons_zero, List.set_cons_succ, i64_w, i32_w]
                            rfl
                          refine done_ (done_of HT_.out (by kernel_rfl)) ?_
                          go_upto_region 22 with (fail)
                          go_cut [129] (fun v129 wc => ∃ (kq : Nat) (x129_44 : Bool), v129 = .bool x129_44 ∧ Aside0 (weighbridgetop_WholeClock.j3 kq l1 a2 t115 x14_3 x15_3 t128 x129_44 a0_0 a0_1 a0_2 a0_3 a0_4 a0_5 t124 t125 t126 t127 t132 t133 t134 t135 x120000_3 x120001_3 x120002_3 x120003_3 = some r) ∧ Aside0 (kq ≤ k3) ∧ Aside0 (Kd.R (Kd.int .u64) 22 wc w.heap.size (fun _ => True) (.slice (some ad129) t115.length co27) t115) ∧ Aside0 (wc.heap[gb101]? = some (.cells #[.int .i64 a0_0, .bool a0_1, .int .u64 a0_2, .int .u64 a0_3, .int .u64 a0_4, .int .u64 a0_5] 24 (0, 0))) ∧ Aside0 (wc.heap[gb107]? = some (.cells #[.int .u64 t124, .int .u64 t125, .int .u64 t126, .bool t127] 26 (0, 0))) ∧ Aside0 (wc.heap[gb118]? = some (.cells #[.int .u64 t132, .int .u64 t133, .int .u64 t134, .bool t135] 26 (0, 0))) ∧ Aside0 (wc.heap[gb119]? = some (.cells #[.int .u64 x120000_3, .int .u64 x120001_3, .int .u64 x120002_3, .bool x120003_3] 26 (0, 0))) ∧ Aside0 (Below w.heap.size w wc))
                          case first =>
                            have H := HC45.out
                            clear HC45
                            by_cases c59 : t128 = t136
                            · rw [if_pos c59] at H
                              have c59b0 : (t128 == t136) = true := beq_iff_eq.mpr c59
                              have c59b1 : (t128 != t136) = false := bne_eq_false_iff_eq.mpr c59
                              clear c59
                              (first | rw [c59b0] | (simp only [i64_w, i32_w]; rw [c59b0]) | skip)
                              by_cases c60 : t124 = t132
                              · rw [if_pos c60] at H
                                have c60b0 : (t124 == t132) = true := beq_iff_eq.mpr c60
                                have c60b1 : (t124 != t132) = false := bne_eq_false_iff_eq.mpr c60
                                clear c60
                                have H' := zq3 H
                                clear H
                                have hnb61 := NB107_101.out
                                have hnc61 := NB101_107.out
                                have hnb62 := NB107_118.out
                                have hnc62 := NB118_107.out
                                have hnb63 := NB107_119.out
                                have hnc63 := NB119_107.out
                                have hcz64_0 : w54.cell? ⟨gb107, 0, none⟩ = some (.int .u64 t124) := (zq5 BK107.out 0).trans rfl
                                have hcz64_1 : w54.cell? ⟨gb107, 1, none⟩ = some (.int .u64 t125) := (zq5 BK107.out 1).trans rfl
                                have hcz64_2 : w54.cell? ⟨gb107, 2, none⟩ = some (.int .u64 t126) := (zq5 BK107.out 2).trans rfl
                                have hcz64_3 : w54.cell? ⟨gb107, 3, none⟩ = some (.bool t127) := (zq5 BK107.out 3).trans rfl
                                have hfz64_0 := zq4 BK107.out 0
                                have hfz64_1 := zq4 BK107.out 1
                                have hfz64_2 := zq4 BK107.out 2
                                have hfz64_3 := zq4 BK107.out 3
                                have hnb65 := NB118_101.out
                                have hnc65 := NB101_118.out
                                have hnb66 := NB118_119.out
                                have hnc66 := NB119_118.out
                                have hcz67_0 : w54.cell? ⟨gb118, 0, none⟩ = some (.int .u64 x119000_3) := (zq5 BK118.out 0).trans rfl
                                have hcz67_1 : w54.cell? ⟨gb118, 1, none⟩ = some (.int .u64 x119001_3) := (zq5 BK118.out 1).trans rfl
                                have hcz67_2 : w54.cell? ⟨gb118, 2, none⟩ = some (.int .u64 x119002_3) := (zq5 BK118.out 2).trans rfl
                                have hcz67_3 : w54.cell? ⟨gb118, 3, none⟩ = some (.bool x119003_3) := (zq5 BK118.out 3).trans rfl
                                have hfz67_0 := zq4 BK118.out 0
                                have hfz67_1 := zq4 BK118.out 1
                                have hfz67_2 := zq4 BK118.out 2
                                have hfz67_3 := zq4 BK118.out 3
                                go_wp2
                                go_meet
                                case rel => exact ⟨_, ((t125 != t133)), (by first | rfl | (simp; done) | (simp [*]; done)), H', ⟨by have := HJ4.out; have := HK2.out; have := HK3.out; first | omega | exact Nat.le_refl _⟩, ⟨by (with_reducible repeat (first | apply Kd.R_alloc | apply Kd.R_drewN | apply Kd.R_drew)); exact Kd.R_mono (Kd.R_far (p := ⟨gb118, 3, none⟩) (Kd.R_far (p := ⟨gb118, 2, none⟩) (Kd.R_far (p := ⟨gb118, 1, none⟩) (Kd.R_far (p := ⟨gb118, 0, none⟩) (Kd.R_types HO_11.out BK118.out (by decide)) (fun _ hk => hk.2) (.int .u64 t132)) (fun _ hk => hk.2) (.int .u64 t133)) (fun _ hk => hk.2) (.int .u64 t134)) (fun _ hk => hk.2) (.bool t135)) (fun _ hk => trivial)⟩, ⟨by (with_reducible repeat (first | refine zq0 ?_ _ | refine zq2 ?_ | refine zq1 ?_ _)); refine zq11 ?_ NB101_118.out _; (with_reducible repeat (first | refine zq0 ?_ _ | refine zq2 ?_ | refine zq1 ?_ _)); refine zq11 ?_ NB101_118.out _; (with_reducible repeat (first | refine zq0 ?_ _ | refine zq2 ?_ | refine zq1 ?_ _)); refine zq11 ?_ NB101_118.out _; (with_reducible repeat (first | refine zq0 ?_ _ | refine zq2 ?_ | refine zq1 ?_ _)); refine zq11 ?_ NB101_118.out _; (with_reducible repeat (first | refine zq0 ?_ _ | refine zq2 ?_ | refine zq1 ?_ _)); exact BK101.out⟩, ⟨by (with_reducible repeat (first | refine zq0 ?_ _ | refine zq2 ?_ | refine zq1 ?_ _)); refine zq11 ?_ NB107_118.out _; (with_reducible repeat (first | refine zq0 ?_ _ | refine zq2 ?_ | refine zq1 ?_ _)); refine zq11 ?_ NB107_118.out _; (with_reducible repeat (first | refine zq0 ?_ _ | refine zq2 ?_ | refine zq1 ?_ _)); refine zq11 ?_ NB107_118.out _; (with_reducible repeat (first | refine zq0 ?_ _ | refine zq2 ?_ | refine zq1 ?_ _)); refine zq11 ?_ NB107_118.out _; (with_reducible repeat (first | refine zq0 ?_ _ | refine zq2 ?_ | refine zq1 ?_ _)); exact BK107.out⟩, ⟨by (with_reducible repeat (first | refine zq0 ?_ _ | refine zq2 ?_ | refine zq1 ?_ _)); refine blk_put (cs := #[.int .u64 t132, .int .u64 t133, .int .u64 t134, .bool x119003_3]) ?_ 3 _ rfl; (with_reducible repeat (first | refine zq0 ?_ _ | refine zq2 ?_ | refine zq1 ?_ _)); refine blk_put (cs := #[.int .u64 t132, .int .u64 t133, .int .u64 x119002_3, .bool x119003_3]) ?_ 2 _ rfl; (with_reducible repeat (first | refine zq0 ?_ _ | refine zq2 ?_ | refine zq1 ?_ _)); refine blk_put (cs := #[.int .u64 t132, .int .u64 x119001_3, .int .u64 x119002_3, .bool x119003_3]) ?_ 1 _ rfl; (with_reducible repeat (first | refine zq0 ?_ _ | refine zq2 ?_ | refine zq1 ?_ _)); refine blk_put (cs := #[.int .u64 x119000_3, .int .u64 x119001_3, .int .u64 x119002_3, .bool x119003_3]) ?_ 0 _ rfl; (with_reducible repeat (first | refine zq0 ?_ _ | refine zq2 ?_ | refine zq1 ?_ _)); exact BK118.out⟩, ⟨by (with_reducible repeat (first | refine zq0 ?_ _ | refine zq2 ?_ | refine zq1 ?_ _)); refine zq11 ?_ NB119_118.out _; (with_reducible repeat (first | refine zq0 ?_ _ | refine zq2 ?_ | refine zq1 ?_ _)); refine zq11 ?_ NB119_118.out _; (with_reducible repeat (first | refine zq0 ?_ _ | refine zq2 ?_ | refine zq1 ?_ _)); refine zq11 ?_ NB119_118.out _; (with_reducible repeat (first | refine zq0 ?_ _ | refine zq2 ?_ | refine zq1 ?_ _)); refine zq11 ?_ NB119_118.out _; (with_reducible repeat (first | refine zq0 ?_ _ | refine zq2 ?_ | refine zq1 ?_ _)); exact BK119.out⟩, ⟨by repeat (first | (with_reducible first | exact HB.out | apply zq9 | apply zq7 | apply zq8 | refine zq6 ?_ GE101.out | refine zq6 ?_ GE107.out | refine zq6 ?_ GE118.out | refine zq6 ?_ GE119.out) | exact HB.out)⟩⟩
                              · rw [if_neg c60] at H
                                have c60b0 : (t124 == t132) = false := beq_eq_false_iff_ne.mpr c60
                                have c60b1 : (t124 != t132) = true := bne_iff_ne.mpr c60
                                have H' := zq3 H
                                clear H
                                have hnb68 := NB107_101.out
                                have hnc68 := NB101_107.out
                                have hnb69 := NB107_118.out
                                have hnc69 := NB118_107.out
                                have hnb70 := NB107_119.out
                                have hnc70 := NB119_107.out
                                have hcz71_0 : w54.cell? ⟨gb107, 0, none⟩ = some (.int .u64 t124) := (zq5 BK107.out 0).trans rfl
                                have hcz71_1 : w54.cell? ⟨gb107, 1, none⟩ = some (.int .u64 t125) := (zq5 BK107.out 1).trans rfl
                                have hcz71_2 : w54.cell? ⟨gb107, 2, none⟩ = some (.int .u64 t126) := (zq5 BK107.out 2).trans rfl
                                have hcz71_3 : w54.cell? ⟨gb107, 3, none⟩ = some (.bool t127) := (zq5 BK107.out 3).trans rfl
                                have hfz71_0 := zq4 BK107.out 0
                                have hfz71_1 := zq4 BK107.out 1
                                have hfz71_2 := zq4 BK107.out 2
                                have hfz71_3 := zq4 BK107.out 3
                                have hnb72 := NB118_101.out
                                have hnc72 := NB101_118.out
                                have hnb73 := NB118_119.out
                                have hnc73 := NB119_118.out
                                have hcz74_0 : w54.cell? ⟨gb118, 0, none⟩ = some (.int .u64 x119000_3) := (zq5 BK118.out 0).trans rfl
                                have hcz74_1 : w54.cell? ⟨gb118, 1, none⟩ = some (.int .u64 x119001_3) := (zq5 BK118.out 1).trans rfl
                                have hcz74_2 : w54.cell? ⟨gb118, 2, none⟩ = some (.int .u64 x119002_3) := (zq5 BK118.out 2).trans rfl
                                have hcz74_3 : w54.cell? ⟨gb118, 3, none⟩ = some (.bool x119003_3) := (zq5 BK118.out 3).trans rfl
                                have hfz74_0 := zq4 BK118.out 0
                                have hfz74_1 := zq4 BK118.out 1
                                have hfz74_2 := zq4 BK118.out 2
                                have hfz74_3 := zq4 BK118.out 3
                                go_wp2
                                go_meet
                                case rel => exact ⟨_, (true), (by first | rfl | (simp; done) | (simp [*]; done)), H', ⟨by have := HJ4.out; have := HK2.out; have := HK3.out; first | omega | exact Nat.le_refl _⟩, ⟨by (with_reducible repeat (first | apply Kd.R_alloc | apply Kd.R_drewN | apply Kd.R_drew)); exact Kd.R_mono (Kd.R_far (p := ⟨gb118, 3, none⟩) (Kd.R_far (p := ⟨gb118, 2, none⟩) (Kd.R_far (p := ⟨gb118, 1, none⟩) (Kd.R_far (p := ⟨gb118, 0, none⟩) (Kd.R_types HO_11.out BK118.out (by decide)) (fun _ hk => hk.2) (.int .u64 t132)) (fun _ hk => hk.2) (.int .u64 t133)) (fun _ hk => hk.2) (.int .u64 t134)) (fun _ hk => hk.2) (.bool t135)) (fun _ hk => trivial)⟩, ⟨by (with_reducible repeat (first | refine zq0 ?_ _ | refine zq2 ?_ | refine zq1 ?_ _)); refine zq11 ?_ NB101_118.out _; (with_reducible repeat (first | refine zq0 ?_ _ | refine zq2 ?_ | refine zq1 ?_ _)); refine zq11 ?_ NB101_118.out _; (with_reducible repeat (first | refine zq0 ?_ _ | refine zq2 ?_ | refine zq1 ?_ _)); refine zq11 ?_ NB101_118.out _; (with_reducible repeat (first | refine zq0 ?_ _ | refine zq2 ?_ | refine zq1 ?_ _)); refine zq11 ?_ NB101_118.out _; (with_reducible repeat (first | refine zq0 ?_ _ | refine zq2 ?_ | refine zq1 ?_ _)); exact BK101.out⟩, ⟨by (with_reducible repeat (first | refine zq0 ?_ _ | refine zq2 ?_ | refine zq1 ?_ _)); refine zq11 ?_ NB107_118.out _; (with_reducible repeat (first | refine zq0 ?_ _ | refine zq2 ?_ | refine zq1 ?_ _)); refine zq11 ?_ NB107_118.out _; (with_reducible repeat (first | refine zq0 ?_ _ | refine zq2 ?_ | refine zq1 ?_ _)); refine zq11 ?_ NB107_118.out _; (with_reducible repeat (first | refine zq0 ?_ _ | refine zq2 ?_ | refine zq1 ?_ _)); refine zq11 ?_ NB107_118.out _; (with_reducible repeat (first | refine zq0 ?_ _ | refine zq2 ?_ | refine zq1 ?_ _)); exact BK107.out⟩, ⟨by (with_reducible repeat (first | refine zq0 ?_ _ | refine zq2 ?_ | refine zq1 ?_ _)); refine blk_put (cs := #[.int .u64 t132, .int .u64 t133, .int .u64 t134, .bool x119003_3]) ?_ 3 _ rfl; (with_reducible repeat (first | refine zq0 ?_ _ | refine zq2 ?_ | refine zq1 ?_ _)); refine blk_put (cs := #[.int .u64 t132, .int .u64 t133, .int .u64 x119002_3, .bool x119003_3]) ?_ 2 _ rfl; (with_reducible repeat (first | refine zq0 ?_ _ | refine zq2 ?_ | refine zq1 ?_ _)); refine blk_put (cs := #[.int .u64 t132, .int .u64 x119001_3, .int .u64 x119002_3, .bool x119003_3]) ?_ 1 _ rfl; (with_reducible repeat (first | refine zq0 ?_ _ | refine zq2 ?_ | refine zq1 ?_ _)); refine blk_put (cs := #[.int .u64 x119000_3, .int .u64 x119001_3, .int .u64 x119002_3, .bool x119003_3]) ?_ 0 _ rfl; (with_reducible repeat (first | refine zq0 ?_ _ | refine zq2 ?_ | refine zq1 ?_ _)); exact BK118.out⟩, ⟨by (with_reducible repeat (first | refine zq0 ?_ _ | refine zq2 ?_ | refine zq1 ?_ _)); refine zq11 ?_ NB119_118.out _; (with_reducible repeat (first | refine zq0 ?_ _ | refine zq2 ?_ | refine zq1 ?_ _)); refine zq11 ?_ NB119_118.out _; (with_reducible repeat (first | refine zq0 ?_ _ | refine zq2 ?_ | refine zq1 ?_ _)); refine zq11 ?_ NB119_118.out _; (with_reducible repeat (first | refine zq0 ?_ _ | refine zq2 ?_ | refine zq1 ?_ _)); refine zq11 ?_ NB119_118.out _; (with_reducible repeat (first | refine zq0 ?_ _ | refine zq2 ?_ | refine zq1 ?_ _)); exact BK119.out⟩, ⟨by repeat (first | (with_reducible first | exact HB.out | apply zq9 | apply zq7 | apply zq8 | refine zq6 ?_ GE101.out | refine zq6 ?_ GE107.out | refine zq6 ?_ GE118.out | refine zq6 ?_ GE119.out) | exact HB.out)⟩⟩
                            · rw [if_neg c59] at H
                              have c59b0 : (t128 == t136) = false := beq_eq_false_iff_ne.mpr c59
                              have c59b1 : (t128 != t136) = true := bne_iff_ne.mpr c59
                              (first | rw [c59b0] | (simp only [i64_w, i32_w]; rw [c59b0]) | skip)
                              have H' := zq3 H
                              clear H
                              go_wp2
                              go_meet
                              case rel => exact ⟨_, (true), (by first | rfl | (simp; done) | (simp [*]; done)), H', ⟨by have := HJ4.out; have := HK2.out; have := HK3.out; first | omega | exact Nat.le_refl _⟩, ⟨by (with_reducible repeat (first | apply Kd.R_alloc | apply Kd.R_drewN | apply Kd.R_drew)); exact Kd.R_mono (Kd.R_far (p := ⟨gb118, 3, none⟩) (Kd.R_far (p := ⟨gb118, 2, none⟩) (Kd.R_far (p := ⟨gb118, 1, none⟩) (Kd.R_far (p := ⟨gb118, 0, none⟩) (Kd.R_types HO_11.out BK118.out (by decide)) (fun _ hk => hk.2) (.int .u64 t132)) (fun _ hk => hk.2) (.int .u64 t133)) (fun _ hk => hk.2) (.int .u64 t134)) (fun _ hk => hk.2) (.bool t135)) (fun _ hk => trivial)⟩, ⟨by (with_reducible repeat (first | refine zq0 ?_ _ | refine zq2 ?_ | refine zq1 ?_ _)); refine zq11 ?_ NB101_118.out _; (with_reducible repeat (first | refine zq0 ?_ _ | refine zq2 ?_ | refine zq1 ?_ _)); refine zq11 ?_ NB101_118.out _; (with_reducible repeat (first | refine zq0 ?_ _ | refine zq2 ?_ | refine zq1 ?_ _)); refine zq11 ?_ NB101_118.out _; (with_reducible repeat (first | refine zq0 ?_ _ | refine zq2 ?_ | refine zq1 ?_ _)); refine zq11 ?_ NB101_118.out _; (with_reducible repeat (first | refine zq0 ?_ _ | refine zq2 ?_ | refine zq1 ?_ _)); exact BK101.out⟩, ⟨by (with_reducible repeat (first | refine zq0 ?_ _ | refine zq2 ?_ | refine zq1 ?_ _)); refine zq11 ?_ NB107_118.out _; (with_reducible repeat (first | refine zq0 ?_ _ | refine zq2 ?_ | refine zq1 ?_ _)); refine zq11 ?_ NB107_118.out _; (with_reducible repeat (first | refine zq0 ?_ _ | refine zq2 ?_ | refine zq1 ?_ _)); refine zq11 ?_ NB107_118.out _; (with_reducible repeat (first | refine zq0 ?_ _ | refine zq2 ?_ | refine zq1 ?_ _)); refine zq11 ?_ NB107_118.out _; (with_reducible repeat (first | refine zq0 ?_ _ | refine zq2 ?_ | refine zq1 ?_ _)); exact BK107.out⟩, ⟨by (with_reducible repeat (first | refine zq0 ?_ _ | refine zq2 ?_ | refine zq1 ?_ _)); refine blk_put (cs := #[.int .u64 t132, .int .u64 t133, .int .u64 t134, .bool x119003_3]) ?_ 3 _ rfl; (with_reducible repeat (first | refine zq0 ?_ _ | refine zq2 ?_ | refine zq1 ?_ _)); refine blk_put (cs := #[.int .u64 t132, .int .u64 t133, .int .u64 x119002_3, .bool x119003_3]) ?_ 2 _ rfl; (with_reducible repeat (first | refine zq0 ?_ _ | refine zq2 ?_ | refine zq1 ?_ _)); refine blk_put (cs := #[.int .u64 t132, .int .u64 x119001_3, .int .u64 x119002_3, .bool x119003_3]) ?_ 1 _ rfl; (with_reducible repeat (first | refine zq0 ?_ _ | refine zq2 ?_ | refine zq1 ?_ _)); refine blk_put (cs := #[.int .u64 x119000_3, .int .u64 x119001_3, .int .u64 x119002_3, .bool x119003_3]) ?_ 0 _ rfl; (with_reducible repeat (first | refine zq0 ?_ _ | refine zq2 ?_ | refine zq1 ?_ _)); exact BK118.out⟩, ⟨by (with_reducible repeat (first | refine zq0 ?_ _ | refine zq2 ?_ | refine zq1 ?_ _)); refine zq11 ?_ NB119_118.out _; (with_reducible repeat (first | refine zq0 ?_ _ | refine zq2 ?_ | refine zq1 ?_ _)); refine zq11 ?_ NB119_118.out _; (with_reducible repeat (first | refine zq0 ?_ _ | refine zq2 ?_ | refine zq1 ?_ _)); refine zq11 ?_ NB119_118.out _; (with_reducible repeat (first | refine zq0 ?_ _ | refine zq2 ?_ | refine zq1 ?_ _)); refine zq11 ?_ NB119_118.out _; (with_reducible repeat (first | refine zq0 ?_ _ | refine zq2 ?_ | refine zq1 ?_ _)); exact BK119.out⟩, ⟨by repeat (first | (with_reducible first | exact HB.out | apply zq9 | apply zq7 | apply zq8 | refine zq6 ?_ GE101.out | refine zq6 ?_ GE107.out | refine zq6 ?_ GE118.out | refine zq6 ?_ GE119.out) | exact HB.out)⟩⟩
                          case rest =>
                            clear HC45
                            try clear p1
                            try clear q1
                            try clear hx1
                            try clear c2
                            try clear p2
                            try clear c5
                            try clear c6
                            try clear c7
                            try clear p12
                            try clear q12
                            try clear hx12
                            try clear p13
                            try clear q13
                            try clear hx13
                            try clear c22
                            try clear c59
                            try clear c59b0
                            try clear c59b1
                            try clear c60
                            try clear c60b0
                            try clear c60b1
                            try clear c61
                            try clear c62
                            try clear c63
                            try clear c65
                            try clear c66
                            try clear c68
                            try clear c69
                            try clear c70
                            try clear c72
                            try clear c73
                            try clear hcz64_0
                            try clear hcz64_1
                            try clear hcz64_2
                            try clear hcz64_3
                            try clear hcz67_0
                            try clear hcz67_1
                            try clear hcz67_2
                            try clear hcz67_3
                            try clear hcz71_0
                            try clear hcz71_1
                            try clear hcz71_2
                            try clear hcz71_3
                            try clear hcz74_0
                            try clear hcz74_1
                            try clear hcz74_2
                            try clear hcz74_3
                            try clear hfz64_0
                            try clear hfz64_1
                            try clear hfz64_2
                            try clear hfz64_3
                            try clear hfz67_0
                            try clear hfz67_1
                            try clear hfz67_2
                            try clear hfz67_3
                            try clear hfz71_0
                            try clear hfz71_1
                            try clear hfz71_2
                            try clear hfz71_3
                            try clear hfz74_0
                            try clear hfz74_1
                            try clear hfz74_2
                            try clear hfz74_3
                            try clear hx129_0
                            try clear hx130_0
                            try clear hx130_1
                            try clear hx130_2
                            try clear hx131_0
                            try clear hx131_1
                            try clear hx131_2
                            try clear p129
                            try clear p130
                            try clear p131
                            try clear q129
                            try clear q130
                            try clear q131
                            obtain ⟨kq, x129_44, rfl, HA, HJ44, HO_11, BK101, BK107, BK118, BK119, HB⟩ := hcut
                            cases kq with
                            | zero => exact absurd HA.out (by simp [weighbridgetop_WholeClock.j3])
                            | succ kj44 =>
                              have H := HA.out
                              clear HA
                              simp only [weighbridgetop_WholeClock.j3] at H
                              by_cases c75 : x129_44 = true
                              · subst c75
                                have H1 : (none) = some r := by rw [if_pos rfl] at H; exact H
                                clear H
                                have H := H1
                                clear H1
                                exact absurd H (by simp)
                              · replace c75 := Bool.eq_false_iff.mpr c75
                                subst c75
                                have H1 : (if x14_3 = true then (if 0 ≤ x15_3 then (if x15_3 < (l1.length : Int) then (weighbridgetop_WholeClock.j4 kj44 l1 a2 t115 (decide ((IntKind.u64.wrap (((rd_T28 l1 x15_3).f0) + a2)) ≥ a2)) x15_3 t128 a0_0 a0_1 a0_2 a0_3 a0_4 a0_5 t124 t125 t126 t127 t132 t133 t134 t135 x120000_3 x120001_3 x120002_3 x120003_3) else (none)) else (none)) else (weighbridgetop_WholeClock.j4 kj44 l1 a2 t115 false x15_3 t128 a0_0 a0_1 a0_2 a0_3 a0_4 a0_5 t124 t125 t126 t127 t132 t133 t134 t135 x120000_3 x120001_3 x120002_3 x120003_3)) = some r := by rw [if_neg (show ¬ (false = true) by decide)] at H; exact H
                                clear H
                                have H := H1
                                clear H1
                                have HC76 := zq3 H
                                clear H
                                go_upto_region 24 with (fail)
                                go_cut [14] (fun v14 wc => ∃ (kq : Nat) (x14_75 : Bool), v14 = .bool x14_75 ∧ Aside0 (weighbridgetop_WholeClock.j4 kq l1 a2 t115 x14_75 x15_3 t128 a0_0 a0_1 a0_2 a0_3 a0_4 a0_5 t124 t125 t126 t127 t132 t133 t134 t135 x120000_3 x120001_3 x120002_3 x120003_3 = some r) ∧ Aside0 (kq ≤ kj44) ∧ Aside0 (Kd.R (Kd.int .u64) 22 wc w.heap.size (fun _ => True) (.slice (some ad129) t115.length co27) t115) ∧ Aside0 (wc.heap[gb101]? = some (.cells #[.int .i64 a0_0, .bool a0_1, .int .u64 a0_2, .int .u64 a0_3, .int .u64 a0_4, .int .u64 a0_5] 24 (0, 0))) ∧ Aside0 (wc.heap[gb107]? = some (.cells #[.int .u64 t124, .int .u64 t125, .int .u64 t126, .bool t127] 26 (0, 0))) ∧ Aside0 (wc.heap[gb118]? = some (.cells #[.int .u64 t132, .int .u64 t133, .int .u64 t134, .bool t135] 26 (0, 0))) ∧ Aside0 (wc.heap[gb119]? = some (.cells #[.int .u64 x120000_3, .int .u64 x120001_3, .int .u64 x120002_3, .bool x120003_3] 26 (0, 0))) ∧ Aside0 (Below w.heap.size w wc))
                                case first =>
                                  have H := HC76.out
                                  clear HC76
                                  by_cases c77 : x14_3 = true
                                  · subst c77
                                    have H1 : (if 0 ≤ x15_3 then (if x15_3 < (l1.length : Int) then (weighbridgetop_WholeClock.j4 kj44 l1 a2 t115 (decide ((IntKind.u64.wrap (((rd_T28 l1 x15_3).f0) + a2)) ≥ a2)) x15_3 t128 a0_0 a0_1 a0_2 a0_3 a0_4 a0_5 t124 t125 t126 t127 t132 t133 t134 t135 x120000_3 x120001_3 x120002_3 x120003_3) else (none)) else (none)) = some r := by rw [if_pos rfl] at H; exact H
                                    clear H
                                    have H := H1
                                    clear H1
                                    by_cases c78 : 0 ≤ x15_3
                                    · rw [if_pos c78] at H
                                      have c78b0 : decide (0 ≤ x15_3) = true := decide_eq_true c78
                                      clear c78
                                      (first | rw [c78b0] | (simp only [i64_w, i32_w]; rw [c78b0]) | skip)
                                      by_cases c79 : x15_3 < (l1.length : Int)
                                      · rw [if_pos c79] at H
                                        have c79b0 : decide (x15_3 < (l1.length : Int)) = true := decide_eq_true c79
                                        clear c79
                                        have H' := zq3 H
                                        clear H
                                        have p137 : 0 ≤ (x15_3 : Int) := of_decide_eq_true (by first | (with_reducible assumption) | assumption)
                                        have q137 : x15_3 < (l1.length : Int) := of_decide_eq_true (by first | (with_reducible assumption) | assumption)
                                        obtain ⟨ad137, e137, hx137_0, hx137_1, hx137_2⟩ := at_T28 HR1.out x15_3 p137 q137
                                        obtain rfl : ad121 = ad137 := (by injection e137)
                                        replace hx137_0 := (HB.out.cell (World.block_lt_of_cell? w _ hx137_0)).trans hx137_0
                                        replace hx137_1 := (HB.out.cell (World.block_lt_of_cell? w _ hx137_1)).trans hx137_1
                                        replace hx137_2 := (HB.out.cell (World.block_lt_of_cell? w _ hx137_2)).trans hx137_2
                                        replace p137 := eq_true p137
                                        replace q137 := eq_true q137
                                        go_wp2
                                        go_meet
                                        case rel => exact ⟨_, (decide ((IntKind.u64.wrap (((rd_T28 l1 x15_3).f0) + a2)) ≥ a2)), (by first | rfl | (simp; done) | (simp [*]; done)), H', ⟨by have := HJ4.out; have := HK2.out; have := HK3.out; have := HJ44.out; first | omega | exact Nat.le_refl _⟩, ⟨by (with_reducible repeat (first | apply Kd.R_alloc | apply Kd.R_drewN | apply Kd.R_drew)); exact HO_11.out⟩, ⟨by (with_reducible repeat (first | refine zq0 ?_ _ | refine zq2 ?_ | refine zq1 ?_ _)); exact BK101.out⟩, ⟨by (with_reducible repeat (first | refine zq0 ?_ _ | refine zq2 ?_ | refine zq1 ?_ _)); exact BK107.out⟩, ⟨by (with_reducible repeat (first | refine zq0 ?_ _ | refine zq2 ?_ | refine zq1 ?_ _)); exact BK118.out⟩, ⟨by (with_reducible repeat (first | refine zq0 ?_ _ | refine zq2 ?_ | refine zq1 ?_ _)); exact BK119.out⟩, ⟨by repeat (first | (with_reducible first | exact HB.out | apply zq9 | apply zq7 | apply zq8 | refine zq6 ?_ GE101.out | refine zq6 ?_ GE107.out | refine zq6 ?_ GE118.out | refine zq6 ?_ GE119.out) | exact HB.out)⟩⟩
                                      · rw [if_neg c79] at H
                                        exact absurd H (by simp)
                                    · rw [if_neg c78] at H
                                      exact absurd H (by simp)
                                  · replace c77 := Bool.eq_false_iff.mpr c77
                                    subst c77
                                    have H1 : (weighbridgetop_WholeClock.j4 kj44 l1 a2 t115 false x15_3 t128 a0_0 a0_1 a0_2 a0_3 a0_4 a0_5 t124 t125 t126 t127 t132 t133 t134 t135 x120000_3 x120001_3 x120002_3 x120003_3) = some r := by rw [if_neg (show ¬ (false = true) by decide)] at H; exact H
                                    clear H
                                    have H := H1
                                    clear H1
                                    have H' := zq3 H
                                    clear H
                                    go_wp2
                                    go_meet
                                    case rel => exact ⟨_, (false), (by first | rfl | (simp; done) | (simp [*]; done)), H', ⟨by have := HJ4.out; have := HK2.out; have := HK3.out; have := HJ44.out; first | omega | exact Nat.le_refl _⟩, ⟨by (with_reducible repeat (first | apply Kd.R_alloc | apply Kd.R_drewN | apply Kd.R_drew)); exact HO_11.out⟩, ⟨by (with_reducible repeat (first | refine zq0 ?_ _ | refine zq2 ?_ | refine zq1 ?_ _)); exact BK101.out⟩, ⟨by (with_reducible repeat (first | refine zq0 ?_ _ | refine zq2 ?_ | refine zq1 ?_ _)); exact BK107.out⟩, ⟨by (with_reducible repeat (first | refine zq0 ?_ _ | refine zq2 ?_ | refine zq1 ?_ _)); exact BK118.out⟩, ⟨by (with_reducible repeat (first | refine zq0 ?_ _ | refine zq2 ?_ | refine zq1 ?_ _)); exact BK119.out⟩, ⟨by repeat (first | (with_reducible first | exact HB.out | apply zq9 | apply zq7 | apply zq8 | refine zq6 ?_ GE101.out | refine zq6 ?_ GE107.out | refine zq6 ?_ GE118.out | refine zq6 ?_ GE119.out) | exact HB.out)⟩⟩
                                case rest =>
                                  clear HC76
                                  try clear p1
                                  try clear q1
                                  try clear hx1
                                  try clear c2
                                  try clear p2
                                  try clear c5
                                  try clear c6
                                  try clear c7
                                  try clear p12
                                  try clear q12
                                  try clear hx12
                                  try clear p13
                                  try clear q13
                                  try clear hx13
                                  try clear c22
                                  try clear c59
                                  try clear c59b0
                                  try clear c59b1
                                  try clear c60
                                  try clear c60b0
                                  try clear c60b1
                                  try clear c61
                                  try clear c62
                                  try clear c63
                                  try clear c65
                                  try clear c66
                                  try clear c68
                                  try clear c69
                                  try clear c70
                                  try clear c72
                                  try clear c73
                                  try clear c75
                                  try clear c77
                                  try clear c78
                                  try clear c78b0
                                  try clear c79
                                  try clear c79b0
                                  try clear hcz64_0
                                  try clear hcz64_1
                                  try clear hcz64_2
                                  try clear hcz64_3
                                  try clear hcz67_0
                                  try clear hcz67_1
                                  try clear hcz67_2
                                  try clear hcz67_3
                                  try clear hcz71_0
                                  try clear hcz71_1
                                  try clear hcz71_2
                                  try clear hcz71_3
                                  try clear hcz74_0
                                  try clear hcz74_1
                                  try clear hcz74_2
                                  try clear hcz74_3
                                  try clear hfz64_0
                                  try clear hfz64_1
                                  try clear hfz64_2
                                  try clear hfz64_3
                                  try clear hfz67_0
                                  try clear hfz67_1
                                  try clear hfz67_2
                                  try clear hfz67_3
                                  try clear hfz71_0
                                  try clear hfz71_1
                                  try clear hfz71_2
                                  try clear hfz71_3
                                  try clear hfz74_0
                                  try clear hfz74_1
                                  try clear hfz74_2
                                  try clear hfz74_3
                                  try clear hx129_0
                                  try clear hx130_0
                                  try clear hx130_1
                                  try clear hx130_2
                                  try clear hx131_0
                                  try clear hx131_1
                                  try clear hx131_2
                                  try clear hx137_0
                                  try clear hx137_1
                                  try clear hx137_2
                                  try clear p1
                                  try clear p12
                                  try clear p129
                                  try clear p13
                                  try clear p130
                                  try clear p131
                                  try clear p137
                                  try clear p2
                                  try clear q1
                                  try clear q12
                                  try clear q129
                                  try clear q13
                                  try clear q130
                                  try clear q131
                                  try clear q137
                                  obtain ⟨kq, x14_75, rfl, HA, HJ75, HO_11, BK101, BK107, BK118, BK119, HB⟩ := hcut
                                  cases kq with
                                  | zero => exact absurd HA.out (by simp [weighbridgetop_WholeClock.j4])
                                  | succ kj75 =>
                                    have H := HA.out
                                    clear HA
                                    simp only [weighbridgetop_WholeClock.j4] at H
                                    by_cases c80 : x14_75 = true
                                    · subst c80
                                      have H1 : (if 0 ≤ x15_3 then (if x15_3 < (l1.length : Int) then ((single_Step.f kj75 a0_0 a0_1 a0_2 a0_3 a0_4 a0_5 x120000_3 x120001_3 x120002_3 x120003_3 (IntKind.u64.wrap (((rd_T28 l1 x15_3).f0) + a2)) ((rd_T28 l1 x15_3).f1) ((rd_T28 l1 x15_3).f2)).bind fun bt141 => (if bt141.2.2.2.2 = t128 then (if bt141.1 = t124 then (if bt141.2.1 = t125 then (weighbridgetop_WholeClock.l1 kj75 l1 a2 t115 true (wrap64 (x15_3 + 1)) a0_0 a0_1 a0_2 a0_3 a0_4 a0_5 t124 t125 t126 t127 t132 t133 t134 t135 bt141.1 bt141.2.1 bt141.2.2.1 bt141.2.2.2.1) else (none)) else (none)) else (none))) else (none)) else (none)) = some r := by rw [if_pos rfl] at H; exact H
                                      clear H
                                      have H := H1
                                      clear H1
                                      by_cases c81 : 0 ≤ x15_3
                                      · rw [if_pos c81] at H
                                        have c81b0 : decide (0 ≤ x15_3) = true := decide_eq_true c81
                                        clear c81
                                        by_cases c82 : x15_3 < (l1.length : Int)
                                        · rw [if_pos c82] at H
                                          have c82b0 : decide (x15_3 < (l1.length : Int)) = true := decide_eq_true c82
                                          clear c82
                                          replace H := Option.bind_eq_some_iff.mp H
                                          obtain ⟨⟨t141, t142, t143, t144, t145⟩, A830, H⟩ := H
                                          replace H : (if t145 = t128 then (if t141 = t124 then (if t142 = t125 then (weighbridgetop_WholeClock.l1 kj75 l1 a2 t115 true (wrap64 (x15_3 + 1)) a0_0 a0_1 a0_2 a0_3 a0_4 a0_5 t124 t125 t126 t127 t132 t133 t134 t135 t141 t142 t143 t144) else (none)) else (none)) else (none)) = some r := H
                                          have A83 := zq3 A830
                                          clear A830
                                          by_cases c84 : t145 = t128
                                          · rw [if_pos c84] at H
                                            have c84b0 : (t145 == t128) = true := beq_iff_eq.mpr c84
                                            have c84b1 : (t145 != t128) = false := bne_eq_false_iff_eq.mpr c84
                                            clear c84
                                            by_cases c85 : t141 = t124
                                            · rw [if_pos c85] at H
                                              have c85b0 : (t141 == t124) = true := beq_iff_eq.mpr c85
                                              have c85b1 : (t141 != t124) = false := bne_eq_false_iff_eq.mpr c85
                                              clear c85
                                              by_cases c86 : t142 = t125
                                              · rw [if_pos c86] at H
                                                have c86b0 : (t142 == t125) = true := beq_iff_eq.mpr c86
                                                have c86b1 : (t142 != t125) = false := bne_eq_false_iff_eq.mpr c86
                                                clear c86
                                                have H' := zq3 H
                                                clear H
                                                try go_wp2
                                                have n0_ := zq3 (Kd.R_drew HO_11.out)
                                                have n1_ := zq3 (zq2 BK101.out)
                                                have n2_ := zq3 (zq2 BK107.out)
                                                have n3_ := zq3 (zq2 BK118.out)
                                                have n4_ := zq3 (zq2 BK119.out)
                                                have n5_ := zq3 (zq8 HB.out)
                                                clear HO_11
                                                clear BK101
                                                clear BK107
                                                clear BK118
                                                clear BK119
                                                clear HB
                                                have HO_11 := n0_
                                                have BK101 := n1_
                                                have BK107 := n2_
                                                have BK118 := n3_
                                                have BK119 := n4_
                                                have HB := n5_
                                                clear n0_ n1_ n2_ n3_ n4_ n5_
                                                have p138 : 0 ≤ (x15_3 : Int) := of_decide_eq_true (by first | (with_reducible assumption) | assumption)
                                                have q138 : x15_3 < (l1.length : Int) := of_decide_eq_true (by first | (with_reducible assumption) | assumption)
                                                obtain ⟨ad138, e138, hx138_0, hx138_1, hx138_2⟩ := at_T28 HR1.out x15_3 p138 q138
                                                have hw138_2 := hx138_2
                                                have hw138_1 := hx138_1
                                                have hw138_0 := hx138_0
                                                obtain rfl : ad121 = ad138 := (by injection e138)
                                                replace hx138_0 := (HB.out.cell (World.block_lt_of_cell? w _ hx138_0)).trans hx138_0
                                                replace hx138_1 := (HB.out.cell (World.block_lt_of_cell? w _ hx138_1)).trans hx138_1
                                                replace hx138_2 := (HB.out.cell (World.block_lt_of_cell? w _ hx138_2)).trans hx138_2
                                                replace p138 := eq_true p138
                                                replace q138 := eq_true q138
                                                have p139 : 0 ≤ (x15_3 : Int) := of_decide_eq_true (by first | (with_reducible assumption) | assumption)
                                                have q139 : x15_3 < (l1.length : Int) := of_decide_eq_true (by first | (with_reducible assumption) | assumption)
                                                obtain ⟨ad139, e139, hx139_0, hx139_1, hx139_2⟩ := at_T28 HR1.out x15_3 p139 q139
                                                have hw139_2 := hx139_2
                                                have hw139_1 := hx139_1
                                                have hw139_0 := hx139_0
                                                obtain rfl : ad121 = ad139 := (by injection e139)
                                                replace hx139_0 := (HB.out.cell (World.block_lt_of_cell? w _ hx139_0)).trans hx139_0
                                                replace hx139_1 := (HB.out.cell (World.block_lt_of_cell? w _ hx139_1)).trans hx139_1
                                                replace hx139_2 := (HB.out.cell (World.block_lt_of_cell? w _ hx139_2)).trans hx139_2
                                                replace p139 := eq_true p139
                                                replace q139 := eq_true q139
                                                have p140 : 0 ≤ (x15_3 : Int) := of_decide_eq_true (by first | (with_reducible assumption) | assumption)
                                                have q140 : x15_3 < (l1.length : Int) := of_decide_eq_true (by first | (with_reducible assumption) | assumption)
                                                obtain ⟨ad140, e140, hx140_0, hx140_1, hx140_2⟩ := at_T28 HR1.out x15_3 p140 q140
                                                have hw140_2 := hx140_2
                                                have hw140_1 := hx140_1
                                                have hw140_0 := hx140_0
                                                obtain rfl : ad121 = ad140 := (by injection e140)
                                                replace hx140_0 := (HB.out.cell (World.block_lt_of_cell? w _ hx140_0)).trans hx140_0
                                                replace hx140_1 := (HB.out.cell (World.block_lt_of_cell? w _ hx140_1)).trans hx140_1
                                                replace hx140_2 := (HB.out.cell (World.block_lt_of_cell? w _ hx140_2)).trans hx140_2
                                                replace p140 := eq_true p140
                                                replace q140 := eq_true q140
                                                refine start_ (n := 25) (S := fun w' => w'.cell? ⟨gb101, 0, none⟩ = some (.int .i64 a0_0) ∧ w'.cell? ⟨gb101, 1, none⟩ = some (.bool a0_1) ∧ w'.cell? ⟨gb101, 2, none⟩ = some (.int .u64 a0_2) ∧ w'.cell? ⟨gb101, 3, none⟩ = some (.int .u64 a0_3) ∧ w'.cell? ⟨gb101, 4, none⟩ = some (.int .u64 a0_4) ∧ w'.cell? ⟨gb101, 5, none⟩ = some (.int .u64 a0_5) ∧ w'.cell? ⟨gb119, 0, none⟩ = some (.int .u64 x120000_3) ∧ w'.cell? ⟨gb119, 1, none⟩ = some (.int .u64 x120001_3) ∧ w'.cell? ⟨gb119, 2, none⟩ = some (.int .u64 x120002_3) ∧ w'.cell? ⟨gb119, 3, none⟩ = some (.bool x120003_3) ∧ w'.cell? (ad121.add ((x15_3).toNat * 3)) = some (.int .u64 ((rd_T28 l1 x15_3).f0)) ∧ w'.cell? ⟨(ad121.add ((x15_3).toNat * 3)).block, (ad121.add ((x15_3).toNat * 3)).off + 1, none⟩ = some (.int .i64 ((rd_T28 l1 x15_3).f1)) ∧ w'.cell? ⟨(ad121.add ((x15_3).toNat * 3)).block, (ad121.add ((x15_3).toNat * 3)).off + 2, none⟩ = some (.int .i64 ((rd_T28 l1 x15_3).f2)) ∧ w'.cell? (ad121.add ((x15_3).toNat * 3)) = some (.int .u64 ((rd_T28 l1 x15_3).f0)) ∧ w'.cell? ⟨(ad121.add ((x15_3).toNat * 3)).block, (ad121.add ((x15_3).toNat * 3)).off + 1, none⟩ = some (.int .i64 ((rd_T28 l1 x15_3).f1)) ∧ w'.cell? ⟨(ad121.add ((x15_3).toNat * 3)).block, (ad121.add ((x15_3).toNat * 3)).off + 2, none⟩ = some (.int .i64 ((rd_T28 l1 x15_3).f2)) ∧ w'.cell? (ad121.add ((x15_3).toNat * 3)) = some (.int .u64 ((rd_T28 l1 x15_3).f0)) ∧ w'.cell? ⟨(ad121.add ((x15_3).toNat * 3)).block, (ad121.add ((x15_3).toNat * 3)).off + 1, none⟩ = some (.int .i64 ((rd_T28 l1 x15_3).f1)) ∧ w'.cell? ⟨(ad121.add ((x15_3).toNat * 3)).block, (ad121.add ((x15_3).toNat * 3)).off + 2, none⟩ = some (.int .i64 ((rd_T28 l1 x15_3).f2))) (ds := [23]) #[false, false, false, false, false, false, false, false, false, false, false, false, false, false, false, false, false, false, false, false, false, false, false, false, false] (by kernel_rfl) rfl rfl ⟨(zq5 BK101.out 0).trans rfl, (zq5 BK101.out 1).trans rfl, (zq5 BK101.out 2).trans rfl, (zq5 BK101.out 3).trans rfl, (zq5 BK101.out 4).trans rfl, (zq5 BK101.out 5).trans rfl, (zq5 BK119.out 0).trans rfl, (zq5 BK119.out 1).trans rfl, (zq5 BK119.out 2).trans rfl, (zq5 BK119.out 3).trans rfl, ((HB.out.cell (World.block_lt_of_cell? w _ hw138_0)).trans hw138_0), ((HB.out.cell (World.block_lt_of_cell? w _ hw138_1)).trans hw138_1), ((HB.out.cell (World.block_lt_of_cell? w _ hw138_2)).trans hw138_2), ((HB.out.cell (World.block_lt_of_cell? w _ hw139_0)).trans hw139_0), ((HB.out.cell (World.block_lt_of_cell? w _ hw139_1)).trans hw139_1), ((HB.out.cell (World.block_lt_of_cell? w _ hw139_2)).trans hw139_2), ((HB.out.cell (World.block_lt_of_cell? w _ hw140_0)).trans hw140_0), ((HB.out.cell (World.block_lt_of_cell? w _ hw140_1)).trans hw140_1), ((HB.out.cell (World.block_lt_of_cell? w _ hw140_2)).trans hw140_2)⟩ (fun hHeld => ?_); refine with_tabW weighbridgetop_WholeClock.tab26 weighbridgetop_WholeClock.bits26 (fun HT_ HW_ => ?_)
                                                generalize wc.drew = w87 at HO_11 BK101 BK107 BK118 BK119 HB hx138_0 hx138_1 hx138_2 hx139_0 hx139_1 hx139_2 hx140_0 hx140_1 hx140_2 hHeld ⊢
                                                refine pure_ (i := 2) (N := some 146) (v := ?_) (a' := ?_) #[false, false, true, false, false, false, false, false, false, false, false, false, false, false, false, false, false, false, false, false, false, false, false, false, false] rfl rfl (any_of HT_.out (by kernel_rfl)) (fun _ _ _ h => h) (Or.inl ⟨by rfl, ?_⟩) ?_ ?_
                                                rotate_left
                                                · intro w'
                                                  go_simp
                                                  with_reducible rfl
                                                rotate_left
                                                · simp only [Act.put, List.setIfInBounds_toArray, List.set_cons_zero, List.set_cons_succ, i64_w, i32_w]
                                                  rfl
                                                refine pure_ (i := 3) (N := some 147) (v := ?_) (a' := ?_) #[false, false, true, true, false, false, false, false, false, false, false, false, false, false, false, false, false, false, false, false, false, false, false, false, false] rfl rfl (any_of HT_.out (by kernel_rfl)) (fun _ _ _ h => h) (Or.inl ⟨by rfl, ?_⟩) ?_ ?_
                                                rotate_left
                                                · intro w'
                                                  go_simp
                                                  with_reducible rfl
                                                rotate_left
                                                · simp only [Act.put, List.setIfInBounds_toArray, List.set_cons_zero, List.set_cons_succ, i64_w, i32_w]
                                                  rfl
                                                refine pure_ (i := 4) (N := some 148) (v := ?_) (a' := ?_) #[false, false, true, true, true, false, false, false, false, false, false, false, false, false, false, false, false, false, false, false, false, false, false, false, false] rfl rfl (any_of HT_.out (by kernel_rfl)) (fun _ _ _ h => h) (Or.inl ⟨by rfl, ?_⟩) ?_ ?_
                                                rotate_left
                                                · intro w'
                                                  go_simp
                                                  with_reducible rfl
                                                rotate_left
                                                · simp only [Act.put, List.setIfInBounds_toArray, List.set_cons_zero, List.set_cons_succ, i64_w, i32_w]
                                                  rfl
                                                refine pure_ (i := 5) (N := some 149) (v := ?_) (a' := ?_) #[false, false, true, true, true, true, false, false, false, false, false, false, false, false, false, false, false, false, false, false, false, false, false, false, false] rfl rfl (any_of HT_.out (by kernel_rfl)) (fun _ _ _ h => h) (Or.inl ⟨by rfl, ?_⟩) ?_ ?_
                                                rotate_left
                                                · intro w'
                                                  go_simp
                                                  with_reducible rfl
                                                rotate_left
                                                · simp only [Act.put, List.setIfInBounds_toArray, List.set_cons_zero, List.set_cons_succ, i64_w, i32_w]
                                                  rfl
                                                refine pure_ (i := 7) (N := some 151) (v := ?_) (a' := ?_) #[false, false, true, true, true, true, false, true, false, false, false, false, false, false, false, false, false, false, false, false, false, false, false, false, false] rfl rfl (any_of HT_.out (by kernel_rfl)) (fun _ _ _ h => h) (Or.inl ⟨by rfl, ?_⟩) ?_ ?_
                                                rotate_left
                                                · intro w'
                                                  go_simp
                                                  with_reducible rfl
                                                rotate_left
                                                · simp only [Act.put, List.setIfInBounds_toArray, List.set_cons_zero, List.set_cons_succ, i64_w, i32_w]
                                                  rfl
                                                refine pure_ (i := 9) (N := some 153) (v := ?_) (a' := ?_) #[false, false, true, true, true, true, false, true, false, true, false, false, false, false, false, false, false, false, false, false, false, false, false, false, false] rfl rfl (any_of HT_.out (by kernel_rfl)) (fun _ _ _ h => h) (Or.inl ⟨by rfl, ?_⟩) ?_ ?_
                                                rotate_left
                                                · intro w'
                                                  go_simp
                                                  with_reducible rfl
                                                rotate_left
                                                · simp only [Act.put, List.setIfInBounds_toArray, List.set_cons_zero, List.set_cons_succ, i64_w, i32_w]
                                                  rfl
                                                refine pure_ (i := 10) (N := some 154) (v := ?_) (a' := ?_) #[false, false, true, true, true, true, false, true, false, true, true, false, false, false, false, false, false, false, false, false, false, false, false, false, false] rfl rfl (any_of HT_.out (by kernel_rfl)) (fun _ _ _ h => h) (Or.inl ⟨by rfl, ?_⟩) ?_ ?_
                                                rotate_left
                                                · intro w'
                                                  go_simp
                                                  with_reducible rfl
                                                rotate_left
                                                · simp only [Act.put, List.setIfInBounds_toArray, List.set_cons_zero, List.set_cons_succ, i64_w, i32_w]
                                                  rfl
                                                refine pure_ (i := 11) (N := some 155) (v := ?_) (a' := ?_) #[false, false, true, true, true, true, false, true, false, true, true, true, false, false, false, false, false, false, false, false, false, false, false, false, false] rfl rfl (any_of HT_.out (by kernel_rfl)) (fun _ _ _ h => h) (Or.inl ⟨by rfl, ?_⟩) ?_ ?_
                                                rotate_left
                                                · intro w'
                                                  go_simp
                                                  with_reducible rfl
                                                rotate_left
                                                · simp only [Act.put, List.setIfInBounds_toArray, List.set_cons_zero, List.set_cons_succ, i64_w, i32_w]
                                                  rfl
                                                refine pure_ (i := 12) (N := some 156) (v := ?_) (a' := ?_) #[false, false, true, true, true, true, false, true, false, true, true, true, true, false, false, false, false, false, false, false, false, false, false, false, false] rfl rfl (any_of HT_.out (by kernel_rfl)) (fun _ _ _ h => h) (Or.inl ⟨by rfl, ?_⟩) ?_ ?_
                                                rotate_left
                                                · intro w'
                                                  go_simp
                                                  with_reducible rfl
                                                rotate_left
                                                · simp only [Act.put, List.setIfInBounds_toArray, List.set_cons_zero, List.set_cons_succ, i64_w, i32_w]
                                                  rfl
                                                refine pure_ (i := 14) (N := some 158) (v := ?_) (a' := ?_) #[false, false, true, true, true, true, false, true, false, true, true, true, true, false, true, false, false, false, false, false, false, false, false, false, false] rfl rfl (any_of HT_.out (by kernel_rfl)) (fun _ _ _ h => h) (Or.inl ⟨by rfl, ?_⟩) ?_ ?_
                                                rotate_left
                                                · intro w'
                                                  go_simp
                                                  with_reducible rfl
                                                rotate_left
                                                · simp only [Act.put, List.setIfInBounds_toArray, List.set_cons_zero, List.set_cons_succ, i64_w, i32_w]
                                                  rfl
                                                refine pure_ (i := 15) (N := some 159) (v := ?_) (a' := ?_) #[false, false, true, true, true, true, false, true, false, true, true, true, true, false, true, true, false, false, false, false, false, false, false, false, false] rfl rfl (any_of HT_.out (by kernel_rfl)) (fun _ _ _ h => h) (Or.inl ⟨by rfl, ?_⟩) ?_ ?_
                                                rotate_left
                                                · intro w'
                                                  go_simp
                                                  with_reducible rfl
                                                rotate_left
                                                · simp only [Act.put, List.setIfInBounds_toArray, List.set_cons_zero, List.set_cons_succ, i64_w, i32_w]
                                                  rfl
                                                refine pure_ (i := 16) (N := some 160) (v := ?_) (a' := ?_) #[false, false, true, true, true, true, false, true, false, true, true, true, true, false, true, true, true, false, false, false, false, false, false, false, false] rfl rfl (any_of HT_.out (by kernel_rfl)) (fun _ _ _ h => h) (Or.inl ⟨by rfl, ?_⟩) ?_ ?_
                                                rotate_left
                                                · intro w'
                                                  go_simp
                                                  with_reducible rfl
                                                rotate_left
                                                · simp only [Act.put, List.setIfInBounds_toArray, List.set_cons_zero, List.set_cons_succ, i64_w, i32_w]
                                                  rfl
                                                refine pure_ (i := 17) (N := some 161) (v := ?_) (a' := ?_) #[false, false, true, true, true, true, false, true, false, true, true, true, true, false, true, true, true, true, false, false, false, false, false, false, false] rfl rfl (any_of HT_.out (by kernel_rfl)) (fun _ _ _ h => h) (Or.inl ⟨by rfl, ?_⟩) ?_ ?_
                                                rotate_left
                                                · intro w'
                                                  go_simp
                                                  with_reducible rfl
                                                rotate_left
                                                · simp only [Act.put, List.setIfInBounds_toArray, List.set_cons_zero, List.set_cons_succ, i64_w, i32_w]
                                                  rfl
                                                refine take_ (i := 0) (N := some 144) (v := ?_) (a' := ?_) #[true, false, true, true, true, true, false, true, false, true, true, true, true, false, true, true, true, true, false, false, false, false, false, false, false] rfl rfl (take_ofW HT_.out HW_.out (by kernel_rfl)) (fun _ _ _ h => h) (Or.inl ⟨by rfl, ?_⟩) hHeld ?_ ?_
                                                rotate_left
                                                · rintro w' ⟨s0, s1, s2, s3, s4, s5, s6, s7, s8, s9, s10, s11, s12, s13, s14, s15, s16, s17, s18⟩
                                                  go_simp
                                                  with_reducible rfl
                                                rotate_left
                                                · simp only [Act.put, List.setIfInBounds_toArray, List.set_cons_zero, List.set_cons_succ, i64_w, i32_w]
                                                  rfl
                                                refine take_ (i := 1) (N := some 145) (v := ?_) (a' := ?_) #[true, true, true, true, true, true, false, true, false, true, true, true, true, false, true, true, true, true, false, false, false, false, false, false, false] rfl rfl (take_ofW HT_.out HW_.out (by kernel_rfl)) (fun _ _ _ h => h) (Or.inl ⟨by rfl, ?_⟩) hHeld ?_ ?_
                                                rotate_left
                                                · rintro w' ⟨s0, s1, s2, s3, s4, s5, s6, s7, s8, s9, s10, s11, s12, s13, s14, s15, s16, s17, s18⟩
                                                  go_simp
                                                  with_reducible rfl
                                                rotate_left
                                                · simp only [Act.put, List.setIfInBounds_toArray, List.set_cons_zero, List.set_cons_succ, i64_w, i32_w]
                                                  rfl
                                                refine take_ (i := 6) (N := some 150) (v := ?_) (a' := ?_) #[true, true, true, true, true, true, true, true, false, true, true, true, true, false, true, true, true, true, false, false, false, false, false, false, false] rfl rfl (take_ofW HT_.out HW_.out (by kernel_rfl)) (fun _ _ _ h => h) (Or.inl ⟨by rfl, ?_⟩) hHeld ?_ ?_
                                                rotate_left
                                                · rintro w' ⟨s0, s1, s2, s3, s4, s5, s6, s7, s8, s9, s10, s11, s12, s13, s14, s15, s16, s17, s18⟩
                                                  go_simp
                                                  with_reducible rfl
                                                rotate_left
                                                · simp only [Act.put, List.setIfInBounds_toArray, List.set_cons_zero, List.set_cons_succ, i64_w, i32_w]
                                                  rfl
                                                refine pure_ (i := 8) (N := some 152) (v := ?_) (a' := ?_) #[true, true, true, true, true, true, true, true, true, true, true, true, true, false, true, true, true, true, false, false, false, false, false, false, false] rfl rfl (any_of HT_.out (by kernel_rfl)) (fun _ _ _ h => h) (Or.inl ⟨by rfl, ?_⟩) ?_ ?_
                                                rotate_left
                                                · intro w'
                                                  go_simp
                                                  with_reducible rfl
                                                rotate_left
                                                · simp only [Act.put, List.setIfInBounds_toArray, List.set_cons_zero, List.set_cons_succ, i64_w, i32_w]
                                                  rfl
                                                refine take_ (i := 13) (N := some 157) (v := ?_) (a' := ?_) #[true, true, true, true, true, true, true, true, true, true, true, true, true, true, true, true, true, true, false, false, false, false, false, false, false] rfl rfl (take_ofW HT_.out HW_.out (by kernel_rfl)) (fun _ _ _ h => h) (Or.inl ⟨by rfl, ?_⟩) hHeld ?_ ?_
                                                rotate_left
                                                · rintro w' ⟨s0, s1, s2, s3, s4, s5, s6, s7, s8, s9, s10, s11, s12, s13, s14, s15, s16, s17, s18⟩
                                                  go_simp
                                                  with_reducible rfl
                                                rotate_left
                                                · simp only [Act.put, List.setIfInBounds_toArray, List.set_cons_zero, List.set_cons_succ, i64_w, i32_w]
                                                  rfl
                                                refine take_ (i := 18) (N := some 162) (v := ?_) (a' := ?_) #[true, true, true, true, true, true, true, true, true, true, true, true, true, true, true, true, true, true, true, false, false, false, false, false, false] rfl rfl (take_ofW HT_.out HW_.out (by kernel_rfl)) (fun _ _ _ h => h) (Or.inl ⟨by rfl, ?_⟩) hHeld ?_ ?_
                                                rotate_left
                                                · rintro w' ⟨s0, s1, s2, s3, s4, s5, s6, s7, s8, s9, s10, s11, s12, s13, s14, s15, s16, s17, s18⟩
                                                  go_simp
                                                  with_reducible rfl
                                                rotate_left
                                                · simp only [Act.put, List.setIfInBounds_toArray, List.set_cons_zero, List.set_cons_succ, i64_w, i32_w]
                                                  rfl
                                                refine one_ (i := 19) (N := some 163) #[true, true, true, true, true, true, true, true, true, true, true, true, true, true, true, true, true, true, true, true, false, false, false, false, false] rfl rfl (one_of HT_.out (by kernel_rfl)) (by decide) (fun K hK => ?_)
                                                refine goes_ Try.func22 (by kernel_rfl) rfl #[.agg #[.int .i64 a0_0, .bool a0_1, .int .u64 a0_2, .int .u64 a0_3, .int .u64 a0_4, .int .u64 a0_5], .agg #[.int .u64 x120000_3, .int .u64 x120001_3, .int .u64 x120002_3, .bool x120003_3], .int .u64 (IntKind.u64.wrap (((rd_T28 l1 x15_3).f0) + a2)), .int .i64 ((rd_T28 l1 x15_3).f1), .int .i64 ((rd_T28 l1 x15_3).f2)] (by rfl) rfl rfl (by (try simp only [List.map_toArray, List.map_cons, List.map_nil]); first | done | rfl | (simp only [List.length_drop, List.length_take]; rfl)) ?_
                                                with_reducible refine (single_Step.calls kj75 a0_0 a0_1 a0_2 a0_3 a0_4 a0_5 x120000_3 x120001_3 x120002_3 x120003_3 (IntKind.u64.wrap (((rd_T28 l1 x15_3).f0) + a2)) ((rd_T28 l1 x15_3).f1) ((rd_T28 l1 x15_3).f2) t141 t142 t143 t144 t145 _ A83.out).mono ?_
                                                rintro e w88 ⟨rfl, hb⟩
                                                refine ⟨_, rfl, ?_⟩
                                                have n0_ := zq3 (Kd.R_below (by (with_reducible repeat (first | apply Kd.R_alloc | apply Kd.R_drewN | apply Kd.R_drew)); exact HO_11.out) hb)
                                                have n1_ := zq3 (zq10 (g := gb101) (o := .cells #[.int .i64 a0_0, .bool a0_1, .int .u64 a0_2, .int .u64 a0_3, .int .u64 a0_4, .int .u64 a0_5] 24 (0, 0)) (by (with_reducible repeat (first | refine zq0 ?_ _ | refine zq2 ?_ | refine zq1 ?_ _)); exact BK101.out) hb)
                                                have n2_ := zq3 (zq10 (g := gb107) (o := .cells #[.int .u64 t124, .int .u64 t125, .int .u64 t126, .bool t127] 26 (0, 0)) (by (with_reducible repeat (first | refine zq0 ?_ _ | refine zq2 ?_ | refine zq1 ?_ _)); exact BK107.out) hb)
                                                have n3_ := zq3 (zq10 (g := gb118) (o := .cells #[.int .u64 t132, .int .u64 t133, .int .u64 t134, .bool t135] 26 (0, 0)) (by (with_reducible repeat (first | refine zq0 ?_ _ | refine zq2 ?_ | refine zq1 ?_ _)); exact BK118.out) hb)
                                                have n4_ := zq3 (zq10 (g := gb119) (o := .cells #[.int .u64 x120000_3, .int .u64 x120001_3, .int .u64 x120002_3, .bool x120003_3] 26 (0, 0)) (by (with_reducible repeat (first | refine zq0 ?_ _ | refine zq2 ?_ | refine zq1 ?_ _)); exact BK119.out) hb)
                                                have n5_ := zq3 (below_step (by repeat (first | (with_reducible first | exact HB.out | apply zq9 | apply zq7 | apply zq8 | refine zq6 ?_ GE101.out | refine zq6 ?_ GE107.out | refine zq6 ?_ GE118.out | refine zq6 ?_ GE119.out) | exact HB.out)) hb)
                                                clear HO_11
                                                clear BK101
                                                clear BK107
                                                clear BK118
                                                clear BK119
                                                clear HB
                                                have HO_11 := n0_
                                                have BK101 := n1_
                                                have BK107 := n2_
                                                have BK118 := n3_
                                                have BK119 := n4_
                                                have HB := n5_
                                                clear n0_ n1_ n2_ n3_ n4_ n5_
                                                (try clear hb)
                                                (try clear hb2)
                                                (try clear hk)
                                                (try clear hi)
                                                refine hK.out _ _ ⟨(zq5 BK101.out 0).trans rfl, (zq5 BK101.out 1).trans rfl, (zq5 BK101.out 2).trans rfl, (zq5 BK101.out 3).trans rfl, (zq5 BK101.out 4).trans rfl, (zq5 BK101.out 5).trans rfl, (zq5 BK119.out 0).trans rfl, (zq5 BK119.out 1).trans rfl, (zq5 BK119.out 2).trans rfl, (zq5 BK119.out 3).trans rfl, ((HB.out.cell (World.block_lt_of_cell? w _ hw138_0)).trans hw138_0), ((HB.out.cell (World.block_lt_of_cell? w _ hw138_1)).trans hw138_1), ((HB.out.cell (World.block_lt_of_cell? w _ hw138_2)).trans hw138_2), ((HB.out.cell (World.block_lt_of_cell? w _ hw139_0)).trans hw139_0), ((HB.out.cell (World.block_lt_of_cell? w _ hw139_1)).trans hw139_1), ((HB.out.cell (World.block_lt_of_cell? w _ hw139_2)).trans hw139_2), ((HB.out.cell (World.block_lt_of_cell? w _ hw140_0)).trans hw140_0), ((HB.out.cell (World.block_lt_of_cell? w _ hw140_1)).trans hw140_1), ((HB.out.cell (World.block_lt_of_cell? w _ hw140_2)).trans hw140_2)⟩ (fun hHeld => ?_)
                                                clear hK K
                                                refine norm_ (a' := ?_) ?_ ?_
                                                rotate_left
                                                · show Act.put _ (some 163) _ = _
                                                  simp only [Act.put, List.setIfInBounds_toArray, List.set_cons_zero, List.set_cons_succ, i64_w, i32_w]
                                                  rfl
                                                refine pure_ (i := 20) (N := some 143) (v := ?_) (a' := ?_) #[true, true, true, true, true, true, true, true, true, true, true, true, true, true, true, true, true, true, true, true, true, false, false, false, false] rfl rfl (any_of HT_.out (by kernel_rfl)) (fun _ _ _ h => h) (Or.inl ⟨by rfl, ?_⟩) ?_ ?_
                                                rotate_left
                                                · intro w'
                                                  go_simp
                                                  with_reducible rfl
                                                rotate_left
                                                · simp only [Act.put, List.setIfInBounds_toArray, List.set_cons_zero, List.set_cons_succ, i64_w, i32_w]
                                                  rfl
                                                refine pure_ (i := 21) (N := some 164) (v := ?_) (a' := ?_) #[true, true, true, true, true, true, true, true, true, true, true, true, true, true, true, true, true, true, true, true, true, true, false, false, false] rfl rfl (any_of HT_.out (by kernel_rfl)) (fun _ _ _ h => h) (Or.inl ⟨by rfl, ?_⟩) ?_ ?_
                                                rotate_left
                                                · intro w'
                                                  go_simp
                                                  with_reducible rfl
                                                rotate_left
                                                · simp only [Act.put, List.setIfInBounds_toArray, List.set_cons_zero, List.set_cons_succ, i64_w, i32_w]
                                                  rfl
                                                refine pure_ (i := 22) (N := some 165) (v := ?_) (a' := ?_) #[true, true, true, true, true, true, true, true, true, true, true, true, true, true, true, true, true, true, true, true, true, true, true, false, false] rfl rfl (any_of HT_.out (by kernel_rfl)) (fun _ _ _ h => h) (Or.inl ⟨by rfl, ?_⟩) ?_ ?_
                                                rotate_left
                                                · intro w'
                                                  go_simp
                                                  with_reducible rfl
                                                rotate_left
                                                · simp only [Act.put, List.setIfInBounds_toArray, List.set_cons_zero, List.set_cons_succ, i64_w, i32_w]
                                                  rfl
                                                refine last_ (i := 23) (N := none) #[true, true, true, true, true, true, true, true, true, true, true, true, true, true, true, true, true, true, true, true, true, true, true, true, false] rfl rfl (one_of HT_.out (by kernel_rfl)) (by decide) (fun K hK => ?_)
                                                have hs89 : w88.cell? ⟨gb119, 0, none⟩ = some (.int .u64 x120000_3) := (zq5 BK119.out 0).trans rfl
                                                have hfs89 := zq4 BK119.out 0
                                                have hns89_0 := NB101_119.out
                                                have hns89_1 := NB107_119.out
                                                have hns89_2 := NB118_119.out
                                                have hms89_0 := NB119_101.out
                                                have hms89_1 := NB119_107.out
                                                have hms89_2 := NB119_118.out
                                                have hs90 : w88.cell? ⟨gb119, 1, none⟩ = some (.int .u64 x120001_3) := (zq5 BK119.out 1).trans rfl
                                                have hfs90 := zq4 BK119.out 1
                                                have hns90_0 := NB101_119.out
                                                have hns90_1 := NB107_119.out
                                                have hns90_2 := NB118_119.out
                                                have hms90_0 := NB119_101.out
                                                have hms90_1 := NB119_107.out
                                                have hms90_2 := NB119_118.out
                                                have hs91 : w88.cell? ⟨gb119, 2, none⟩ = some (.int .u64 x120002_3) := (zq5 BK119.out 2).trans rfl
                                                have hfs91 := zq4 BK119.out 2
                                                have hns91_0 := NB101_119.out
                                                have hns91_1 := NB107_119.out
                                                have hns91_2 := NB118_119.out
                                                have hms91_0 := NB119_101.out
                                                have hms91_1 := NB119_107.out
                                                have hms91_2 := NB119_118.out
                                                have hs92 : w88.cell? ⟨gb119, 3, none⟩ = some (.bool x120003_3) := (zq5 BK119.out 3).trans rfl
                                                have hfs92 := zq4 BK119.out 3
                                                have hns92_0 := NB101_119.out
                                                have hns92_1 := NB107_119.out
                                                have hns92_2 := NB118_119.out
                                                have hms92_0 := NB119_101.out
                                                have hms92_1 := NB119_107.out
                                                have hms92_2 := NB119_118.out
                                                refine skip_ (w1 := ?_) (by rfl) rfl ?_ ?_
                                                rotate_left
                                                · go_simp
                                                  rfl
                                                refine hK.out _ _ ?_
                                                clear hK K
                                                refine pure_ (i := 24) (N := some 18) (v := ?_) (a' := ?_) #[true, true, true, true, true, true, true, true, true, true, true, true, true, true, true, true, true, true, true, true, true, true, true, true, true] rfl rfl (any_of HT_.out (by kernel_rfl)) (fun _ _ _ h => h) (Or.inl ⟨by rfl, ?_⟩) ?_ ?_
                                                rotate_left
                                                · intro w'
                                                  go_simp
                                                  with_reducible rfl
                                                rotate_left
                                                · simp only [Act.put, List.setIfInBounds_toArray, List.set_cons_zero, List.set_cons_succ, i64_w, i32_w]
                                                  rfl
                                                refine done_ (done_of HT_.out (by kernel_rfl)) ?_
                                                have hnb93 := NB119_101.out
                                                have hnc93 := NB101_119.out
                                                have hnb94 := NB119_107.out
                                                have hnc94 := NB107_119.out
                                                have hnb95 := NB119_118.out
                                                have hnc95 := NB118_119.out
                                                have hcz96_0 : w88.cell? ⟨gb119, 0, none⟩ = some (.int .u64 x120000_3) := (zq5 BK119.out 0).trans rfl
                                                have hcz96_1 : w88.cell? ⟨gb119, 1, none⟩ = some (.int .u64 x120001_3) := (zq5 BK119.out 1).trans rfl
                                                have hcz96_2 : w88.cell? ⟨gb119, 2, none⟩ = some (.int .u64 x120002_3) := (zq5 BK119.out 2).trans rfl
                                                have hcz96_3 : w88.cell? ⟨gb119, 3, none⟩ = some (.bool x120003_3) := (zq5 BK119.out 3).trans rfl
                                                have hfz96_0 := zq4 BK119.out 0
                                                have hfz96_1 := zq4 BK119.out 1
                                                have hfz96_2 := zq4 BK119.out 2
                                                have hfz96_3 := zq4 BK119.out 3
                                                have hnb97 := NB107_101.out
                                                have hnc97 := NB101_107.out
                                                have hnb98 := NB107_118.out
                                                have hnc98 := NB118_107.out
                                                have hcz99_0 : w88.cell? ⟨gb107, 0, none⟩ = some (.int .u64 t124) := (zq5 BK107.out 0).trans rfl
                                                have hcz99_1 : w88.cell? ⟨gb107, 1, none⟩ = some (.int .u64 t125) := (zq5 BK107.out 1).trans rfl
                                                have hcz99_2 : w88.cell? ⟨gb107, 2, none⟩ = some (.int .u64 t126) := (zq5 BK107.out 2).trans rfl
                                                have hcz99_3 : w88.cell? ⟨gb107, 3, none⟩ = some (.bool t127) := (zq5 BK107.out 3).trans rfl
                                                have hfz99_0 := zq4 BK107.out 0
                                                have hfz99_1 := zq4 BK107.out 1
                                                have hfz99_2 := zq4 BK107.out 2
                                                have hfz99_3 := zq4 BK107.out 3
                                                try go_wp2
                                                go_roundg kj75
                                                case measure => have := HJ4.out; have := HK2.out; have := HK3.out; have := HJ44.out; have := HJ75.out; omega
                                                case rel => exact ⟨(true), (wrap64 (x15_3 + 1)), (t124), (t125), (t126), (t127), (t132), (t133), (t134), (t135), (t141), (t142), (t143), (t144), (by first | rfl | (simp; done) | (simp [*]; done)), (by first | rfl | (simp; done) | (simp [*]; done)), H', ⟨by have := HJ4.out; have := HK2.out; have := HK3.out; have := HJ44.out; have := HJ75.out; omega⟩, ⟨by (with_reducible repeat (first | apply Kd.R_alloc | apply Kd.R_drewN | apply Kd.R_drew)); exact Kd.R_mono (Kd.R_far (p := ⟨gb119, 3, none⟩) (Kd.R_far (p := ⟨gb119, 2, none⟩) (Kd.R_far (p := ⟨gb119, 1, none⟩) (Kd.R_far (p := ⟨gb119, 0, none⟩) (Kd.R_types HO_11.out BK119.out (by decide)) (fun _ hk => hk.2) (.int .u64 t141)) (fun _ hk => hk.2) (.int .u64 t142)) (fun _ hk => hk.2) (.int .u64 t143)) (fun _ hk => hk.2) (.bool t144)) (fun _ hk => trivial)⟩, ⟨by (with_reducible repeat (first | refine zq0 ?_ _ | refine zq2 ?_ | refine zq1 ?_ _)); refine zq11 ?_ NB101_119.out _; (with_reducible repeat (first | refine zq0 ?_ _ | refine zq2 ?_ | refine zq1 ?_ _)); refine zq11 ?_ NB101_119.out _; (with_reducible repeat (first | refine zq0 ?_ _ | refine zq2 ?_ | refine zq1 ?_ _)); refine zq11 ?_ NB101_119.out _; (with_reducible repeat (first | refine zq0 ?_ _ | refine zq2 ?_ | refine zq1 ?_ _)); refine zq11 ?_ NB101_119.out _; (with_reducible repeat (first | refine zq0 ?_ _ | refine zq2 ?_ | refine zq1 ?_ _)); exact BK101.out⟩, ⟨by (with_reducible repeat (first | refine zq0 ?_ _ | refine zq2 ?_ | refine zq1 ?_ _)); refine zq11 ?_ NB107_119.out _; (with_reducible repeat (first | refine zq0 ?_ _ | refine zq2 ?_ | refine zq1 ?_ _)); refine zq11 ?_ NB107_119.out _; (with_reducible repeat (first | refine zq0 ?_ _ | refine zq2 ?_ | refine zq1 ?_ _)); refine zq11 ?_ NB107_119.out _; (with_reducible repeat (first | refine zq0 ?_ _ | refine zq2 ?_ | refine zq1 ?_ _)); refine zq11 ?_ NB107_119.out _; (with_reducible repeat (first | refine zq0 ?_ _ | refine zq2 ?_ | refine zq1 ?_ _)); exact BK107.out⟩, ⟨by (with_reducible repeat (first | refine zq0 ?_ _ | refine zq2 ?_ | refine zq1 ?_ _)); refine zq11 ?_ NB118_119.out _; (with_reducible repeat (first | refine zq0 ?_ _ | refine zq2 ?_ | refine zq1 ?_ _)); refine zq11 ?_ NB118_119.out _; (with_reducible repeat (first | refine zq0 ?_ _ | refine zq2 ?_ | refine zq1 ?_ _)); refine zq11 ?_ NB118_119.out _; (with_reducible repeat (first | refine zq0 ?_ _ | refine zq2 ?_ | refine zq1 ?_ _)); refine zq11 ?_ NB118_119.out _; (with_reducible repeat (first | refine zq0 ?_ _ | refine zq2 ?_ | refine zq1 ?_ _)); exact BK118.out⟩, ⟨by (with_reducible repeat (first | refine zq0 ?_ _ | refine zq2 ?_ | refine zq1 ?_ _)); refine blk_put (cs := #[.int .u64 t141, .int .u64 t142, .int .u64 t143, .bool x120003_3]) ?_ 3 _ rfl; (with_reducible repeat (first | refine zq0 ?_ _ | refine zq2 ?_ | refine zq1 ?_ _)); refine blk_put (cs := #[.int .u64 t141, .int .u64 t142, .int .u64 x120002_3, .bool x120003_3]) ?_ 2 _ rfl; (with_reducible repeat (first | refine zq0 ?_ _ | refine zq2 ?_ | refine zq1 ?_ _)); refine blk_put (cs := #[.int .u64 t141, .int .u64 x120001_3, .int .u64 x120002_3, .bool x120003_3]) ?_ 1 _ rfl; (with_reducible repeat (first | refine zq0 ?_ _ | refine zq2 ?_ | refine zq1 ?_ _)); refine blk_put (cs := #[.int .u64 x120000_3, .int .u64 x120001_3, .int .u64 x120002_3, .bool x120003_3]) ?_ 0 _ rfl; (with_reducible repeat (first | refine zq0 ?_ _ | refine zq2 ?_ | refine zq1 ?_ _)); exact BK119.out⟩, ⟨by repeat (first | (with_reducible first | exact HB.out | apply zq9 | apply zq7 | apply zq8 | refine zq6 ?_ GE101.out | refine zq6 ?_ GE107.out | refine zq6 ?_ GE118.out | refine zq6 ?_ GE119.out) | exact HB.out)⟩⟩
                                              · rw [if_neg c86] at H
                                                exact absurd H (by simp)
                                            · rw [if_neg c85] at H
                                              exact absurd H (by simp)
                                          · rw [if_neg c84] at H
                                            exact absurd H (by simp)
                                        · rw [if_neg c82] at H
                                          exact absurd H (by simp)
                                      · rw [if_neg c81] at H
                                        exact absurd H (by simp)
                                    · replace c80 := Bool.eq_false_iff.mpr c80
                                      subst c80
                                      have H1 : (weighbridgetop_WholeClock.l1 kj75 l1 a2 t115 false (wrap64 (x15_3 + 1)) a0_0 a0_1 a0_2 a0_3 a0_4 a0_5 t124 t125 t126 t127 t132 t133 t134 t135 x120000_3 x120001_3 x120002_3 x120003_3) = some r := by rw [if_neg (show ¬ (false = true) by decide)] at H; exact H
                                      clear H
                                      have H := H1
                                      clear H1
                                      have H' := zq3 H
                                      clear H
                                      go_wp2
                                      go_roundg kj75
                                      case measure => have := HJ4.out; have := HK2.out; have := HK3.out; have := HJ44.out; have := HJ75.out; omega
                                      case rel => exact ⟨(false), (wrap64 (x15_3 + 1)), (t124), (t125), (t126), (t127), (t132), (t133), (t134), (t135), (x120000_3), (x120001_3), (x120002_3), (x120003_3), (by first | rfl | (simp; done) | (simp [*]; done)), (by first | rfl | (simp; done) | (simp [*]; done)), H', ⟨by have := HJ4.out; have := HK2.out; have := HK3.out; have := HJ44.out; have := HJ75.out; omega⟩, ⟨by (with_reducible repeat (first | apply Kd.R_alloc | apply Kd.R_drewN | apply Kd.R_drew)); exact HO_11.out⟩, ⟨by (with_reducible repeat (first | refine zq0 ?_ _ | refine zq2 ?_ | refine zq1 ?_ _)); exact BK101.out⟩, ⟨by (with_reducible repeat (first | refine zq0 ?_ _ | refine zq2 ?_ | refine zq1 ?_ _)); exact BK107.out⟩, ⟨by (with_reducible repeat (first | refine zq0 ?_ _ | refine zq2 ?_ | refine zq1 ?_ _)); exact BK118.out⟩, ⟨by (with_reducible repeat (first | refine zq0 ?_ _ | refine zq2 ?_ | refine zq1 ?_ _)); exact BK119.out⟩, ⟨by repeat (first | (with_reducible first | exact HB.out | apply zq9 | apply zq7 | apply zq8 | refine zq6 ?_ GE101.out | refine zq6 ?_ GE107.out | refine zq6 ?_ GE118.out | refine zq6 ?_ GE119.out) | exact HB.out)⟩⟩
                        · rw [if_neg c43] at H
                          exact absurd H (by simp)
                      · rw [if_neg c41] at H
                        exact absurd H (by simp)
                    · rw [if_neg c40] at H
                      have c40b0 : decide (x15_3 < (l1.length : Int)) = false := decide_eq_false c40
                      clear c40
                      replace H := Option.bind_eq_some_iff.mp H
                      obtain ⟨t120, A1000, H⟩ := H
                      replace H : (some (t120 == 10)) = some r := H
                      have A100 := zq3 A1000
                      clear A1000
                      obtain rfl := Option.some.inj H
                      go_wp2_with (first | ((with_reducible refine gate_callee (f := 25) rfl ?_); refine goesL_ (some 184) rfl rfl Try.func25 (by kernel_rfl) rfl #[.agg #[.int .i64 0, .bool false, .int .u64 0, .int .u64 0, .int .u64 0, .int .u64 0]] rfl (by (try simp only [List.map_toArray, List.map_cons, List.map_nil]); first | done | rfl | (simp only [List.length_drop, List.length_take]; rfl)) ?_; (with_reducible refine (single_Check.calls k3 0 false 0 0 0 0 t120 _ A100.out).mono ?_); rintro e w101 ⟨rfl, hb⟩; refine ⟨_, rfl, ?_⟩; have n0_ := zq3 (Kd.R_below (by (with_reducible repeat (first | apply Kd.R_alloc | apply Kd.R_drewN | apply Kd.R_drew)); exact HO_11.out) hb); have n1_ := zq3 (zq10 (g := gb101) (o := .cells #[.int .i64 a0_0, .bool a0_1, .int .u64 a0_2, .int .u64 a0_3, .int .u64 a0_4, .int .u64 a0_5] 24 (0, 0)) (by (with_reducible repeat (first | refine zq0 ?_ _ | refine zq2 ?_ | refine zq1 ?_ _)); exact BK101.out) hb); have n2_ := zq3 (zq10 (g := gb107) (o := .cells #[.int .u64 x108000_3, .int .u64 x108001_3, .int .u64 x108002_3, .bool x108003_3] 26 (0, 0)) (by (with_reducible repeat (first | refine zq0 ?_ _ | refine zq2 ?_ | refine zq1 ?_ _)); exact BK107.out) hb); have n3_ := zq3 (zq10 (g := gb118) (o := .cells #[.int .u64 x119000_3, .int .u64 x119001_3, .int .u64 x119002_3, .bool x119003_3] 26 (0, 0)) (by (with_reducible repeat (first | refine zq0 ?_ _ | refine zq2 ?_ | refine zq1 ?_ _)); exact BK118.out) hb); have n4_ := zq3 (zq10 (g := gb119) (o := .cells #[.int .u64 x120000_3, .int .u64 x120001_3, .int .u64 x120002_3, .bool x120003_3] 26 (0, 0)) (by (with_reducible repeat (first | refine zq0 ?_ _ | refine zq2 ?_ | refine zq1 ?_ _)); exact BK119.out) hb); have n5_ := zq3 (below_step (by repeat (first | (with_reducible first | exact HB.out | apply zq9 | apply zq7 | apply zq8 | refine zq6 ?_ GE101.out | refine zq6 ?_ GE107.out | refine zq6 ?_ GE118.out | refine zq6 ?_ GE119.out) | exact HB.out)) hb); clear HO_11; clear BK101; clear BK107; clear BK118; clear BK119; clear HB; have HO_11 := n0_; have BK101 := n1_; have BK107 := n2_; have BK118 := n3_; have BK119 := n4_; have HB := n5_; clear n0_ n1_ n2_ n3_ n4_ n5_; (try clear hb); (try clear hb2); (try clear hk); (try clear hi)))
                      go_ret
                      exact ⟨by first | rfl | (simp [errW_none, errW_some] <;> rfl) | (simp [*, errW_none, errW_some] <;> rfl), by repeat (first | (with_reducible first | exact HB.out | apply zq9 | apply zq7 | apply zq8 | refine zq6 ?_ GE101.out | refine zq6 ?_ GE107.out | refine zq6 ?_ GE118.out | refine zq6 ?_ GE119.out) | exact HB.out)⟩
              · rw [if_neg c24] at H
                exact absurd H (by simp)

end Go.Proofs.Ytkefamalcmglgaa.P
