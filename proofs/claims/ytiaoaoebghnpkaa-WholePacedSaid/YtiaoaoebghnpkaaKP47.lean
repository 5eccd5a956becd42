/- Part of the proof. -/
import Derived.Test.YtiaoaoebghnpkaaKP10
import Derived.Test.YtiaoaoebghnpkaaKP2
import Derived.Test.YtiaoaoebghnpkaaKP26
import Derived.Test.YtiaoaoebghnpkaaKP46
import Derived.Test.YtiaoaoebghnpkaaKP45
import Derived.Test.YtiaoaoebghnpkaaKP30
namespace Go.Proofs.Ytiaoaoebghnpkaa.P
open Go.RowKit Go.Proofs.YtiaoaoebghnpkaaW.PrintWords Go.Proofs.YtiaoaoebghnpkaaW.PrintLast Go.Proofs.YtiaoaoebghnpkaaW.PrintMore
attribute [local go_sem] max2_int min2_int max_two min_two max_three min_three max_four min_four   -- for this text's walks alone
set_option linter.unusedVariables false
set_option linter.unusedSimpArgs false

attribute [local go_sem high] eqA26
/-! ### weighbridgetop_WholePaced: function 10 -/
mutual
def weighbridgetop_WholePaced.j1 : Nat → List Int → Int → Bool → Int → Int → Int → Int → Option (Bool)
  | 0, _, _, _, _, _, _, _ => none
  | k + 1, x6, x103000, x103001, x103002, x103003, x103004, x103005 => (outlook_Pace.f k x103000 x103001 x103002 x103003 x103004 x103005 x6 0).bind fun bt107 => (if (!(bt107.2.1 == 0) || (!(bt107.2.2 == 0))) = true then (if bt107.2.1 = 8 then (some ((bt107.1.length : Int) == 0)) else (none)) else (if (bt107.1.length : Int) = (x6.length : Int) then (weighbridgetop_WholePaced.l1 k x6 bt107.1 ([] : List (S68)) 0 x103000 x103001 x103002 x103003 x103004 x103005) else (none)))
def weighbridgetop_WholePaced.l1 : Nat → List Int → List Int → List (S68) → Int → Int → Bool → Int → Int → Int → Int → Option (Bool)
  | 0, _, _, _, _, _, _, _, _, _, _ => none
  | k + 1, x6, x8, x10, x11, x103000, x103001, x103002, x103003, x103004, x103005 => if x11 < (x8.length : Int) then (if 0 ≤ x11 then (if x11 < (x6.length : Int) then (if x10.length < 8796093022208 then (weighbridgetop_WholePaced.l1 k x6 x8 (x10 ++ [(⟨rd x8 x11, rd x6 x11⟩ : S68)]) (wrap64 (x11 + 1)) x103000 x103001 x103002 x103003 x103004 x103005) else (none)) else (none)) else (none)) else ((curve_Breaks.f x10 x103002 x103004).bind fun bt118 => (if (!(bt118.2.2.1 == 0) || (!(bt118.2.2.2 == 0))) = true then (none) else (if (wrap64 ((x10.length : Int) - 1)) > 0 then (if 0 ≤ (wrap64 ((x10.length : Int) - 1)) then (if (wrap64 ((x10.length : Int) - 1)) < (x10.length : Int) then (if 0 ≤ (wrap64 ((wrap64 ((x10.length : Int) - 1)) - 1)) then (if (wrap64 ((wrap64 ((x10.length : Int) - 1)) - 1)) < (x10.length : Int) then (weighbridgetop_WholePaced.j3 k x10 (wrap64 ((x10.length : Int) - 1)) (decide (((rd_T68 x10 (wrap64 ((x10.length : Int) - 1))).f0) > ((rd_T68 x10 (wrap64 ((wrap64 ((x10.length : Int) - 1)) - 1))).f0))) x103000 x103001 x103002 x103003 x103004 x103005) else (none)) else (none)) else (none)) else (none)) else (weighbridgetop_WholePaced.j3 k x10 (wrap64 ((x10.length : Int) - 1)) false x103000 x103001 x103002 x103003 x103004 x103005))))
def weighbridgetop_WholePaced.j3 : Nat → List (S68) → Int → Bool → Int → Bool → Int → Int → Int → Int → Option (Bool)
  | 0, _, _, _, _, _, _, _, _, _ => none
  | k + 1, x10, x15, x120, x103000, x103001, x103002, x103003, x103004, x103005 => if x120 = true then (if 0 ≤ x15 then (if x15 < (x10.length : Int) then ((curve_Breaks.f (x10.set (x15 : Int).toNat (⟨IntKind.u64.wrap (((rd_T68 x10 x15).f0) - 1), (rd_T68 x10 x15).f1⟩ : S68)) x103002 x103004).bind fun bt127 => (if (!(bt127.2.2.1 == 17) || (!(bt127.2.2.2 == x15))) = true then (none) else (weighbridgetop_WholePaced.j4 k (bt127.2.1 != x15) x103000 x103001 x103002 x103003 x103004 x103005))) else (none)) else (none)) else ((curve_Least.f (([(⟨0, 3⟩ : S68)] : List (S68))) 0).bind fun bt145 => ((outlook_Idle.f x103000 x103001 x103002 x103003 x103004 x103005 0 0 0 true).bind fun bt149 => (if bt145.1 = 3 then ((meter_Check.f x103000 x103001 x103002 x103003 x103004 x103005).bind fun t151 => (if t151 = 0 then (if (bt149.2 == (decide (x103002 > 0))) = true then (if bt149.2 = true then (some (decide (bt149.1 > 0))) else (some true)) else (none)) else (none))) else (none))))
def weighbridgetop_WholePaced.j4 : Nat → Bool → Int → Bool → Int → Int → Int → Int → Option (Bool)
  | 0, _, _, _, _, _, _, _ => none
  | k + 1, x147, x103000, x103001, x103002, x103003, x103004, x103005 => if x147 = true then (none) else ((curve_Least.f (([(⟨0, 3⟩ : S68)] : List (S68))) 0).bind fun bt135 => ((outlook_Idle.f x103000 x103001 x103002 x103003 x103004 x103005 0 0 0 true).bind fun bt139 => (if bt135.1 = 3 then ((meter_Check.f x103000 x103001 x103002 x103003 x103004 x103005).bind fun t141 => (if t141 = 0 then (if (bt139.2 == (decide (x103002 > 0))) = true then (if bt139.2 = true then (some (decide (bt139.1 > 0))) else (some true)) else (none)) else (none))) else (none))))
def weighbridgetop_WholePaced.l0 : Nat → List Int → List Int → Int → Int → Bool → Int → Int → Int → Int → Option (Bool)
  | 0, _, _, _, _, _, _, _, _, _ => none
  | k + 1, x1, x6, x7, x103000, x103001, x103002, x103003, x103004, x103005 => if x7 < (x1.length : Int) then (if x7 < 30 then (if 0 ≤ x7 then (if x6.length < 17592186044416 then (weighbridgetop_WholePaced.l0 k x1 (x6 ++ [wrap64 (rd x1 x7)]) (wrap64 (x7 + 1)) x103000 x103001 x103002 x103003 x103004 x103005) else (none)) else (none)) else (weighbridgetop_WholePaced.j1 k x6 x103000 x103001 x103002 x103003 x103004 x103005)) else (weighbridgetop_WholePaced.j1 k x6 x103000 x103001 x103002 x103003 x103004 x103005)
end
def weighbridgetop_WholePaced.f (k : Nat) (a0_0 : Int) (a0_1 : Int) (l1 : List Int) : Option (Bool) := weighbridgetop_WholePaced.l0 k l1 ([] : List Int) 0 1 false (Int.tmod a0_0 1099511627777) 0 (IntKind.u64.wrap (1 + (Int.tmod a0_1 4294967296))) 0
def weighbridgetop_WholePaced.T16 : Bool × List (List Nat × List Nat) := (true, [([], []), ([], []), ([], []), ([1, 2], [1, 2]), ([3], [3]), ([], []), ([], []), ([5, 6], [5, 6]), ([7], [7]), ([4, 8], [4, 8]), ([9], [9]), ([0, 10], [0, 10]), ([11, 11, 0, 1, 2, 3, 4, 5, 6, 7, 8, 9, 10, 11], [0, 11])])
def weighbridgetop_WholePaced.B16 : List Nat := [0, 0, 0, 6, 14, 0, 0, 96, 224, 510, 1022, 2047, 4095]
theorem weighbridgetop_WholePaced.tab16 : rtab .any (opsOf Try.f10 16) = weighbridgetop_WholePaced.T16 := by kernel_rfl
theorem weighbridgetop_WholePaced.bits16 : waitsOk weighbridgetop_WholePaced.T16.2 weighbridgetop_WholePaced.B16 = true := by kernel_rfl
def weighbridgetop_WholePaced.T21 : Bool × List (List Nat × List Nat) := (true, [([], []), ([0], [0]), ([1], [1]), ([2], [2]), ([2], [2]), ([3, 4, 2], [2, 3, 4]), ([5, 2], [2, 5]), ([6, 2], [2, 6]), ([2], [2]), ([2], [2]), ([9, 2], [2, 9]), ([8, 10, 2], [2, 8, 10]), ([11, 2], [2, 11]), ([12, 2], [2, 12]), ([7, 13, 2], [2, 7, 13]), ([2, 14], [2, 14])])
def weighbridgetop_WholePaced.B21 : List Nat := [0, 1, 3, 7, 7, 31, 63, 127, 7, 7, 519, 1799, 3847, 7943, 16383, 32767]
theorem weighbridgetop_WholePaced.tab21 : rtab .any (opsOf Try.f10 21) = weighbridgetop_WholePaced.T21 := by kernel_rfl
theorem weighbridgetop_WholePaced.bits21 : waitsOk weighbridgetop_WholePaced.T21.2 weighbridgetop_WholePaced.B21 = true := by kernel_rfl
set_option maxHeartbeats 8000000 in
set_option maxRecDepth 100000 in
theorem weighbridgetop_WholePaced.calls (k : Nat) (a0_0 : Int) (a0_1 : Int) (A1 : Option Addr) (c1 : Nat) (l1 : List Int) (r : Bool) (w : World) (hr1 : Kd.C (Kd.int .u16) w A1 l1.length l1) (hc1 : l1.length ≤ c1) (h : weighbridgetop_WholePaced.f k a0_0 a0_1 l1 = some r) :
    Calls Try.prog 10 #[.agg #[.int .u64 a0_0, .int .u64 a0_1], .slice A1 l1.length c1] w fun e w' => e = .returned (.bool r) ∧ Below w.heap.size w w' := by
  have hu39 := Try.underlying39
  have hu49 := Try.underlying49
  have hu26 := Try.underlying26
  have hu68 := Try.underlying68
  have hu51 := Try.underlying51
  have HR1 := zq3 hr1
  have HC1 := zq3 hc1
  clear hr1 hc1
  have HB := zq3 (Below.refl w.heap.size w)
  have H : (weighbridgetop_WholePaced.l0 k l1 ([] : List Int) 0 1 false (Int.tmod a0_0 1099511627777) 0 (IntKind.u64.wrap (1 + (Int.tmod a0_1 4294967296))) 0) = some r := h
  clear h
  have HC3 := zq3 H
  clear H
  go_enter Try.func10, Try.ntmps10
  go_upto_block 0 with (first | ((with_reducible refine gate_dst (N := 2) rfl ?_); (try (refine gate_guard (by rfl) ?_; dsimp only)); refine box_event ?hg (N := 2) ?hd (cs := #[.int .u64 a0_0, .int .u64 a0_1]) (t := 39) ?hr ?_; (case hd => rfl); (case hg => rfl); (case hr => first | (go_simp; done) | (go_simp; rfl)); intro gb101 hg w4 hbox hb; have n0_ := zq3 (below_step (by repeat (first | (with_reducible first | exact HB.out | apply zq9 | apply zq7 | apply zq8) | exact HB.out)) hb); have n1_ := zq3 (hbox); have n2_ := zq3 ((by rw [hg]; exact (below_size (by repeat (first | (with_reducible first | exact HB.out | apply zq9 | apply zq7 | apply zq8) | exact HB.out))) : w.heap.size ≤ gb101)); have n3_ := zq3 ((by rw [hg]; exact (below_size (by repeat (first | (with_reducible first | exact HB.out | apply zq9 | apply zq7 | apply zq8) | exact HB.out))) : w.heap.size ≤ gb101)); clear HB; have HB := n0_; have BK101 := n1_; have GW101 := n2_; have GE101 := n3_; clear n0_ n1_ n2_ n3_; clear hb hbox hg; have hcz5_0 : w4.cell? ⟨gb101, 0, none⟩ = some (.int .u64 a0_0) := (zq5 BK101.out 0).trans rfl; have hcz5_1 : w4.cell? ⟨gb101, 1, none⟩ = some (.int .u64 a0_1) := (zq5 BK101.out 1).trans rfl; have hfz5_0 := zq4 BK101.out 0; have hfz5_1 := zq4 BK101.out 1) | ((with_reducible refine gate_dst (N := 5) rfl ?_); (try (refine gate_guard (by rfl) ?_; dsimp only)); refine box_event ?hg (N := 5) ?hd (cs := #[.int .i64 0, .bool false, .int .u64 0, .int .u64 0, .int .u64 0, .int .u64 0]) (t := 49) ?hr ?_; (case hd => rfl); (case hg => rfl); (case hr => first | (go_simp; done) | (go_simp; rfl)); intro gb102 hg w6 hbox hb; have n0_ := zq3 (zq10 (g := gb101) (o := .cells #[.int .u64 a0_0, .int .u64 a0_1] 39 (0, 0)) (by (with_reducible repeat (first | refine zq0 ?_ _ | refine zq2 ?_ | refine zq1 ?_ _)); exact BK101.out) hb); have n1_ := zq3 (below_step (by repeat (first | (with_reducible first | exact HB.out | apply zq9 | apply zq7 | apply zq8 | refine zq6 ?_ GE101.out) | exact HB.out)) hb); have n2_ := zq3 (hbox); have n3_ := zq3 ((by rw [hg]; exact (below_size (by repeat (first | (with_reducible first | exact HB.out | apply zq9 | apply zq7 | apply zq8 | refine zq6 ?_ GE101.out) | exact HB.out))) : w.heap.size ≤ gb102)); have n4_ := zq3 ((by rw [hg]; exact (below_size (by repeat (first | (with_reducible first | exact HB.out | apply zq9 | apply zq7 | apply zq8 | refine zq6 ?_ GE101.out) | exact HB.out))) : w.heap.size ≤ gb102)); have n5_ := zq3 ((by rw [hg]; exact Nat.ne_of_lt (blk_lt (g := gb101) (o := .cells #[.int .u64 a0_0, .int .u64 a0_1] 39 (0, 0)) (by (with_reducible repeat (first | refine zq0 ?_ _ | refine zq2 ?_ | refine zq1 ?_ _)); exact BK101.out)) : gb101 ≠ gb102)); have n6_ := zq3 ((by rw [hg]; exact Nat.ne_of_gt (blk_lt (g := gb101) (o := .cells #[.int .u64 a0_0, .int .u64 a0_1] 39 (0, 0)) (by (with_reducible repeat (first | refine zq0 ?_ _ | refine zq2 ?_ | refine zq1 ?_ _)); exact BK101.out)) : gb102 ≠ gb101)); clear BK101; clear HB; have BK101 := n0_; have HB := n1_; have BK102 := n2_; have GW102 := n3_; have GE102 := n4_; have NB101_102 := n5_; have NB102_101 := n6_; clear n0_ n1_ n2_ n3_ n4_ n5_ n6_; clear hb hbox hg; have hnb7 := NB102_101.out; have hnc7 := NB101_102.out; have hcz8_0 : w6.cell? ⟨gb102, 0, none⟩ = some (.int .i64 0) := (zq5 BK102.out 0).trans rfl; have hcz8_1 : w6.cell? ⟨gb102, 1, none⟩ = some (.bool false) := (zq5 BK102.out 1).trans rfl; have hcz8_2 : w6.cell? ⟨gb102, 2, none⟩ = some (.int .u64 0) := (zq5 BK102.out 2).trans rfl; have hcz8_3 : w6.cell? ⟨gb102, 3, none⟩ = some (.int .u64 0) := (zq5 BK102.out 3).trans rfl; have hcz8_4 : w6.cell? ⟨gb102, 4, none⟩ = some (.int .u64 0) := (zq5 BK102.out 4).trans rfl; have hcz8_5 : w6.cell? ⟨gb102, 5, none⟩ = some (.int .u64 0) := (zq5 BK102.out 5).trans rfl; have hfz8_0 := zq4 BK102.out 0; have hfz8_1 := zq4 BK102.out 1; have hfz8_2 := zq4 BK102.out 2; have hfz8_3 := zq4 BK102.out 3; have hfz8_4 := zq4 BK102.out 4; have hfz8_5 := zq4 BK102.out 5))
  (try simp only [Act.put, List.setIfInBounds_toArray, List.set_cons_zero, List.set_cons_succ])
  go_cut [6] (fun v6 wc => ∃ (kq : Nat) (x6_2 : List Int), Aside0 (weighbridgetop_WholePaced.j1 kq x6_2 1 false (Int.tmod a0_0 1099511627777) 0 (IntKind.u64.wrap (1 + (Int.tmod a0_1 4294967296))) 0 = some r) ∧ Aside0 (kq ≤ k) ∧ Aside0 (Kd.R (Kd.int .i64) 3 wc w.heap.size (fun _ => True) v6 x6_2) ∧ Aside0 (wc.heap[gb101]? = some (.cells #[.int .u64 a0_0, .int .u64 a0_1] 39 (0, 0))) ∧ Aside0 (wc.heap[gb102]? = some (.cells #[.int .i64 1, .bool false, .int .u64 (Int.tmod a0_0 1099511627777), .int .u64 0, .int .u64 (IntKind.u64.wrap (1 + (Int.tmod a0_1 4294967296))), .int .u64 0] 49 (0, 0))) ∧ Aside0 (Below w.heap.size w wc))
  case first =>
    have H := HC3.out
    clear HC3
    have H' := zq3 H
    clear H
    go_wp2
    go_loopg [6, 7] k (fun kq v6 v7 w' => ∃ (x6_1 : List Int) (x7_1 : Int), v7 = .int .i64 x7_1 ∧ Aside0 (weighbridgetop_WholePaced.l0 kq l1 x6_1 x7_1 1 false (Int.tmod a0_0 1099511627777) 0 (IntKind.u64.wrap (1 + (Int.tmod a0_1 4294967296))) 0 = some r) ∧ Aside0 (kq ≤ k) ∧ Aside0 (Kd.R (Kd.int .i64) 3 w' w.heap.size (fun _ => True) v6 x6_1) ∧ Aside0 (w'.heap[gb101]? = some (.cells #[.int .u64 a0_0, .int .u64 a0_1] 39 (0, 0))) ∧ Aside0 (w'.heap[gb102]? = some (.cells #[.int .i64 1, .bool false, .int .u64 (Int.tmod a0_0 1099511627777), .int .u64 0, .int .u64 (IntKind.u64.wrap (1 + (Int.tmod a0_1 4294967296))), .int .u64 0] 49 (0, 0))) ∧ Aside0 (Below w.heap.size w w'))
    case atStart => exact ⟨(([] : List Int)), (0), (by first | rfl | (simp; done) | (simp [*]; done)), H', ⟨Nat.le_refl _⟩, ⟨by first | exact Kd.R_nil _ _ _ _ _ | exact Kd.N_nil _ _ _ _ _ | exact Kd.V_nil _ _ _ _ _ | exact Kd.Q_nil _ _ _ _ _ | exact Kd.S_nil _ _ _ _ _⟩, ⟨by (with_reducible repeat (first | refine zq0 ?_ _ | refine zq2 ?_ | refine zq1 ?_ _)); refine zq11 ?_ NB101_102.out _; (with_reducible repeat (first | refine zq0 ?_ _ | refine zq2 ?_ | refine zq1 ?_ _)); refine zq11 ?_ NB101_102.out _; (with_reducible repeat (first | refine zq0 ?_ _ | refine zq2 ?_ | refine zq1 ?_ _)); refine zq11 ?_ NB101_102.out _; (with_reducible repeat (first | refine zq0 ?_ _ | refine zq2 ?_ | refine zq1 ?_ _)); refine zq11 ?_ NB101_102.out _; (with_reducible repeat (first | refine zq0 ?_ _ | refine zq2 ?_ | refine zq1 ?_ _)); refine zq11 ?_ NB101_102.out _; (with_reducible repeat (first | refine zq0 ?_ _ | refine zq2 ?_ | refine zq1 ?_ _)); refine zq11 ?_ NB101_102.out _; (with_reducible repeat (first | refine zq0 ?_ _ | refine zq2 ?_ | refine zq1 ?_ _)); exact BK101.out⟩, ⟨by (with_reducible repeat (first | refine zq0 ?_ _ | refine zq2 ?_ | refine zq1 ?_ _)); refine blk_put (cs := #[.int .i64 1, .bool false, .int .u64 (Int.tmod a0_0 1099511627777), .int .u64 0, .int .u64 (IntKind.u64.wrap (1 + (Int.tmod a0_1 4294967296))), .int .u64 0]) ?_ 5 _ rfl; (with_reducible repeat (first | refine zq0 ?_ _ | refine zq2 ?_ | refine zq1 ?_ _)); refine blk_put (cs := #[.int .i64 1, .bool false, .int .u64 (Int.tmod a0_0 1099511627777), .int .u64 0, .int .u64 0, .int .u64 0]) ?_ 4 _ rfl; (with_reducible repeat (first | refine zq0 ?_ _ | refine zq2 ?_ | refine zq1 ?_ _)); refine blk_put (cs := #[.int .i64 1, .bool false, .int .u64 (Int.tmod a0_0 1099511627777), .int .u64 0, .int .u64 0, .int .u64 0]) ?_ 3 _ rfl; (with_reducible repeat (first | refine zq0 ?_ _ | refine zq2 ?_ | refine zq1 ?_ _)); refine blk_put (cs := #[.int .i64 1, .bool false, .int .u64 0, .int .u64 0, .int .u64 0, .int .u64 0]) ?_ 2 _ rfl; (with_reducible repeat (first | refine zq0 ?_ _ | refine zq2 ?_ | refine zq1 ?_ _)); refine blk_put (cs := #[.int .i64 1, .bool false, .int .u64 0, .int .u64 0, .int .u64 0, .int .u64 0]) ?_ 1 _ rfl; (with_reducible repeat (first | refine zq0 ?_ _ | refine zq2 ?_ | refine zq1 ?_ _)); refine blk_put (cs := #[.int .i64 0, .bool false, .int .u64 0, .int .u64 0, .int .u64 0, .int .u64 0]) ?_ 0 _ rfl; (with_reducible repeat (first | refine zq0 ?_ _ | refine zq2 ?_ | refine zq1 ?_ _)); exact BK102.out⟩, ⟨by repeat (first | (with_reducible first | exact HB.out | apply zq9 | apply zq7 | apply zq8 | refine zq6 ?_ GE101.out | refine zq6 ?_ GE102.out) | exact HB.out)⟩⟩
    case round =>
      clear H'
      try clear c1
      try clear p2
      try clear c7
      try clear hcz5_0
      try clear hcz5_1
      try clear hcz8_0
      try clear hcz8_1
      try clear hcz8_2
      try clear hcz8_3
      try clear hcz8_4
      try clear hcz8_5
      try clear hfz5_0
      try clear hfz5_1
      try clear hfz8_0
      try clear hfz8_1
      try clear hfz8_2
      try clear hfz8_3
      try clear hfz8_4
      try clear hfz8_5
      obtain ⟨x6_1, x7_1, rfl, HA, HK1, HO_6, BK101, BK102, HB⟩ := hrel
      cases gk with
      | zero => exact absurd HA.out (by simp [weighbridgetop_WholePaced.l0])
      | succ k1 =>
        have H := HA.out
        clear HA
        simp only [weighbridgetop_WholePaced.l0] at H
        by_cases c9 : x7_1 < (l1.length : Int)
        · rw [if_pos c9] at H
          have c9b0 : decide (x7_1 < (l1.length : Int)) = true := decide_eq_true c9
          clear c9
          (first | rw [c9b0] | (simp only [i64_w, i32_w]; rw [c9b0]) | skip)
          by_cases c10 : x7_1 < 30
          · rw [if_pos c10] at H
            have c10b0 : decide (x7_1 < 30) = true := decide_eq_true c10
            clear c10
            by_cases c11 : 0 ≤ x7_1
            · rw [if_pos c11] at H
              have c11b0 : decide (0 ≤ x7_1) = true := decide_eq_true c11
              clear c11
              by_cases c12 : x6_1.length < 17592186044416
              · rw [if_pos c12] at H
                have LMc12 := zq3 c12
                clear c12
                obtain ⟨y104, hy104⟩ : ∃ y_ : List Int, y_ = (x6_1 ++ [wrap64 (rd l1 x7_1)]) := ⟨_, rfl⟩
                replace H : (weighbridgetop_WholePaced.l0 k1 l1 y104 (wrap64 (x7_1 + 1)) 1 false (Int.tmod a0_0 1099511627777) 0 (IntKind.u64.wrap (1 + (Int.tmod a0_1 4294967296))) 0) = some r := by first | (rw [hy104]; with_reducible exact H) | (have H2_ := (Option.bind_some _ _).symm.trans H; rw [hy104]; with_reducible exact H2_) | (have H2_ := (Option.bind_some _ _).symm.trans H; with_reducible exact H2_) | with_reducible exact H | (rw [hy104]; exact H) | exact H
                have Ny104 := zq3 hy104
                clear hy104
                have H' := zq3 H
                clear H
                have p103 : 0 ≤ (x7_1 : Int) := of_decide_eq_true (by first | (with_reducible assumption) | assumption)
                have q103 : x7_1 < (l1.length : Int) := of_decide_eq_true (by first | (with_reducible assumption) | assumption)
                obtain ⟨ad103, e103, hx103_0⟩ := Kd.at_int HR1.out x7_1 p103 q103
                cases e103
                replace hx103_0 := (HB.out.cell (World.block_lt_of_cell? w _ hx103_0)).trans hx103_0
                replace p103 := eq_true p103
                replace q103 := eq_true q103
                go_wp2_with (first | ((with_reducible refine gate_builtin (b := .append) (xs := #[.tmp 41, .tmp 47]) rfl ?_); (try (refine gate_guard (by rfl) ?_; dsimp only)); at_builtin; refine Kd.R_append (Kd.int .i64) (w0 := w) w.heap.size rfl (.tmp 41) (.tmp 47) 33 3 (.int .i64 0) 8 rfl Try.underlying33 info3 rfl (by decide) (by omega) u6 x6_1 (wrap64 (rd l1 x7_1)) [.int .i64 (wrap64 (rd l1 x7_1))] (fun _ => True) (fun _ => False) rfl rfl ?aP (fun _ hk => hk.elim) ?aF ?aO ?aB ?aS ?aL ?_; (case aP => exact rfl); (case aB => exact (by repeat (first | (with_reducible first | exact HB.out | apply zq9 | apply zq7 | apply zq8 | refine zq6 ?_ GE101.out | refine zq6 ?_ GE102.out) | exact HB.out))); (case aF => exact (fun _ _ => trivial)); (case aO => exact (by (with_reducible repeat (first | apply Kd.R_alloc | apply Kd.R_drewN | apply Kd.R_drew)); exact HO_6.out)); (case aS => exact (below_size (by repeat (first | (with_reducible first | exact HB.out | apply zq9 | apply zq7 | apply zq8 | refine zq6 ?_ GE101.out | refine zq6 ?_ GE102.out) | exact HB.out)))); (case aL => have := LMc12.out; omega); intro v105 w13 ho hb hg hat; rw [← Ny104.out] at ho; have n0_ := zq3 (blk_grown (g := gb101) (o := .cells #[.int .u64 a0_0, .int .u64 a0_1] 39 (0, 0)) (by (with_reducible repeat (first | refine zq0 ?_ _ | refine zq2 ?_ | refine zq1 ?_ _)); exact BK101.out) hg (Kd.R_ne HO_6.out BK101.out (by decide))); have n1_ := zq3 (blk_grown (g := gb102) (o := .cells #[.int .i64 1, .bool false, .int .u64 (Int.tmod a0_0 1099511627777), .int .u64 0, .int .u64 (IntKind.u64.wrap (1 + (Int.tmod a0_1 4294967296))), .int .u64 0] 49 (0, 0)) (by (with_reducible repeat (first | refine zq0 ?_ _ | refine zq2 ?_ | refine zq1 ?_ _)); exact BK102.out) hg (Kd.R_ne HO_6.out BK102.out (by decide))); have n2_ := zq3 (hb); have n3_ := zq3 (ho); clear BK101; clear BK102; clear HB; clear HO_6; have BK101 := n0_; have BK102 := n1_; have HB := n2_; have HO106 := n3_; clear n0_ n1_ n2_ n3_; clear ho hb hg hat))
                go_roundg k1
                case measure => have := HK1.out; omega
                case rel => exact ⟨(y104), (wrap64 (x7_1 + 1)), (by first | rfl | (simp; done) | (simp [*]; done)), H', ⟨by have := HK1.out; omega⟩, ⟨by (with_reducible repeat (first | apply Kd.R_alloc | apply Kd.R_drewN | apply Kd.R_drew)); exact HO106.out⟩, ⟨by (with_reducible repeat (first | refine zq0 ?_ _ | refine zq2 ?_ | refine zq1 ?_ _)); exact BK101.out⟩, ⟨by (with_reducible repeat (first | refine zq0 ?_ _ | refine zq2 ?_ | refine zq1 ?_ _)); exact BK102.out⟩, ⟨by repeat (first | (with_reducible first | exact HB.out | apply zq9 | apply zq7 | apply zq8 | refine zq6 ?_ GE101.out | refine zq6 ?_ GE102.out) | exact HB.out)⟩⟩
              · rw [if_neg c12] at H
                exact absurd H (by simp)
            · rw [if_neg c11] at H
              exact absurd H (by simp)
          · rw [if_neg c10] at H
            have c10b0 : decide (x7_1 < 30) = false := decide_eq_false c10
            clear c10
            have H' := zq3 H
            clear H
            go_wp2
            go_meet
            case rel => exact ⟨_, (x6_1), H', ⟨by have := HK1.out; first | omega | exact Nat.le_refl _⟩, ⟨by (with_reducible repeat (first | apply Kd.R_alloc | apply Kd.R_drewN | apply Kd.R_drew)); exact HO_6.out⟩, ⟨by (with_reducible repeat (first | refine zq0 ?_ _ | refine zq2 ?_ | refine zq1 ?_ _)); exact BK101.out⟩, ⟨by (with_reducible repeat (first | refine zq0 ?_ _ | refine zq2 ?_ | refine zq1 ?_ _)); exact BK102.out⟩, ⟨by repeat (first | (with_reducible first | exact HB.out | apply zq9 | apply zq7 | apply zq8 | refine zq6 ?_ GE101.out | refine zq6 ?_ GE102.out) | exact HB.out)⟩⟩
        · rw [if_neg c9] at H
          have c9b0 : decide (x7_1 < (l1.length : Int)) = false := decide_eq_false c9
          clear c9
          (first | rw [c9b0] | (simp only [i64_w, i32_w]; rw [c9b0]) | skip)
          have H' := zq3 H
          clear H
          go_wp2
          go_meet
          case rel => exact ⟨_, (x6_1), H', ⟨by have := HK1.out; first | omega | exact Nat.le_refl _⟩, ⟨by (with_reducible repeat (first | apply Kd.R_alloc | apply Kd.R_drewN | apply Kd.R_drew)); exact HO_6.out⟩, ⟨by (with_reducible repeat (first | refine zq0 ?_ _ | refine zq2 ?_ | refine zq1 ?_ _)); exact BK101.out⟩, ⟨by (with_reducible repeat (first | refine zq0 ?_ _ | refine zq2 ?_ | refine zq1 ?_ _)); exact BK102.out⟩, ⟨by repeat (first | (with_reducible first | exact HB.out | apply zq9 | apply zq7 | apply zq8 | refine zq6 ?_ GE101.out | refine zq6 ?_ GE102.out) | exact HB.out)⟩⟩
  case rest =>
    clear HC3
    try clear c1
    try clear p1
    try clear q1
    try clear hx1
    try clear p2
    try clear p6
    try clear c7
    try clear c9
    try clear c9b0
    try clear c10
    try clear c10b0
    try clear p10
    try clear q10
    try clear hx10
    try clear c11
    try clear c11b0
    try clear c12
    try clear hcz5_0
    try clear hcz5_1
    try clear hcz8_0
    try clear hcz8_1
    try clear hcz8_2
    try clear hcz8_3
    try clear hcz8_4
    try clear hcz8_5
    try clear hfz5_0
    try clear hfz5_1
    try clear hfz8_0
    try clear hfz8_1
    try clear hfz8_2
    try clear hfz8_3
    try clear hfz8_4
    try clear hfz8_5
    try clear hx103_0
    try clear p103
    try clear p2
    try clear q103
    obtain ⟨kq, x6_2, HA, HJ2, HO_6, BK101, BK102, HB⟩ := hcut
    cases kq with
    | zero => exact absurd HA.out (by simp [weighbridgetop_WholePaced.j1])
    | succ kj2 =>
      have H := HA.out
      clear HA
      simp only [weighbridgetop_WholePaced.j1] at H
      replace H := Option.bind_eq_some_iff.mp H
      obtain ⟨⟨t107, t110, t111⟩, A140, H⟩ := H
      replace H : (if (!(t110 == 0) || (!(t111 == 0))) = true then (if t110 = 8 then (some ((t107.length : Int) == 0)) else (none)) else (if (t107.length : Int) = (x6_2.length : Int) then (weighbridgetop_WholePaced.l1 kj2 x6_2 t107 ([] : List (S68)) 0 1 false (Int.tmod a0_0 1099511627777) 0 (IntKind.u64.wrap (1 + (Int.tmod a0_1 4294967296))) 0) else (none))) = some r := H
      have A14 := zq3 A140
      clear A140
      by_cases c15 : (!(t110 == 0) || (!(t111 == 0))) = true
      · rw [if_pos c15] at H
        have c15b0 : (!(t110 == 0) || (!(t111 == 0))) = true := c15
        clear c15
        by_cases c16 : t110 = 8
        · rw [if_pos c16] at H
          have c16b0 : (t110 == 8) = true := beq_iff_eq.mpr c16
          have c16b1 : (t110 != 8) = false := bne_eq_false_iff_eq.mpr c16
          clear c16
          obtain rfl := Option.some.inj H
          have hnb17 := NB102_101.out
          have hnc17 := NB101_102.out
          have hcz18_0 : wc.cell? ⟨gb102, 0, none⟩ = some (.int .i64 1) := (zq5 BK102.out 0).trans rfl
          have hcz18_1 : wc.cell? ⟨gb102, 1, none⟩ = some (.bool false) := (zq5 BK102.out 1).trans rfl
          have hcz18_2 : wc.cell? ⟨gb102, 2, none⟩ = some (.int .u64 (Int.tmod a0_0 1099511627777)) := (zq5 BK102.out 2).trans rfl
          have hcz18_3 : wc.cell? ⟨gb102, 3, none⟩ = some (.int .u64 0) := (zq5 BK102.out 3).trans rfl
          have hcz18_4 : wc.cell? ⟨gb102, 4, none⟩ = some (.int .u64 (IntKind.u64.wrap (1 + (Int.tmod a0_1 4294967296)))) := (zq5 BK102.out 4).trans rfl
          have hcz18_5 : wc.cell? ⟨gb102, 5, none⟩ = some (.int .u64 0) := (zq5 BK102.out 5).trans rfl
          have hfz18_0 := zq4 BK102.out 0
          have hfz18_1 := zq4 BK102.out 1
          have hfz18_2 := zq4 BK102.out 2
          have hfz18_3 := zq4 BK102.out 3
          have hfz18_4 := zq4 BK102.out 4
          have hfz18_5 := zq4 BK102.out 5
          obtain ⟨Ao19, co19, eo19⟩ := Kd.R_slice HO_6.out
          subst eo19
          go_wp2_with (first | ((with_reducible refine gate_callee (f := 31) rfl ?_); refine goesL_ (some 52) rfl rfl Try.func31 (by kernel_rfl) rfl #[.agg #[.int .i64 1, .bool false, .int .u64 (Int.tmod a0_0 1099511627777), .int .u64 0, .int .u64 (IntKind.u64.wrap (1 + (Int.tmod a0_1 4294967296))), .int .u64 0], .slice Ao19 x6_2.length co19, .int .i64 0] rfl (by (try simp only [List.map_toArray, List.map_cons, List.map_nil]); first | done | rfl | (simp only [List.length_drop, List.length_take]; rfl)) ?_; (with_reducible refine (outlook_Pace.calls kj2 1 false (Int.tmod a0_0 1099511627777) 0 (IntKind.u64.wrap (1 + (Int.tmod a0_1 4294967296))) 0 _ _ x6_2 0 t107 t110 t111 _ ?side1 ?side2 A14.out).mono ?_); (case side1 => repeat (first | exact (Kd.R_reads' HO_6.out).2.2 | (with_reducible refine Kd.C_alloc ?_ _) | (with_reducible refine Kd.C_drewN ?_ _) | (with_reducible refine Kd.C_drew ?_))); (case side2 => exact (Kd.R_reads' HO_6.out).2.1); rintro e w20 ⟨v108, rfl, ho0, hb⟩; refine ⟨_, rfl, ?_⟩; have n0_ := zq3 (Kd.R_below (by (with_reducible repeat (first | apply Kd.R_alloc | apply Kd.R_drewN | apply Kd.R_drew)); exact HO_6.out) hb); have n1_ := zq3 (Kd.R_lower ho0 (below_size (by repeat (first | (with_reducible first | exact HB.out | apply zq9 | apply zq7 | apply zq8 | refine zq6 ?_ GE101.out | refine zq6 ?_ GE102.out) | exact HB.out)))); have n2_ := zq3 (zq10 (g := gb101) (o := .cells #[.int .u64 a0_0, .int .u64 a0_1] 39 (0, 0)) (by (with_reducible repeat (first | refine zq0 ?_ _ | refine zq2 ?_ | refine zq1 ?_ _)); exact BK101.out) hb); have n3_ := zq3 (zq10 (g := gb102) (o := .cells #[.int .i64 1, .bool false, .int .u64 (Int.tmod a0_0 1099511627777), .int .u64 0, .int .u64 (IntKind.u64.wrap (1 + (Int.tmod a0_1 4294967296))), .int .u64 0] 49 (0, 0)) (by (with_reducible repeat (first | refine zq0 ?_ _ | refine zq2 ?_ | refine zq1 ?_ _)); exact BK102.out) hb); have n4_ := zq3 (below_step (by repeat (first | (with_reducible first | exact HB.out | apply zq9 | apply zq7 | apply zq8 | refine zq6 ?_ GE101.out | refine zq6 ?_ GE102.out) | exact HB.out)) hb); clear HO_6; clear BK101; clear BK102; clear HB; have HO_6 := n0_; have HO109 := n1_; have BK101 := n2_; have BK102 := n3_; have HB := n4_; clear n0_ n1_ n2_ n3_ n4_; (try clear hb); (try clear hb2); (try clear hk); (try clear hi); (try clear ho0)) | ((with_reducible refine gate_dst (N := 9) rfl ?_); (try (refine gate_guard (by rfl) ?_; dsimp only)); refine box_event ?hg (N := 9) ?hd (cs := #[.int .i64 0, .int .i64 0]) (t := 26) ?hr ?_; (case hd => rfl); (case hg => rfl); (case hr => first | (go_simp; done) | (go_simp; rfl)); intro gb112 hg w21 hbox hb; have n0_ := zq3 (Kd.R_below (by (with_reducible repeat (first | apply Kd.R_alloc | apply Kd.R_drewN | apply Kd.R_drew)); exact HO_6.out) hb); have n1_ := zq3 (Kd.R_below (by (with_reducible repeat (first | apply Kd.R_alloc | apply Kd.R_drewN | apply Kd.R_drew)); exact HO109.out) hb); have n2_ := zq3 (zq10 (g := gb101) (o := .cells #[.int .u64 a0_0, .int .u64 a0_1] 39 (0, 0)) (by (with_reducible repeat (first | refine zq0 ?_ _ | refine zq2 ?_ | refine zq1 ?_ _)); exact BK101.out) hb); have n3_ := zq3 (zq10 (g := gb102) (o := .cells #[.int .i64 1, .bool false, .int .u64 (Int.tmod a0_0 1099511627777), .int .u64 0, .int .u64 (IntKind.u64.wrap (1 + (Int.tmod a0_1 4294967296))), .int .u64 0] 49 (0, 0)) (by (with_reducible repeat (first | refine zq0 ?_ _ | refine zq2 ?_ | refine zq1 ?_ _)); exact BK102.out) hb); have n4_ := zq3 (below_step (by repeat (first | (with_reducible first | exact HB.out | apply zq9 | apply zq7 | apply zq8 | refine zq6 ?_ GE101.out | refine zq6 ?_ GE102.out) | exact HB.out)) hb); have n5_ := zq3 (hbox); have n6_ := zq3 ((by rw [hg]; exact (below_size (by repeat (first | (with_reducible first | exact HB.out | apply zq9 | apply zq7 | apply zq8 | refine zq6 ?_ GE101.out | refine zq6 ?_ GE102.out) | exact HB.out))) : w.heap.size ≤ gb112)); have n7_ := zq3 ((by rw [hg]; exact (below_size (by repeat (first | (with_reducible first | exact HB.out | apply zq9 | apply zq7 | apply zq8 | refine zq6 ?_ GE101.out | refine zq6 ?_ GE102.out) | exact HB.out))) : w.heap.size ≤ gb112)); have n8_ := zq3 ((by rw [hg]; exact Nat.ne_of_lt (blk_lt (g := gb101) (o := .cells #[.int .u64 a0_0, .int .u64 a0_1] 39 (0, 0)) (by (with_reducible repeat (first | refine zq0 ?_ _ | refine zq2 ?_ | refine zq1 ?_ _)); exact BK101.out)) : gb101 ≠ gb112)); have n9_ := zq3 ((by rw [hg]; exact Nat.ne_of_gt (blk_lt (g := gb101) (o := .cells #[.int .u64 a0_0, .int .u64 a0_1] 39 (0, 0)) (by (with_reducible repeat (first | refine zq0 ?_ _ | refine zq2 ?_ | refine zq1 ?_ _)); exact BK101.out)) : gb112 ≠ gb101)); have n10_ := zq3 ((by rw [hg]; exact Nat.ne_of_lt (blk_lt (g := gb102) (o := .cells #[.int .i64 1, .bool false, .int .u64 (Int.tmod a0_0 1099511627777), .int .u64 0, .int .u64 (IntKind.u64.wrap (1 + (Int.tmod a0_1 4294967296))), .int .u64 0] 49 (0, 0)) (by (with_reducible repeat (first | refine zq0 ?_ _ | refine zq2 ?_ | refine zq1 ?_ _)); exact BK102.out)) : gb102 ≠ gb112)); have n11_ := zq3 ((by rw [hg]; exact Nat.ne_of_gt (blk_lt (g := gb102) (o := .cells #[.int .i64 1, .bool false, .int .u64 (Int.tmod a0_0 1099511627777), .int .u64 0, .int .u64 (IntKind.u64.wrap (1 + (Int.tmod a0_1 4294967296))), .int .u64 0] 49 (0, 0)) (by (with_reducible repeat (first | refine zq0 ?_ _ | refine zq2 ?_ | refine zq1 ?_ _)); exact BK102.out)) : gb112 ≠ gb102)); clear HO_6; clear HO109; clear BK101; clear BK102; clear HB; have HO_6 := n0_; have HO109 := n1_; have BK101 := n2_; have BK102 := n3_; have HB := n4_; have BK112 := n5_; have GW112 := n6_; have GE112 := n7_; have NB101_112 := n8_; have NB112_101 := n9_; have NB102_112 := n10_; have NB112_102 := n11_; clear n0_ n1_ n2_ n3_ n4_ n5_ n6_ n7_ n8_ n9_ n10_ n11_; clear hb hbox hg; have hnb22 := NB112_101.out; have hnc22 := NB101_112.out; have hnb23 := NB112_102.out; have hnc23 := NB102_112.out; have hcz24_0 : w21.cell? ⟨gb112, 0, none⟩ = some (.int .i64 0) := (zq5 BK112.out 0).trans rfl; have hcz24_1 : w21.cell? ⟨gb112, 1, none⟩ = some (.int .i64 0) := (zq5 BK112.out 1).trans rfl; have hfz24_0 := zq4 BK112.out 0; have hfz24_1 := zq4 BK112.out 1; obtain ⟨Ao25, co25, eo25⟩ := Kd.R_slice HO109.out; subst eo25))
          go_ret
          exact ⟨by first | rfl | (simp [errW_none, errW_some] <;> rfl) | (simp [*, errW_none, errW_some] <;> rfl), by repeat (first | (with_reducible first | exact HB.out | apply zq9 | apply zq7 | apply zq8 | refine zq6 ?_ GE101.out | refine zq6 ?_ GE102.out | refine zq6 ?_ GE112.out) | exact HB.out)⟩
        · rw [if_neg c16] at H
          exact absurd H (by simp)
      · rw [if_neg c15] at H
        have c15b0 : (!(t110 == 0) || (!(t111 == 0))) = false := by simpa using c15
        clear c15
        by_cases c26 : (t107.length : Int) = (x6_2.length : Int)
        · rw [if_pos c26] at H
          have c26b0 : ((t107.length : Int) == (x6_2.length : Int)) = true := beq_iff_eq.mpr c26
          have c26b1 : ((t107.length : Int) != (x6_2.length : Int)) = false := bne_eq_false_iff_eq.mpr c26
          have c26b2 : (t107.length == x6_2.length) = true := by first | simpa using c26 | (simp at c26 ⊢; omega)
          clear c26
          have H' := zq3 H
          clear H
          have hnb27 := NB102_101.out
          have hnc27 := NB101_102.out
          have hcz28_0 : wc.cell? ⟨gb102, 0, none⟩ = some (.int .i64 1) := (zq5 BK102.out 0).trans rfl
          have hcz28_1 : wc.cell? ⟨gb102, 1, none⟩ = some (.bool false) := (zq5 BK102.out 1).trans rfl
          have hcz28_2 : wc.cell? ⟨gb102, 2, none⟩ = some (.int .u64 (Int.tmod a0_0 1099511627777)) := (zq5 BK102.out 2).trans rfl
          have hcz28_3 : wc.cell? ⟨gb102, 3, none⟩ = some (.int .u64 0) := (zq5 BK102.out 3).trans rfl
          have hcz28_4 : wc.cell? ⟨gb102, 4, none⟩ = some (.int .u64 (IntKind.u64.wrap (1 + (Int.tmod a0_1 4294967296)))) := (zq5 BK102.out 4).trans rfl
          have hcz28_5 : wc.cell? ⟨gb102, 5, none⟩ = some (.int .u64 0) := (zq5 BK102.out 5).trans rfl
          have hfz28_0 := zq4 BK102.out 0
          have hfz28_1 := zq4 BK102.out 1
          have hfz28_2 := zq4 BK102.out 2
          have hfz28_3 := zq4 BK102.out 3
          have hfz28_4 := zq4 BK102.out 4
          have hfz28_5 := zq4 BK102.out 5
          obtain ⟨Ao29, co29, eo29⟩ := Kd.R_slice HO_6.out
          subst eo29
          go_wp2_with (first | ((with_reducible refine gate_callee (f := 31) rfl ?_); refine goesL_ (some 52) rfl rfl Try.func31 (by kernel_rfl) rfl #[.agg #[.int .i64 1, .bool false, .int .u64 (Int.tmod a0_0 1099511627777), .int .u64 0, .int .u64 (IntKind.u64.wrap (1 + (Int.tmod a0_1 4294967296))), .int .u64 0], .slice Ao29 x6_2.length co29, .int .i64 0] rfl (by (try simp only [List.map_toArray, List.map_cons, List.map_nil]); first | done | rfl | (simp only [List.length_drop, List.length_take]; rfl)) ?_; (with_reducible refine (outlook_Pace.calls kj2 1 false (Int.tmod a0_0 1099511627777) 0 (IntKind.u64.wrap (1 + (Int.tmod a0_1 4294967296))) 0 _ _ x6_2 0 t107 t110 t111 _ ?side1 ?side2 A14.out).mono ?_); (case side1 => repeat (first | exact (Kd.R_reads' HO_6.out).2.2 | (with_reducible refine Kd.C_alloc ?_ _) | (with_reducible refine Kd.C_drewN ?_ _) | (with_reducible refine Kd.C_drew ?_))); (case side2 => exact (Kd.R_reads' HO_6.out).2.1); rintro e w30 ⟨v108, rfl, ho0, hb⟩; refine ⟨_, rfl, ?_⟩; have n0_ := zq3 (Kd.R_below (by (with_reducible repeat (first | apply Kd.R_alloc | apply Kd.R_drewN | apply Kd.R_drew)); exact HO_6.out) hb); have n1_ := zq3 (Kd.R_lower ho0 (below_size (by repeat (first | (with_reducible first | exact HB.out | apply zq9 | apply zq7 | apply zq8 | refine zq6 ?_ GE101.out | refine zq6 ?_ GE102.out) | exact HB.out)))); have n2_ := zq3 (zq10 (g := gb101) (o := .cells #[.int .u64 a0_0, .int .u64 a0_1] 39 (0, 0)) (by (with_reducible repeat (first | refine zq0 ?_ _ | refine zq2 ?_ | refine zq1 ?_ _)); exact BK101.out) hb); have n3_ := zq3 (zq10 (g := gb102) (o := .cells #[.int .i64 1, .bool false, .int .u64 (Int.tmod a0_0 1099511627777), .int .u64 0, .int .u64 (IntKind.u64.wrap (1 + (Int.tmod a0_1 4294967296))), .int .u64 0] 49 (0, 0)) (by (with_reducible repeat (first | refine zq0 ?_ _ | refine zq2 ?_ | refine zq1 ?_ _)); exact BK102.out) hb); have n4_ := zq3 (below_step (by repeat (first | (with_reducible first | exact HB.out | apply zq9 | apply zq7 | apply zq8 | refine zq6 ?_ GE101.out | refine zq6 ?_ GE102.out) | exact HB.out)) hb); clear HO_6; clear BK101; clear BK102; clear HB; have HO_6 := n0_; have HO109 := n1_; have BK101 := n2_; have BK102 := n3_; have HB := n4_; clear n0_ n1_ n2_ n3_ n4_; (try clear hb); (try clear hb2); (try clear hk); (try clear hi); (try clear ho0)) | ((with_reducible refine gate_dst (N := 9) rfl ?_); (try (refine gate_guard (by rfl) ?_; dsimp only)); refine box_event ?hg (N := 9) ?hd (cs := #[.int .i64 0, .int .i64 0]) (t := 26) ?hr ?_; (case hd => rfl); (case hg => rfl); (case hr => first | (go_simp; done) | (go_simp; rfl)); intro gb112 hg w31 hbox hb; have n0_ := zq3 (Kd.R_below (by (with_reducible repeat (first | apply Kd.R_alloc | apply Kd.R_drewN | apply Kd.R_drew)); exact HO_6.out) hb); have n1_ := zq3 (Kd.R_below (by (with_reducible repeat (first | apply Kd.R_alloc | apply Kd.R_drewN | apply Kd.R_drew)); exact HO109.out) hb); have n2_ := zq3 (zq10 (g := gb101) (o := .cells #[.int .u64 a0_0, .int .u64 a0_1] 39 (0, 0)) (by (with_reducible repeat (first | refine zq0 ?_ _ | refine zq2 ?_ | refine zq1 ?_ _)); exact BK101.out) hb); have n3_ := zq3 (zq10 (g := gb102) (o := .cells #[.int .i64 1, .bool false, .int .u64 (Int.tmod a0_0 1099511627777), .int .u64 0, .int .u64 (IntKind.u64.wrap (1 + (Int.tmod a0_1 4294967296))), .int .u64 0] 49 (0, 0)) (by (with_reducible repeat (first | refine zq0 ?_ _ | refine zq2 ?_ | refine zq1 ?_ _)); exact BK102.out) hb); have n4_ := zq3 (below_step (by repeat (first | (with_reducible first | exact HB.out | apply zq9 | apply zq7 | apply zq8 | refine zq6 ?_ GE101.out | refine zq6 ?_ GE102.out) | exact HB.out)) hb); have n5_ := zq3 (hbox); have n6_ := zq3 ((by rw [hg]; exact (below_size (by repeat (first | (with_reducible first | exact HB.out | apply zq9 | apply zq7 | apply zq8 | refine zq6 ?_ GE101.out | refine zq6 ?_ GE102.out) | exact HB.out))) : w.heap.size ≤ gb112)); have n7_ := zq3 ((by rw [hg]; exact (below_size (by repeat (first | (with_reducible first | exact HB.out | apply zq9 | apply zq7 | apply zq8 | refine zq6 ?_ GE101.out | refine zq6 ?_ GE102.out) | exact HB.out))) : w.heap.size ≤ gb112)); have n8_ := zq3 ((by rw [hg]; exact Nat.ne_of_lt (blk_lt (g := gb101) (o := .cells #[.int .u64 a0_0, .int .u64 a0_1] 39 (0, 0)) (by (with_reducible repeat (first | refine zq0 ?_ _ | refine zq2 ?_ | refine zq1 ?_ _)); exact BK101.out)) : gb101 ≠ gb112)); have n9_ := zq3 ((by rw [hg]; exact Nat.ne_of_gt (blk_lt (g := gb101) (o := .cells #[.int .u64 a0_0, .int .u64 a0_1] 39 (0, 0)) (by (with_reducible repeat (first | refine zq0 ?_ _ | refine zq2 ?_ | refine zq1 ?_ _)); exact BK101.out)) : gb112 ≠ gb101)); have n10_ := zq3 ((by rw [hg]; exact Nat.ne_of_lt (blk_lt (g := gb102) (o := .cells #[.int .i64 1, .bool false, .int .u64 (Int.tmod a0_0 1099511627777), .int .u64 0, .int .u64 (IntKind.u64.wrap (1 + (Int.tmod a0_1 4294967296))), .int .u64 0] 49 (0, 0)) (by (with_reducible repeat (first | refine zq0 ?_ _ | refine zq2 ?_ | refine zq1 ?_ _)); exact BK102.out)) : gb102 ≠ gb112)); have n11_ := zq3 ((by rw [hg]; exact Nat.ne_of_gt (blk_lt (g := gb102) (o := .cells #[.int .i64 1, .bool false, .int .u64 (Int.tmod a0_0 1099511627777), .int .u64 0, .int .u64 (IntKind.u64.wrap (1 + (Int.tmod a0_1 4294967296))), .int .u64 0] 49 (0, 0)) (by (with_reducible repeat (first | refine zq0 ?_ _ | refine zq2 ?_ | refine zq1 ?_ _)); exact BK102.out)) : gb112 ≠ gb102)); clear HO_6; clear HO109; clear BK101; clear BK102; clear HB; have HO_6 := n0_; have HO109 := n1_; have BK101 := n2_; have BK102 := n3_; have HB := n4_; have BK112 := n5_; have GW112 := n6_; have GE112 := n7_; have NB101_112 := n8_; have NB112_101 := n9_; have NB102_112 := n10_; have NB112_102 := n11_; clear n0_ n1_ n2_ n3_ n4_ n5_ n6_ n7_ n8_ n9_ n10_ n11_; clear hb hbox hg; have hnb32 := NB112_101.out; have hnc32 := NB101_112.out; have hnb33 := NB112_102.out; have hnc33 := NB102_112.out; have hcz34_0 : w31.cell? ⟨gb112, 0, none⟩ = some (.int .i64 0) := (zq5 BK112.out 0).trans rfl; have hcz34_1 : w31.cell? ⟨gb112, 1, none⟩ = some (.int .i64 0) := (zq5 BK112.out 1).trans rfl; have hfz34_0 := zq4 BK112.out 0; have hfz34_1 := zq4 BK112.out 1; obtain ⟨Ao35, co35, eo35⟩ := Kd.R_slice HO109.out; subst eo35))
          go_loopg [10, 11] kj2 (fun kq v10 v11 w' => ∃ (x10_2 : List (S68)) (x11_2 : Int), v11 = .int .i64 x11_2 ∧ Aside0 (weighbridgetop_WholePaced.l1 kq x6_2 t107 x10_2 x11_2 1 false (Int.tmod a0_0 1099511627777) 0 (IntKind.u64.wrap (1 + (Int.tmod a0_1 4294967296))) 0 = some r) ∧ Aside0 (kq ≤ kj2) ∧ Aside0 (Kd.R (Kd.int .i64) 3 w' w.heap.size (fun _ => True) (.slice Ao29 x6_2.length co29) x6_2) ∧ Aside0 (Kd.R (Kd.int .u64) 23 w' w.heap.size (fun _ => True) (.slice Ao35 t107.length co35) t107) ∧ Aside0 (Kd.R k68 68 w' w.heap.size (fun _ => True) v10 x10_2) ∧ Aside0 (w'.heap[gb101]? = some (.cells #[.int .u64 a0_0, .int .u64 a0_1] 39 (0, 0))) ∧ Aside0 (w'.heap[gb102]? = some (.cells #[.int .i64 1, .bool false, .int .u64 (Int.tmod a0_0 1099511627777), .int .u64 0, .int .u64 (IntKind.u64.wrap (1 + (Int.tmod a0_1 4294967296))), .int .u64 0] 49 (0, 0))) ∧ Aside0 (w'.heap[gb112]? = some (.cells #[.int .i64 t110, .int .i64 t111] 26 (0, 0))) ∧ Aside0 (Below w.heap.size w w'))
          case atStart => exact ⟨(([] : List (S68))), (0), (by first | rfl | (simp; done) | (simp [*]; done)), H', ⟨Nat.le_refl _⟩, ⟨by (with_reducible repeat (first | apply Kd.R_alloc | apply Kd.R_drewN | apply Kd.R_drew)); exact Kd.R_mono (Kd.R_far (p := ⟨gb112, 1, none⟩) (Kd.R_far (p := ⟨gb112, 0, none⟩) (Kd.R_types HO_6.out BK112.out (by decide)) (fun _ hk => hk.2) (.int .i64 t110)) (fun _ hk => hk.2) (.int .i64 t111)) (fun _ hk => trivial)⟩, ⟨by (with_reducible repeat (first | apply Kd.R_alloc | apply Kd.R_drewN | apply Kd.R_drew)); exact Kd.R_mono (Kd.R_far (p := ⟨gb112, 1, none⟩) (Kd.R_far (p := ⟨gb112, 0, none⟩) (Kd.R_types HO109.out BK112.out (by decide)) (fun _ hk => hk.2) (.int .i64 t110)) (fun _ hk => hk.2) (.int .i64 t111)) (fun _ hk => trivial)⟩, ⟨by first | exact Kd.R_nil _ _ _ _ _ | exact Kd.N_nil _ _ _ _ _ | exact Kd.V_nil _ _ _ _ _ | exact Kd.Q_nil _ _ _ _ _ | exact Kd.S_nil _ _ _ _ _⟩, ⟨by (with_reducible repeat (first | refine zq0 ?_ _ | refine zq2 ?_ | refine zq1 ?_ _)); refine zq11 ?_ NB101_112.out _; (with_reducible repeat (first | refine zq0 ?_ _ | refine zq2 ?_ | refine zq1 ?_ _)); refine zq11 ?_ NB101_112.out _; (with_reducible repeat (first | refine zq0 ?_ _ | refine zq2 ?_ | refine zq1 ?_ _)); exact BK101.out⟩, ⟨by (with_reducible repeat (first | refine zq0 ?_ _ | refine zq2 ?_ | refine zq1 ?_ _)); refine zq11 ?_ NB102_112.out _; (with_reducible repeat (first | refine zq0 ?_ _ | refine zq2 ?_ | refine zq1 ?_ _)); refine zq11 ?_ NB102_112.out _; (with_reducible repeat (first | refine zq0 ?_ _ | refine zq2 ?_ | refine zq1 ?_ _)); exact BK102.out⟩, ⟨by (with_reducible repeat (first | refine zq0 ?_ _ | refine zq2 ?_ | refine zq1 ?_ _)); refine blk_put (cs := #[.int .i64 t110, .int .i64 0]) ?_ 1 _ rfl; (with_reducible repeat (first | refine zq0 ?_ _ | refine zq2 ?_ | refine zq1 ?_ _)); refine blk_put (cs := #[.int .i64 0, .int .i64 0]) ?_ 0 _ rfl; (with_reducible repeat (first | refine zq0 ?_ _ | refine zq2 ?_ | refine zq1 ?_ _)); exact BK112.out⟩, ⟨by repeat (first | (with_reducible first | exact HB.out | apply zq9 | apply zq7 | apply zq8 | refine zq6 ?_ GE101.out | refine zq6 ?_ GE102.out | refine zq6 ?_ GE112.out) | exact HB.out)⟩⟩
          case round =>
            clear H'
            try clear c1
            try clear p1
            try clear q1
            try clear hx1
            try clear c2
            try clear p2
            try clear c3
            try clear p6
            try clear c7
            try clear c9
            try clear c9b0
            try clear c10
            try clear c10b0
            try clear p10
            try clear q10
            try clear hx10
            try clear c11
            try clear c11b0
            try clear c12
            try clear c15
            try clear c15b0
            try clear c16
            try clear c16b0
            try clear c16b1
            try clear c17
            try clear c22
            try clear c23
            try clear c26
            try clear c26b0
            try clear c26b1
            try clear c26b2
            try clear c27
            try clear c31
            try clear c32
            try clear c33
            try clear hcz18_0
            try clear hcz18_1
            try clear hcz18_2
            try clear hcz18_3
            try clear hcz18_4
            try clear hcz18_5
            try clear hcz24_0
            try clear hcz24_1
            try clear hcz28_0
            try clear hcz28_1
            try clear hcz28_2
            try clear hcz28_3
            try clear hcz28_4
            try clear hcz28_5
            try clear hcz34_0
            try clear hcz34_1
            try clear hcz5_0
            try clear hcz5_1
            try clear hcz8_0
            try clear hcz8_1
            try clear hcz8_2
            try clear hcz8_3
            try clear hcz8_4
            try clear hcz8_5
            try clear hfz18_0
            try clear hfz18_1
            try clear hfz18_2
            try clear hfz18_3
            try clear hfz18_4
            try clear hfz18_5
            try clear hfz24_0
            try clear hfz24_1
            try clear hfz28_0
            try clear hfz28_1
            try clear hfz28_2
            try clear hfz28_3
            try clear hfz28_4
            try clear hfz28_5
            try clear hfz34_0
            try clear hfz34_1
            try clear hfz5_0
            try clear hfz5_1
            try clear hfz8_0
            try clear hfz8_1
            try clear hfz8_2
            try clear hfz8_3
            try clear hfz8_4
            try clear hfz8_5
            try clear hx103_0
            try clear p1
            try clear p10
            try clear p103
            try clear p2
            try clear p6
            try clear q1
            try clear q10
            try clear q103
            obtain ⟨x10_2, x11_2, rfl, HA, HK2, HO_6, HO_8, HO_10, BK101, BK102, BK112, HB⟩ := hrel
            cases gk with
            | zero => exact absurd HA.out (by simp [weighbridgetop_WholePaced.l1])
            | succ k2 =>
              have H := HA.out
              clear HA
              simp only [weighbridgetop_WholePaced.l1] at H
              by_cases c36 : x11_2 < (t107.length : Int)
              · rw [if_pos c36] at H
                have c36b0 : decide (x11_2 < (t107.length : Int)) = true := decide_eq_true c36
                clear c36
                by_cases c37 : 0 ≤ x11_2
                · rw [if_pos c37] at H
                  have c37b0 : decide (0 ≤ x11_2) = true := decide_eq_true c37
                  clear c37
                  by_cases c38 : x11_2 < (x6_2.length : Int)
                  · rw [if_pos c38] at H
                    have c38b0 : decide (x11_2 < (x6_2.length : Int)) = true := decide_eq_true c38
                    clear c38
                    by_cases c39 : x10_2.length < 8796093022208
                    · rw [if_pos c39] at H
                      have LMc39 := zq3 c39
                      clear c39
                      obtain ⟨y115, hy115⟩ : ∃ y_ : List (S68), y_ = (x10_2 ++ [(⟨rd t107 x11_2, rd x6_2 x11_2⟩ : S68)]) := ⟨_, rfl⟩
                      replace H : (weighbridgetop_WholePaced.l1 k2 x6_2 t107 y115 (wrap64 (x11_2 + 1)) 1 false (Int.tmod a0_0 1099511627777) 0 (IntKind.u64.wrap (1 + (Int.tmod a0_1 4294967296))) 0) = some r := by first | (rw [hy115]; with_reducible exact H) | (have H2_ := (Option.bind_some _ _).symm.trans H; rw [hy115]; with_reducible exact H2_) | (have H2_ := (Option.bind_some _ _).symm.trans H; with_reducible exact H2_) | with_reducible exact H | (rw [hy115]; exact H) | exact H
                      have Ny115 := zq3 hy115
                      clear hy115
                      have H' := zq3 H
                      clear H
                      try go_wp2
                      have n0_ := zq3 (Kd.R_drew HO_6.out)
                      have n1_ := zq3 (Kd.R_drew HO_8.out)
                      have n2_ := zq3 (Kd.R_drew HO_10.out)
                      have n3_ := zq3 (zq2 BK101.out)
                      have n4_ := zq3 (zq2 BK102.out)
                      have n5_ := zq3 (zq2 BK112.out)
                      have n6_ := zq3 (zq8 HB.out)
                      clear HO_6
                      clear HO_8
                      clear HO_10
                      clear BK101
                      clear BK102
                      clear BK112
                      clear HB
                      have HO_6 := n0_
                      have HO_8 := n1_
                      have HO_10 := n2_
                      have BK101 := n3_
                      have BK102 := n4_
                      have BK112 := n5_
                      have HB := n6_
                      clear n0_ n1_ n2_ n3_ n4_ n5_ n6_
                      have p113 : 0 ≤ (x11_2 : Int) := of_decide_eq_true (by first | (with_reducible assumption) | assumption)
                      have q113 : x11_2 < (t107.length : Int) := of_decide_eq_true (by first | (with_reducible assumption) | assumption)
                      obtain ⟨ad113, e113, hx113_0⟩ := Kd.at_int (Kd.R_reads' HO_8.out).2.2 x11_2 p113 q113
                      cases e113
                      replace p113 := eq_true p113
                      replace q113 := eq_true q113
                      have p114 : 0 ≤ (x11_2 : Int) := of_decide_eq_true (by first | (with_reducible assumption) | assumption)
                      have q114 : x11_2 < (x6_2.length : Int) := of_decide_eq_true (by first | (with_reducible assumption) | assumption)
                      obtain ⟨ad114, e114, hx114_0⟩ := Kd.at_int (Kd.R_reads' HO_6.out).2.2 x11_2 p114 q114
                      cases e114
                      replace p114 := eq_true p114
                      replace q114 := eq_true q114
                      refine start_ (n := 13) (S := fun w' => w'.cell? (ad113.add (x11_2).toNat) = some (.int .u64 (rd t107 x11_2)) ∧ w'.cell? (ad114.add (x11_2).toNat) = some (.int .i64 (rd x6_2 x11_2))) (ds := [10, 11]) #[false, false, false, false, false, false, false, false, false, false, false, false, false] (by kernel_rfl) rfl rfl ⟨hx113_0, hx114_0⟩ (fun hHeld => ?_); refine with_tabW weighbridgetop_WholePaced.tab16 weighbridgetop_WholePaced.bits16 (fun HT_ HW_ => ?_)
                      generalize wr.drew = w40 at HO_6 HO_8 HO_10 BK101 BK102 BK112 HB hx113_0 hx114_0 hHeld ⊢
                      refine pure_ (i := 0) (N := some 77) (v := ?_) (a' := ?_) #[true, false, false, false, false, false, false, false, false, false, false, false, false] rfl rfl (any_of HT_.out (by kernel_rfl)) (fun _ _ _ h => h) (Or.inl ⟨by rfl, ?_⟩) ?_ ?_
                      rotate_left
                      · intro w'
                        go_simp
                        with_reducible rfl
                      rotate_left
                      · simp only [Act.put, List.setIfInBounds_toArray, List.set_cons_zero, List.set_cons_succ, i64_w, i32_w]
                        rfl
                      refine pure_ (i := 1) (N := some 78) (v := ?_) (a' := ?_) #[true, true, false, false, false, false, false, false, false, false, false, false, false] rfl rfl (any_of HT_.out (by kernel_rfl)) (fun _ _ _ h => h) (Or.inl ⟨by rfl, ?_⟩) ?_ ?_
                      rotate_left
                      · intro w'
                        go_simp
                        with_reducible rfl
                      rotate_left
                      · simp only [Act.put, List.setIfInBounds_toArray, List.set_cons_zero, List.set_cons_succ, i64_w, i32_w]
                        rfl
                      refine pure_ (i := 2) (N := some 79) (v := ?_) (a' := ?_) #[true, true, true, false, false, false, false, false, false, false, false, false, false] rfl rfl (any_of HT_.out (by kernel_rfl)) (fun _ _ _ h => h) (Or.inl ⟨by rfl, ?_⟩) ?_ ?_
                      rotate_left
                      · intro w'
                        go_simp
                        with_reducible rfl
                      rotate_left
                      · simp only [Act.put, List.setIfInBounds_toArray, List.set_cons_zero, List.set_cons_succ, i64_w, i32_w]
                        rfl
                      refine pure_ (i := 3) (N := some 80) (v := ?_) (a' := ?_) #[true, true, true, true, false, false, false, false, false, false, false, false, false] rfl rfl (any_of HT_.out (by kernel_rfl)) (fun _ _ _ h => h) (Or.inl ⟨by rfl, ?_⟩) ?_ ?_
                      rotate_left
                      · intro w'
                        go_simp
                        with_reducible rfl
                      rotate_left
                      · simp only [Act.put, List.setIfInBounds_toArray, List.set_cons_zero, List.set_cons_succ, i64_w, i32_w]
                        rfl
                      refine pure_ (i := 5) (N := some 82) (v := ?_) (a' := ?_) #[true, true, true, true, false, true, false, false, false, false, false, false, false] rfl rfl (any_of HT_.out (by kernel_rfl)) (fun _ _ _ h => h) (Or.inl ⟨by rfl, ?_⟩) ?_ ?_
                      rotate_left
                      · intro w'
                        go_simp
                        with_reducible rfl
                      rotate_left
                      · simp only [Act.put, List.setIfInBounds_toArray, List.set_cons_zero, List.set_cons_succ, i64_w, i32_w]
                        rfl
                      refine pure_ (i := 6) (N := some 83) (v := ?_) (a' := ?_) #[true, true, true, true, false, true, true, false, false, false, false, false, false] rfl rfl (any_of HT_.out (by kernel_rfl)) (fun _ _ _ h => h) (Or.inl ⟨by rfl, ?_⟩) ?_ ?_
                      rotate_left
                      · intro w'
                        go_simp
                        with_reducible rfl
                      rotate_left
                      · simp only [Act.put, List.setIfInBounds_toArray, List.set_cons_zero, List.set_cons_succ, i64_w, i32_w]
                        rfl
                      refine pure_ (i := 7) (N := some 84) (v := ?_) (a' := ?_) #[true, true, true, true, false, true, true, true, false, false, false, false, false] rfl rfl (any_of HT_.out (by kernel_rfl)) (fun _ _ _ h => h) (Or.inl ⟨by rfl, ?_⟩) ?_ ?_
                      rotate_left
                      · intro w'
                        go_simp
                        with_reducible rfl
                      rotate_left
                      · simp only [Act.put, List.setIfInBounds_toArray, List.set_cons_zero, List.set_cons_succ, i64_w, i32_w]
                        rfl
                      refine take_ (i := 4) (N := some 81) (v := ?_) (a' := ?_) #[true, true, true, true, true, true, true, true, false, false, false, false, false] rfl rfl (take_ofW HT_.out HW_.out (by kernel_rfl)) (fun _ _ _ h => h) (Or.inl ⟨by rfl, ?_⟩) hHeld ?_ ?_
                      rotate_left
                      · rintro w' ⟨s0, s1⟩
                        go_simp
                        with_reducible rfl
                      rotate_left
                      · simp only [Act.put, List.setIfInBounds_toArray, List.set_cons_zero, List.set_cons_succ, i64_w, i32_w]
                        rfl
                      refine take_ (i := 8) (N := some 85) (v := ?_) (a' := ?_) #[true, true, true, true, true, true, true, true, true, false, false, false, false] rfl rfl (take_ofW HT_.out HW_.out (by kernel_rfl)) (fun _ _ _ h => h) (Or.inl ⟨by rfl, ?_⟩) hHeld ?_ ?_
                      rotate_left
                      · rintro w' ⟨s0, s1⟩
                        go_simp
                        with_reducible rfl
                      rotate_left
                      · simp only [Act.put, List.setIfInBounds_toArray, List.set_cons_zero, List.set_cons_succ, i64_w, i32_w]
                        rfl
                      refine pure_ (i := 9) (N := some 86) (v := ?_) (a' := ?_) #[true, true, true, true, true, true, true, true, true, true, false, false, false] rfl rfl (any_of HT_.out (by kernel_rfl)) (fun _ _ _ h => h) (Or.inl ⟨by rfl, ?_⟩) ?_ ?_
                      rotate_left
                      · intro w'
                        go_simp
                        with_reducible rfl
                      rotate_left
                      · simp only [Act.put, List.setIfInBounds_toArray, List.set_cons_zero, List.set_cons_succ, i64_w, i32_w]
                        rfl
                      refine last_ (i := 10) (N := some 87) #[true, true, true, true, true, true, true, true, true, true, true, false, false] rfl rfl (one_of HT_.out (by kernel_rfl)) (by decide) (fun K hK => ?_)
                      refine value_ (w1 := ?_) (v := ?_) (by rfl) rfl ?_ ?_
                      rotate_left 2
                      · go_simp
                        constructor
                        · rfl
                        · rfl
                      refine hK.out _ _ ?_
                      clear hK K
                      refine norm_ (a' := ?_) ?_ ?_
                      rotate_left
                      · show Act.put _ (some 87) _ = _
                        simp only [Act.put, List.setIfInBounds_toArray, List.set_cons_zero, List.set_cons_succ, i64_w, i32_w]
                        rfl
                      refine last_ (i := 11) (N := some 88) #[true, true, true, true, true, true, true, true, true, true, true, true, false] rfl rfl (one_of HT_.out (by kernel_rfl)) (by decide) (fun K hK => ?_)
                      refine Kd.R_append_step k68 (w0 := w) w.heap.size (by rfl) (.tmp 77) (.tmp 87) 22 68 (.agg #[(.int .u64 0), (.int .i64 0)]) 16 rfl Try.underlying22 info68 rfl (by decide) (by omega) u10 x10_2 (⟨rd t107 x11_2, rd x6_2 x11_2⟩ : S68) [.int .u64 (rd t107 x11_2), .int .i64 (rd x6_2 x11_2)] (fun _ => True) (fun _ => False) rfl rfl ?aP (fun _ hk => hk.elim) ?aF ?aO ?aB ?aS ?aL ?_
                      (case aP => exact k68_mkM _ _ _ (⟨rd t107 x11_2, rd x6_2 x11_2⟩ : S68))
                      (case aB => exact (by repeat (first | (with_reducible first | exact HB.out | apply zq9 | apply zq7 | apply zq8 | refine zq6 ?_ GE101.out | refine zq6 ?_ GE102.out | refine zq6 ?_ GE112.out) | exact HB.out)))
                      (case aF => exact (fun _ _ => trivial))
                      (case aO => exact (by (with_reducible repeat (first | apply Kd.R_alloc | apply Kd.R_drewN | apply Kd.R_drew)); exact HO_10.out))
                      (case aS => exact (below_size (by repeat (first | (with_reducible first | exact HB.out | apply zq9 | apply zq7 | apply zq8 | refine zq6 ?_ GE101.out | refine zq6 ?_ GE102.out | refine zq6 ?_ GE112.out) | exact HB.out))))
                      (case aL => have := LMc39.out; omega)
                      intro v116 w41 ho hb hg hat
                      rw [← Ny115.out] at ho
                      have n0_ := zq3 (Kd.R_over' (by (with_reducible repeat (first | apply Kd.R_alloc | apply Kd.R_drewN | apply Kd.R_drew)); exact HO_6.out) (Kd.R_typed (by (with_reducible repeat (first | apply Kd.R_alloc | apply Kd.R_drewN | apply Kd.R_drew)); exact HO_10.out)) (by decide) hg)
                      have n1_ := zq3 (Kd.R_over' (by (with_reducible repeat (first | apply Kd.R_alloc | apply Kd.R_drewN | apply Kd.R_drew)); exact HO_8.out) (Kd.R_typed (by (with_reducible repeat (first | apply Kd.R_alloc | apply Kd.R_drewN | apply Kd.R_drew)); exact HO_10.out)) (by decide) hg)
                      have n2_ := zq3 (blk_grown (g := gb101) (o := .cells #[.int .u64 a0_0, .int .u64 a0_1] 39 (0, 0)) (by (with_reducible repeat (first | refine zq0 ?_ _ | refine zq2 ?_ | refine zq1 ?_ _)); exact BK101.out) hg (Kd.R_ne HO_10.out BK101.out (by decide)))
                      have n3_ := zq3 (blk_grown (g := gb102) (o := .cells #[.int .i64 1, .bool false, .int .u64 (Int.tmod a0_0 1099511627777), .int .u64 0, .int .u64 (IntKind.u64.wrap (1 + (Int.tmod a0_1 4294967296))), .int .u64 0] 49 (0, 0)) (by (with_reducible repeat (first | refine zq0 ?_ _ | refine zq2 ?_ | refine zq1 ?_ _)); exact BK102.out) hg (Kd.R_ne HO_10.out BK102.out (by decide)))
                      have n4_ := zq3 (blk_grown (g := gb112) (o := .cells #[.int .i64 t110, .int .i64 t111] 26 (0, 0)) (by (with_reducible repeat (first | refine zq0 ?_ _ | refine zq2 ?_ | refine zq1 ?_ _)); exact BK112.out) hg (Kd.R_ne HO_10.out BK112.out (by decide)))
                      have n5_ := zq3 (hb)
                      have n6_ := zq3 (ho)
                      clear HO_6
                      clear HO_8
                      clear BK101
                      clear BK102
                      clear BK112
                      clear HB
                      clear HO_10
                      have HO_6 := n0_
                      have HO_8 := n1_
                      have BK101 := n2_
                      have BK102 := n3_
                      have BK112 := n4_
                      have HB := n5_
                      have HO117 := n6_
                      clear n0_ n1_ n2_ n3_ n4_ n5_ n6_
                      clear ho hb hg hat
                      refine hK.out _ _ ?_
                      clear hK K
                      refine norm_ (a' := ?_) ?_ ?_
                      rotate_left
                      · show Act.put _ (some 88) _ = _
                        simp only [Act.put, List.setIfInBounds_toArray, List.set_cons_zero, List.set_cons_succ, i64_w, i32_w]
                        rfl
                      refine pure_ (i := 12) (N := some 10) (v := ?_) (a' := ?_) #[true, true, true, true, true, true, true, true, true, true, true, true, true] rfl rfl (any_of HT_.out (by kernel_rfl)) (fun _ _ _ h => h) (Or.inl ⟨by rfl, ?_⟩) ?_ ?_
                      rotate_left
                      · intro w'
                        go_simp
                        with_reducible rfl
                      rotate_left
                      · simp only [Act.put, List.setIfInBounds_toArray, List.set_cons_zero, List.set_cons_succ, i64_w, i32_w]
                        rfl
                      refine done_ (done_of HT_.out (by kernel_rfl)) ?_
                      try go_wp2
                      go_roundg k2
                      case measure => have := HJ2.out; have := HK2.out; omega
                      case rel => exact ⟨(y115), (wrap64 (x11_2 + 1)), (by first | rfl | (simp; done) | (simp [*]; done)), H', ⟨by have := HJ2.out; have := HK2.out; omega⟩, ⟨by (with_reducible repeat (first | apply Kd.R_alloc | apply Kd.R_drewN | apply Kd.R_drew)); exact HO_6.out⟩, ⟨by (with_reducible repeat (first | apply Kd.R_alloc | apply Kd.R_drewN | apply Kd.R_drew)); exact HO_8.out⟩, ⟨by (with_reducible repeat (first | apply Kd.R_alloc | apply Kd.R_drewN | apply Kd.R_drew)); exact HO117.out⟩, ⟨by (with_reducible repeat (first | refine zq0 ?_ _ | refine zq2 ?_ | refine zq1 ?_ _)); exact BK101.out⟩, ⟨by (with_reducible repeat (first | refine zq0 ?_ _ | refine zq2 ?_ | refine zq1 ?_ _)); exact BK102.out⟩, ⟨by (with_reducible repeat (first | refine zq0 ?_ _ | refine zq2 ?_ | refine zq1 ?_ _)); exact BK112.out⟩, ⟨by repeat (first | (with_reducible first | exact HB.out | apply zq9 | apply zq7 | apply zq8 | refine zq6 ?_ GE101.out | refine zq6 ?_ GE102.out | refine zq6 ?_ GE112.out) | exact HB.out)⟩⟩
                    · rw [if_neg c39] at H
                      exact absurd H (by simp)
                  · rw [if_neg c38] at H
                    exact absurd H (by simp)
                · rw [if_neg c37] at H
                  exact absurd H (by simp)
              · rw [if_neg c36] at H
                have c36b0 : decide (x11_2 < (t107.length : Int)) = false := decide_eq_false c36
                clear c36
                replace H := Option.bind_eq_some_iff.mp H
                obtain ⟨⟨t118, t119, t120, t121⟩, A420, H⟩ := H
                replace H : (if (!(t120 == 0) || (!(t121 == 0))) = true then (none) else (if (wrap64 ((x10_2.length : Int) - 1)) > 0 then (if 0 ≤ (wrap64 ((x10_2.length : Int) - 1)) then (if (wrap64 ((x10_2.length : Int) - 1)) < (x10_2.length : Int) then (if 0 ≤ (wrap64 ((wrap64 ((x10_2.length : Int) - 1)) - 1)) then (if (wrap64 ((wrap64 ((x10_2.length : Int) - 1)) - 1)) < (x10_2.length : Int) then (weighbridgetop_WholePaced.j3 k2 x10_2 (wrap64 ((x10_2.length : Int) - 1)) (decide (((rd_T68 x10_2 (wrap64 ((x10_2.length : Int) - 1))).f0) > ((rd_T68 x10_2 (wrap64 ((wrap64 ((x10_2.length : Int) - 1)) - 1))).f0))) 1 false (Int.tmod a0_0 1099511627777) 0 (IntKind.u64.wrap (1 + (Int.tmod a0_1 4294967296))) 0) else (none)) else (none)) else (none)) else (none)) else (weighbridgetop_WholePaced.j3 k2 x10_2 (wrap64 ((x10_2.length : Int) - 1)) false 1 false (Int.tmod a0_0 1099511627777) 0 (IntKind.u64.wrap (1 + (Int.tmod a0_1 4294967296))) 0))) = some r := H
                have A42 := zq3 A420
                clear A420
                by_cases c43 : (!(t120 == 0) || (!(t121 == 0))) = true
                · rw [if_pos c43] at H
                  exact absurd H (by simp)
                · rw [if_neg c43] at H
                  have c43b0 : (!(t120 == 0) || (!(t121 == 0))) = false := by simpa using c43
                  clear c43
                  have HC44 := zq3 H
                  clear H
                  have hnb45 := NB102_101.out
                  have hnc45 := NB101_102.out
                  have hnb46 := NB102_112.out
                  have hnc46 := NB112_102.out
                  have hcz47_0 : wr.cell? ⟨gb102, 0, none⟩ = some (.int .i64 1) := (zq5 BK102.out 0).trans rfl
                  have hcz47_1 : wr.cell? ⟨gb102, 1, none⟩ = some (.bool false) := (zq5 BK102.out 1).trans rfl
                  have hcz47_2 : wr.cell? ⟨gb102, 2, none⟩ = some (.int .u64 (Int.tmod a0_0 1099511627777)) := (zq5 BK102.out 2).trans rfl
                  have hcz47_3 : wr.cell? ⟨gb102, 3, none⟩ = some (.int .u64 0) := (zq5 BK102.out 3).trans rfl
                  have hcz47_4 : wr.cell? ⟨gb102, 4, none⟩ = some (.int .u64 (IntKind.u64.wrap (1 + (Int.tmod a0_1 4294967296)))) := (zq5 BK102.out 4).trans rfl
                  have hcz47_5 : wr.cell? ⟨gb102, 5, none⟩ = some (.int .u64 0) := (zq5 BK102.out 5).trans rfl
                  have hfz47_0 := zq4 BK102.out 0
                  have hfz47_1 := zq4 BK102.out 1
                  have hfz47_2 := zq4 BK102.out 2
                  have hfz47_3 := zq4 BK102.out 3
                  have hfz47_4 := zq4 BK102.out 4
                  have hfz47_5 := zq4 BK102.out 5
                  obtain ⟨Ao48, co48, eo48⟩ := Kd.R_slice HO_10.out
                  subst eo48
                  go_upto_region 21 with (first | ((with_reducible refine gate_callee (f := 11) rfl ?_); refine goesL_ (some 95) rfl rfl Try.func11 (by kernel_rfl) rfl #[.slice Ao48 x10_2.length co48, .int .u64 (Int.tmod a0_0 1099511627777), .int .u64 (IntKind.u64.wrap (1 + (Int.tmod a0_1 4294967296)))] rfl (by (try simp only [List.map_toArray, List.map_cons, List.map_nil]); first | done | rfl | (simp only [List.length_drop, List.length_take]; rfl)) ?_; (with_reducible refine (curve_Breaks.calls _ _ x10_2 (Int.tmod a0_0 1099511627777) (IntKind.u64.wrap (1 + (Int.tmod a0_1 4294967296))) t118 t119 t120 t121 _ ?side1 ?side2 A42.out).mono ?_); (case side1 => repeat (first | exact (Kd.R_reads' HO_10.out).2.2 | (with_reducible refine Kd.C_alloc ?_ _) | (with_reducible refine Kd.C_drewN ?_ _) | (with_reducible refine Kd.C_drew ?_))); (case side2 => exact (Kd.R_reads' HO_10.out).2.1); rintro e w49 ⟨rfl, hb⟩; refine ⟨_, rfl, ?_⟩; have n0_ := zq3 (Kd.R_below (by (with_reducible repeat (first | apply Kd.R_alloc | apply Kd.R_drewN | apply Kd.R_drew)); exact HO_6.out) hb); have n1_ := zq3 (Kd.R_below (by (with_reducible repeat (first | apply Kd.R_alloc | apply Kd.R_drewN | apply Kd.R_drew)); exact HO_8.out) hb); have n2_ := zq3 (Kd.R_below (by (with_reducible repeat (first | apply Kd.R_alloc | apply Kd.R_drewN | apply Kd.R_drew)); exact HO_10.out) hb); have n3_ := zq3 (zq10 (g := gb101) (o := .cells #[.int .u64 a0_0, .int .u64 a0_1] 39 (0, 0)) (by (with_reducible repeat (first | refine zq0 ?_ _ | refine zq2 ?_ | refine zq1 ?_ _)); exact BK101.out) hb); have n4_ := zq3 (zq10 (g := gb102) (o := .cells #[.int .i64 1, .bool false, .int .u64 (Int.tmod a0_0 1099511627777), .int .u64 0, .int .u64 (IntKind.u64.wrap (1 + (Int.tmod a0_1 4294967296))), .int .u64 0] 49 (0, 0)) (by (with_reducible repeat (first | refine zq0 ?_ _ | refine zq2 ?_ | refine zq1 ?_ _)); exact BK102.out) hb); have n5_ := zq3 (zq10 (g := gb112) (o := .cells #[.int .i64 t110, .int .i64 t111] 26 (0, 0)) (by (with_reducible repeat (first | refine zq0 ?_ _ | refine zq2 ?_ | refine zq1 ?_ _)); exact BK112.out) hb); have n6_ := zq3 (below_step (by repeat (first | (with_reducible first | exact HB.out | apply zq9 | apply zq7 | apply zq8 | refine zq6 ?_ GE101.out | refine zq6 ?_ GE102.out | refine zq6 ?_ GE112.out) | exact HB.out)) hb); clear HO_6; clear HO_8; clear HO_10; clear BK101; clear BK102; clear BK112; clear HB; have HO_6 := n0_; have HO_8 := n1_; have HO_10 := n2_; have BK101 := n3_; have BK102 := n4_; have BK112 := n5_; have HB := n6_; clear n0_ n1_ n2_ n3_ n4_ n5_ n6_; (try clear hb); (try clear hb2); (try clear hk); (try clear hi)) | ((with_reducible refine gate_dst (N := 14) rfl ?_); (try (refine gate_guard (by rfl) ?_; dsimp only)); refine box_event ?hg (N := 14) ?hd (cs := #[.int .i64 0, .int .i64 0]) (t := 26) ?hr ?_; (case hd => rfl); (case hg => rfl); (case hr => first | (go_simp; done) | (go_simp; rfl)); intro gb122 hg w50 hbox hb; have n0_ := zq3 (Kd.R_below (by (with_reducible repeat (first | apply Kd.R_alloc | apply Kd.R_drewN | apply Kd.R_drew)); exact HO_6.out) hb); have n1_ := zq3 (Kd.R_below (by (with_reducible repeat (first | apply Kd.R_alloc | apply Kd.R_drewN | apply Kd.R_drew)); exact HO_8.out) hb); have n2_ := zq3 (Kd.R_below (by (with_reducible repeat (first | apply Kd.R_alloc | apply Kd.R_drewN | apply Kd.R_drew)); exact HO_10.out) hb); have n3_ := zq3 (zq10 (g := gb101) (o := .cells #[.int .u64 a0_0, .int .u64 a0_1] 39 (0, 0)) (by (with_reducible repeat (first | refine zq0 ?_ _ | refine zq2 ?_ | refine zq1 ?_ _)); exact BK101.out) hb); have n4_ := zq3 (zq10 (g := gb102) (o := .cells #[.int .i64 1, .bool false, .int .u64 (Int.tmod a0_0 1099511627777), .int .u64 0, .int .u64 (IntKind.u64.wrap (1 + (Int.tmod a0_1 4294967296))), .int .u64 0] 49 (0, 0)) (by (with_reducible repeat (first | refine zq0 ?_ _ | refine zq2 ?_ | refine zq1 ?_ _)); exact BK102.out) hb); have n5_ := zq3 (zq10 (g := gb112) (o := .cells #[.int .i64 t110, .int .i64 t111] 26 (0, 0)) (by (with_reducible repeat (first | refine zq0 ?_ _ | refine zq2 ?_ | refine zq1 ?_ _)); exact BK112.out) hb); have n6_ := zq3 (below_step (by repeat (first | (with_reducible first | exact HB.out | apply zq9 | apply zq7 | apply zq8 | refine zq6 ?_ GE101.out | refine zq6 ?_ GE102.out | refine zq6 ?_ GE112.out) | exact HB.out)) hb); have n7_ := zq3 (hbox); have n8_ := zq3 ((by rw [hg]; exact (below_size (by repeat (first | (with_reducible first | exact HB.out | apply zq9 | apply zq7 | apply zq8 | refine zq6 ?_ GE101.out | refine zq6 ?_ GE102.out | refine zq6 ?_ GE112.out) | exact HB.out))) : w.heap.size ≤ gb122)); have n9_ := zq3 ((by rw [hg]; exact (below_size (by repeat (first | (with_reducible first | exact HB.out | apply zq9 | apply zq7 | apply zq8 | refine zq6 ?_ GE101.out | refine zq6 ?_ GE102.out | refine zq6 ?_ GE112.out) | exact HB.out))) : w.heap.size ≤ gb122)); have n10_ := zq3 ((by rw [hg]; exact Nat.ne_of_lt (blk_lt (g := gb101) (o := .cells #[.int .u64 a0_0, .int .u64 a0_1] 39 (0, 0)) (by (with_reducible repeat (first | refine zq0 ?_ _ | refine zq2 ?_ | refine zq1 ?_ _)); exact BK101.out)) : gb101 ≠ gb122)); have n11_ := zq3 ((by rw [hg]; exact Nat.ne_of_gt (blk_lt (g := gb101) (o := .cells #[.int .u64 a0_0, .int .u64 a0_1] 39 (0, 0)) (by (with_reducible repeat (first | refine zq0 ?_ _ | refine zq2 ?_ | refine zq1 ?_ _)); exact BK101.out)) : gb122 ≠ gb101)); have n12_ := zq3 ((by rw [hg]; exact Nat.ne_of_lt (blk_lt (g := gb102) (o := .cells #[.int .i64 1, .bool false, .int .u64 (Int.tmod a0_0 1099511627777), .int .u64 0, .int .u64 (IntKind.u64.wrap (1 + (Int.tmod a0_1 4294967296))), .int .u64 0] 49 (0, 0)) (by (with_reducible repeat (first | refine zq0 ?_ _ | refine zq2 ?_ | refine zq1 ?_ _)); exact BK102.out)) : gb102 ≠ gb122)); have n13_ := zq3 ((by rw [hg]; exact Nat.ne_of_gt (blk_lt (g := gb102) (o := .cells #[.int .i64 1, .bool false, .int .u64 (Int.tmod a0_0 1099511627777), .int .u64 0, .int .u64 (IntKind.u64.wrap (1 + (Int.tmod a0_1 4294967296))), .int .u64 0] 49 (0, 0)) (by (with_reducible repeat (first | refine zq0 ?_ _ | refine zq2 ?_ | refine zq1 ?_ _)); exact BK102.out)) : gb122 ≠ gb102)); have n14_ := zq3 ((by rw [hg]; exact Nat.ne_of_lt (blk_lt (g := gb112) (o := .cells #[.int .i64 t110, .int .i64 t111] 26 (0, 0)) (by (with_reducible repeat (first | refine zq0 ?_ _ | refine zq2 ?_ | refine zq1 ?_ _)); exact BK112.out)) : gb112 ≠ gb122)); have n15_ := zq3 ((by rw [hg]; exact Nat.ne_of_gt (blk_lt (g := gb112) (o := .cells #[.int .i64 t110, .int .i64 t111] 26 (0, 0)) (by (with_reducible repeat (first | refine zq0 ?_ _ | refine zq2 ?_ | refine zq1 ?_ _)); exact BK112.out)) : gb122 ≠ gb112)); clear HO_6; clear HO_8; clear HO_10; clear BK101; clear BK102; clear BK112; clear HB; have HO_6 := n0_; have HO_8 := n1_; have HO_10 := n2_; have BK101 := n3_; have BK102 := n4_; have BK112 := n5_; have HB := n6_; have BK122 := n7_; have GW122 := n8_; have GE122 := n9_; have NB101_122 := n10_; have NB122_101 := n11_; have NB102_122 := n12_; have NB122_102 := n13_; have NB112_122 := n14_; have NB122_112 := n15_; clear n0_ n1_ n2_ n3_ n4_ n5_ n6_ n7_ n8_ n9_ n10_ n11_ n12_ n13_ n14_ n15_; clear hb hbox hg; have hnb51 := NB122_101.out; have hnc51 := NB101_122.out; have hnb52 := NB122_102.out; have hnc52 := NB102_122.out; have hnb53 := NB122_112.out; have hnc53 := NB112_122.out; have hcz54_0 : w50.cell? ⟨gb122, 0, none⟩ = some (.int .i64 0) := (zq5 BK122.out 0).trans rfl; have hcz54_1 : w50.cell? ⟨gb122, 1, none⟩ = some (.int .i64 0) := (zq5 BK122.out 1).trans rfl; have hfz54_0 := zq4 BK122.out 0; have hfz54_1 := zq4 BK122.out 1))
                  (try simp only [Act.put, List.setIfInBounds_toArray, List.set_cons_zero, List.set_cons_succ])
                  go_cut [120] (fun v120 wc => ∃ (kq : Nat) (x120_43 : Bool), v120 = .bool x120_43 ∧ Aside0 (weighbridgetop_WholePaced.j3 kq x10_2 (wrap64 ((x10_2.length : Int) - 1)) x120_43 1 false (Int.tmod a0_0 1099511627777) 0 (IntKind.u64.wrap (1 + (Int.tmod a0_1 4294967296))) 0 = some r) ∧ Aside0 (kq ≤ k2) ∧ Aside0 (Kd.R k68 68 wc w.heap.size (fun _ => True) (.slice Ao48 x10_2.length co48) x10_2) ∧ Aside0 (wc.heap[gb101]? = some (.cells #[.int .u64 a0_0, .int .u64 a0_1] 39 (0, 0))) ∧ Aside0 (wc.heap[gb102]? = some (.cells #[.int .i64 1, .bool false, .int .u64 (Int.tmod a0_0 1099511627777), .int .u64 0, .int .u64 (IntKind.u64.wrap (1 + (Int.tmod a0_1 4294967296))), .int .u64 0] 49 (0, 0))) ∧ Aside0 (wc.heap[gb112]? = some (.cells #[.int .i64 t110, .int .i64 t111] 26 (0, 0))) ∧ Aside0 (wc.heap[gb122]? = some (.cells #[.int .i64 t120, .int .i64 t121] 26 (0, 0))) ∧ Aside0 (Below w.heap.size w wc))
                  case first =>
                    have H := HC44.out
                    clear HC44
                    by_cases c55 : (wrap64 ((x10_2.length : Int) - 1)) > 0
                    · rw [if_pos c55] at H
                      have c55b0 : decide (0 < (wrap64 ((x10_2.length : Int) - 1))) = true := decide_eq_true c55
                      clear c55
                      (first | rw [c55b0] | (simp only [i64_w, i32_w]; rw [c55b0]) | skip)
                      obtain ⟨ji56, hji56⟩ : ∃ j_ : Int, (wrap64 ((x10_2.length : Int) - 1)) = j_ := ⟨_, rfl⟩
                      replace H : (if 0 ≤ (ji56) then (if (ji56) < (x10_2.length : Int) then (if 0 ≤ (wrap64 ((ji56) - 1)) then (if (wrap64 ((ji56) - 1)) < (x10_2.length : Int) then (weighbridgetop_WholePaced.j3 k2 x10_2 ji56 (decide (((rd_T68 x10_2 (ji56)).f0) > ((rd_T68 x10_2 (wrap64 ((ji56) - 1))).f0))) 1 false (Int.tmod a0_0 1099511627777) 0 (IntKind.u64.wrap (1 + (Int.tmod a0_1 4294967296))) 0) else (none)) else (none)) else (none)) else (none)) = some r := by first | (rw [hji56] at H; exact H) | (simp only [hji56] at H ⊢; exact H)
                      (try rw [hji56] at c55b0)
                      have hji56w : (IntKind.i64.wrap ((x10_2.length : Int) - 1)) = ji56 := (i64_w _).trans hji56
                      by_cases c57 : 0 ≤ (ji56)
                      · rw [if_pos c57] at H
                        have c57b0 : decide (0 ≤ (ji56)) = true := decide_eq_true c57
                        clear c57
                        by_cases c58 : (ji56) < (x10_2.length : Int)
                        · rw [if_pos c58] at H
                          have c58b0 : decide ((ji56) < (x10_2.length : Int)) = true := decide_eq_true c58
                          clear c58
                          obtain ⟨ji59, hji59⟩ : ∃ j_ : Int, (wrap64 ((ji56) - 1)) = j_ := ⟨_, rfl⟩
                          replace H : (if 0 ≤ (ji59) then (if (ji59) < (x10_2.length : Int) then (weighbridgetop_WholePaced.j3 k2 x10_2 ji56 (decide (((rd_T68 x10_2 (ji56)).f0) > ((rd_T68 x10_2 (ji59)).f0))) 1 false (Int.tmod a0_0 1099511627777) 0 (IntKind.u64.wrap (1 + (Int.tmod a0_1 4294967296))) 0) else (none)) else (none)) = some r := by first | (rw [hji59] at H; exact H) | (simp only [hji59] at H ⊢; exact H)
                          have hji59w : (IntKind.i64.wrap ((ji56) - 1)) = ji59 := (i64_w _).trans hji59
                          by_cases c60 : 0 ≤ (ji59)
                          · rw [if_pos c60] at H
                            have c60b0 : decide (0 ≤ (ji59)) = true := decide_eq_true c60
                            clear c60
                            by_cases c61 : (ji59) < (x10_2.length : Int)
                            · rw [if_pos c61] at H
                              have c61b0 : decide ((ji59) < (x10_2.length : Int)) = true := decide_eq_true c61
                              clear c61
                              have H' := zq3 H
                              clear H
                              try go_wp2
                              have n0_ : Aside0 (Kd.R (Kd.int .i64) 3 ((w50.setCell ⟨gb122, 0, none⟩ (.int .i64 t120)).setCell ⟨gb122, 1, none⟩ (.int .i64 t121)) w.heap.size (fun _ => True) (.slice Ao29 x6_2.length co29) x6_2) := ⟨by (with_reducible repeat (first | apply Kd.R_alloc | apply Kd.R_drewN | apply Kd.R_drew)); exact Kd.R_mono (Kd.R_far (p := ⟨gb122, 1, none⟩) (Kd.R_far (p := ⟨gb122, 0, none⟩) (Kd.R_types HO_6.out BK122.out (by decide)) (fun _ hk => hk.2) (.int .i64 t120)) (fun _ hk => hk.2) (.int .i64 t121)) (fun _ hk => trivial)⟩
                              have n1_ : Aside0 (Kd.R (Kd.int .u64) 23 ((w50.setCell ⟨gb122, 0, none⟩ (.int .i64 t120)).setCell ⟨gb122, 1, none⟩ (.int .i64 t121)) w.heap.size (fun _ => True) (.slice Ao35 t107.length co35) t107) := ⟨by (with_reducible repeat (first | apply Kd.R_alloc | apply Kd.R_drewN | apply Kd.R_drew)); exact Kd.R_mono (Kd.R_far (p := ⟨gb122, 1, none⟩) (Kd.R_far (p := ⟨gb122, 0, none⟩) (Kd.R_types HO_8.out BK122.out (by decide)) (fun _ hk => hk.2) (.int .i64 t120)) (fun _ hk => hk.2) (.int .i64 t121)) (fun _ hk => trivial)⟩
                              have n2_ : Aside0 (Kd.R k68 68 ((w50.setCell ⟨gb122, 0, none⟩ (.int .i64 t120)).setCell ⟨gb122, 1, none⟩ (.int .i64 t121)) w.heap.size (fun _ => True) (.slice Ao48 x10_2.length co48) x10_2) := ⟨by (with_reducible repeat (first | apply Kd.R_alloc | apply Kd.R_drewN | apply Kd.R_drew)); exact Kd.R_mono (Kd.R_far (p := ⟨gb122, 1, none⟩) (Kd.R_far (p := ⟨gb122, 0, none⟩) (Kd.R_types HO_10.out BK122.out (by decide)) (fun _ hk => hk.2) (.int .i64 t120)) (fun _ hk => hk.2) (.int .i64 t121)) (fun _ hk => trivial)⟩
                              have n3_ : Aside0 (((w50.setCell ⟨gb122, 0, none⟩ (.int .i64 t120)).setCell ⟨gb122, 1, none⟩ (.int .i64 t121)).heap[gb101]? = some (.cells #[.int .u64 a0_0, .int .u64 a0_1] 39 (0, 0))) := ⟨by (with_reducible repeat (first | refine zq0 ?_ _ | refine zq2 ?_ | refine zq1 ?_ _)); refine zq11 ?_ NB101_122.out _; (with_reducible repeat (first | refine zq0 ?_ _ | refine zq2 ?_ | refine zq1 ?_ _)); refine zq11 ?_ NB101_122.out _; (with_reducible repeat (first | refine zq0 ?_ _ | refine zq2 ?_ | refine zq1 ?_ _)); exact BK101.out⟩
                              have n4_ : Aside0 (((w50.setCell ⟨gb122, 0, none⟩ (.int .i64 t120)).setCell ⟨gb122, 1, none⟩ (.int .i64 t121)).heap[gb102]? = some (.cells #[.int .i64 1, .bool false, .int .u64 (Int.tmod a0_0 1099511627777), .int .u64 0, .int .u64 (IntKind.u64.wrap (1 + (Int.tmod a0_1 4294967296))), .int .u64 0] 49 (0, 0))) := ⟨by (with_reducible repeat (first | refine zq0 ?_ _ | refine zq2 ?_ | refine zq1 ?_ _)); refine zq11 ?_ NB102_122.out _; (with_reducible repeat (first | refine zq0 ?_ _ | refine zq2 ?_ | refine zq1 ?_ _)); refine zq11 ?_ NB102_122.out _; (with_reducible repeat (first | refine zq0 ?_ _ | refine zq2 ?_ | refine zq1 ?_ _)); exact BK102.out⟩
                              have n5_ : Aside0 (((w50.setCell ⟨gb122, 0, none⟩ (.int .i64 t120)).setCell ⟨gb122, 1, none⟩ (.int .i64 t121)).heap[gb112]? = some (.cells #[.int .i64 t110, .int .i64 t111] 26 (0, 0))) := ⟨by (with_reducible repeat (first | refine zq0 ?_ _ | refine zq2 ?_ | refine zq1 ?_ _)); refine zq11 ?_ NB112_122.out _; (with_reducible repeat (first | refine zq0 ?_ _ | refine zq2 ?_ | refine zq1 ?_ _)); refine zq11 ?_ NB112_122.out _; (with_reducible repeat (first | refine zq0 ?_ _ | refine zq2 ?_ | refine zq1 ?_ _)); exact BK112.out⟩
                              have n6_ : Aside0 (((w50.setCell ⟨gb122, 0, none⟩ (.int .i64 t120)).setCell ⟨gb122, 1, none⟩ (.int .i64 t121)).heap[gb122]? = some (.cells #[.int .i64 t120, .int .i64 t121] 26 (0, 0))) := ⟨by (with_reducible repeat (first | refine zq0 ?_ _ | refine zq2 ?_ | refine zq1 ?_ _)); refine blk_put (cs := #[.int .i64 t120, .int .i64 0]) ?_ 1 _ rfl; (with_reducible repeat (first | refine zq0 ?_ _ | refine zq2 ?_ | refine zq1 ?_ _)); refine blk_put (cs := #[.int .i64 0, .int .i64 0]) ?_ 0 _ rfl; (with_reducible repeat (first | refine zq0 ?_ _ | refine zq2 ?_ | refine zq1 ?_ _)); exact BK122.out⟩
                              have n7_ : Aside0 (Below w.heap.size w ((w50.setCell ⟨gb122, 0, none⟩ (.int .i64 t120)).setCell ⟨gb122, 1, none⟩ (.int .i64 t121))) := ⟨by repeat (first | (with_reducible first | exact HB.out | apply zq9 | apply zq7 | apply zq8 | refine zq6 ?_ GE101.out | refine zq6 ?_ GE102.out | refine zq6 ?_ GE112.out | refine zq6 ?_ GE122.out) | exact HB.out)⟩
                              (try clear HO_6)
                              (try clear HO_8)
                              (try clear HO_10)
                              (try clear BK101)
                              (try clear BK102)
                              (try clear BK112)
                              (try clear BK122)
                              (try clear HB)
                              generalize ((w50.setCell ⟨gb122, 0, none⟩ (.int .i64 t120)).setCell ⟨gb122, 1, none⟩ (.int .i64 t121)) = w62 at n0_ n1_ n2_ n3_ n4_ n5_ n6_ n7_ ⊢
                              have HO_6 := n0_
                              have HO_8 := n1_
                              have HO_10 := n2_
                              have BK101 := n3_
                              have BK102 := n4_
                              have BK112 := n5_
                              have BK122 := n6_
                              have HB := n7_
                              clear n0_ n1_ n2_ n3_ n4_ n5_ n6_ n7_
                              have n0_ := zq3 (Kd.R_drew HO_6.out)
                              have n1_ := zq3 (Kd.R_drew HO_8.out)
                              have n2_ := zq3 (Kd.R_drew HO_10.out)
                              have n3_ := zq3 (zq2 BK101.out)
                              have n4_ := zq3 (zq2 BK102.out)
                              have n5_ := zq3 (zq2 BK112.out)
                              have n6_ := zq3 (zq2 BK122.out)
                              have n7_ := zq3 (zq8 HB.out)
                              clear HO_6
                              clear HO_8
                              clear HO_10
                              clear BK101
                              clear BK102
                              clear BK112
                              clear BK122
                              clear HB
                              have HO_6 := n0_
                              have HO_8 := n1_
                              have HO_10 := n2_
                              have BK101 := n3_
                              have BK102 := n4_
                              have BK112 := n5_
                              have BK122 := n6_
                              have HB := n7_
                              clear n0_ n1_ n2_ n3_ n4_ n5_ n6_ n7_
                              have p123 : 0 ≤ ((ji56) : Int) := of_decide_eq_true (by first | (with_reducible assumption) | assumption)
                              have q123 : (ji56) < (x10_2.length : Int) := of_decide_eq_true (by first | (with_reducible assumption) | assumption)
                              obtain ⟨ad123, e123, hx123_0, hx123_1⟩ := at_T68 (Kd.R_reads' HO_10.out).2.2 (ji56) p123 q123
                              cases e123
                              replace p123 := eq_true p123
                              replace q123 := eq_true q123
                              have p124 : 0 ≤ ((ji59) : Int) := of_decide_eq_true (by first | (with_reducible assumption) | assumption)
                              have q124 : (ji59) < (x10_2.length : Int) := of_decide_eq_true (by first | (with_reducible assumption) | assumption)
                              obtain ⟨ad124, e124, hx124_0, hx124_1⟩ := at_T68 (Kd.R_reads' HO_10.out).2.2 (ji59) p124 q124
                              obtain rfl : ad123 = ad124 := (by injection e124)
                              replace p124 := eq_true p124
                              replace q124 := eq_true q124
                              refine start_ (n := 16) (S := fun w' => w'.cell? (ad123.add (((ji56)).toNat * 2)) = some (.int .u64 ((rd_T68 x10_2 (ji56)).f0)) ∧ w'.cell? ⟨(ad123.add (((ji56)).toNat * 2)).block, (ad123.add (((ji56)).toNat * 2)).off + 1, none⟩ = some (.int .i64 ((rd_T68 x10_2 (ji56)).f1)) ∧ w'.cell? (ad123.add (((ji59)).toNat * 2)) = some (.int .u64 ((rd_T68 x10_2 (ji59)).f0)) ∧ w'.cell? ⟨(ad123.add (((ji59)).toNat * 2)).block, (ad123.add (((ji59)).toNat * 2)).off + 1, none⟩ = some (.int .i64 ((rd_T68 x10_2 (ji59)).f1))) (ds := []) #[false, false, false, false, false, false, false, false, false, false, false, false, false, false, false, false] (by kernel_rfl) rfl rfl ⟨hx123_0, hx123_1, hx124_0, hx124_1⟩ (fun hHeld => ?_); refine with_tabW weighbridgetop_WholePaced.tab21 weighbridgetop_WholePaced.bits21 (fun HT_ HW_ => ?_)
                              generalize w62.drew = w63 at HO_6 HO_8 HO_10 BK101 BK102 BK112 BK122 HB hx123_0 hx123_1 hx124_0 hx124_1 hHeld ⊢
                              refine pure_ (i := 0) (N := some 105) (v := ?_) (a' := ?_) #[true, false, false, false, false, false, false, false, false, false, false, false, false, false, false, false] rfl rfl (any_of HT_.out (by kernel_rfl)) (fun _ _ _ h => h) (Or.inl ⟨by rfl, ?_⟩) ?_ ?_
                              rotate_left
                              · intro w'
                                go_simp
                                with_reducible rfl
                              rotate_left
                              · simp only [Act.put, List.setIfInBounds_toArray, List.set_cons_zero, List.set_cons_succ, i64_w, i32_w]
                                rfl
                              refine pure_ (i := 1) (N := some 106) (v := ?_) (a' := ?_) #[true, true, false, false, false, false, false, false, false, false, false, false, false, false, false, false] rfl rfl (any_of HT_.out (by kernel_rfl)) (fun _ _ _ h => h) (Or.inl ⟨by rfl, ?_⟩) ?_ ?_
                              rotate_left
                              · intro w'
                                go_simp
                                with_reducible rfl
                              rotate_left
                              · simp only [Act.put, List.setIfInBounds_toArray, List.set_cons_zero, List.set_cons_succ, i64_w, i32_w]
                                rfl
                              refine pure_ (i := 2) (N := some 107) (v := ?_) (a' := ?_) #[true, true, true, false, false, false, false, false, false, false, false, false, false, false, false, false] rfl rfl (any_of HT_.out (by kernel_rfl)) (fun _ _ _ h => h) (Or.inl ⟨by rfl, ?_⟩) ?_ ?_
                              rotate_left
                              · intro w'
                                go_simp
                                with_reducible rfl
                              rotate_left
                              · simp only [Act.put, List.setIfInBounds_toArray, List.set_cons_zero, List.set_cons_succ, i64_w, i32_w]
                                rfl
                              refine pure_ (i := 3) (N := some 108) (v := ?_) (a' := ?_) #[true, true, true, true, false, false, false, false, false, false, false, false, false, false, false, false] rfl rfl (any_of HT_.out (by kernel_rfl)) (fun _ _ _ h => h) (Or.inl ⟨by rfl, ?_⟩) ?_ ?_
                              rotate_left
                              · intro w'
                                go_simp
                                with_reducible rfl
                              rotate_left
                              · simp only [Act.put, List.setIfInBounds_toArray, List.set_cons_zero, List.set_cons_succ, i64_w, i32_w]
                                rfl
                              refine pure_ (i := 4) (N := some 109) (v := ?_) (a' := ?_) #[true, true, true, true, true, false, false, false, false, false, false, false, false, false, false, false] rfl rfl (any_of HT_.out (by kernel_rfl)) (fun _ _ _ h => h) (Or.inl ⟨by rfl, ?_⟩) ?_ ?_
                              rotate_left
                              · intro w'
                                go_simp
                                with_reducible rfl
                              rotate_left
                              · simp only [Act.put, List.setIfInBounds_toArray, List.set_cons_zero, List.set_cons_succ, i64_w, i32_w]
                                rfl
                              refine pure_ (i := 5) (N := some 110) (v := ?_) (a' := ?_) #[true, true, true, true, true, true, false, false, false, false, false, false, false, false, false, false] rfl rfl (any_of HT_.out (by kernel_rfl)) (fun _ _ _ h => h) (Or.inl ⟨by rfl, ?_⟩) ?_ ?_
                              rotate_left
                              · intro w'
                                go_simp
                                with_reducible rfl
                              rotate_left
                              · simp only [Act.put, List.setIfInBounds_toArray, List.set_cons_zero, List.set_cons_succ, i64_w, i32_w]
                                rfl
                              refine pure_ (i := 6) (N := some 111) (v := ?_) (a' := ?_) #[true, true, true, true, true, true, true, false, false, false, false, false, false, false, false, false] rfl rfl (any_of HT_.out (by kernel_rfl)) (fun _ _ _ h => h) (Or.inl ⟨by rfl, ?_⟩) ?_ ?_
                              rotate_left
                              · intro w'
                                go_simp
                                with_reducible rfl
                              rotate_left
                              · simp only [Act.put, List.setIfInBounds_toArray, List.set_cons_zero, List.set_cons_succ, i64_w, i32_w]
                                rfl
                              refine pure_ (i := 8) (N := some 113) (v := ?_) (a' := ?_) #[true, true, true, true, true, true, true, false, true, false, false, false, false, false, false, false] rfl rfl (any_of HT_.out (by kernel_rfl)) (fun _ _ _ h => h) (Or.inl ⟨by rfl, ?_⟩) ?_ ?_
                              rotate_left
                              · intro w'
                                go_simp
                                with_reducible rfl
                              rotate_left
                              · simp only [Act.put, List.setIfInBounds_toArray, List.set_cons_zero, List.set_cons_succ, i64_w, i32_w]
                                rfl
                              refine pure_ (i := 9) (N := some 114) (v := ?_) (a' := ?_) #[true, true, true, true, true, true, true, false, true, true, false, false, false, false, false, false] rfl rfl (any_of HT_.out (by kernel_rfl)) (fun _ _ _ h => h) (Or.inl ⟨by rfl, ?_⟩) ?_ ?_
                              rotate_left
                              · intro w'
                                go_simp
                                with_reducible rfl
                              rotate_left
                              · simp only [Act.put, List.setIfInBounds_toArray, List.set_cons_zero, List.set_cons_succ, i64_w, i32_w]
                                rfl
                              refine pure_ (i := 10) (N := some 115) (v := ?_) (a' := ?_) #[true, true, true, true, true, true, true, false, true, true, true, false, false, false, false, false] rfl rfl (any_of HT_.out (by kernel_rfl)) (fun _ _ _ h => h) (Or.inl ⟨by rfl, ?_⟩) ?_ ?_
                              rotate_left
                              · intro w'
                                go_simp
                                with_reducible rfl
                              rotate_left
                              · simp only [Act.put, List.setIfInBounds_toArray, List.set_cons_zero, List.set_cons_succ, i64_w, i32_w]
                                rfl
                              refine pure_ (i := 11) (N := some 116) (v := ?_) (a' := ?_) #[true, true, true, true, true, true, true, false, true, true, true, true, false, false, false, false] rfl rfl (any_of HT_.out (by kernel_rfl)) (fun _ _ _ h => h) (Or.inl ⟨by rfl, ?_⟩) ?_ ?_
                              rotate_left
                              · intro w'
                                go_simp
                                with_reducible rfl
                              rotate_left
                              · simp only [Act.put, List.setIfInBounds_toArray, List.set_cons_zero, List.set_cons_succ, i64_w, i32_w]
                                rfl
                              refine pure_ (i := 12) (N := some 117) (v := ?_) (a' := ?_) #[true, true, true, true, true, true, true, false, true, true, true, true, true, false, false, false] rfl rfl (any_of HT_.out (by kernel_rfl)) (fun _ _ _ h => h) (Or.inl ⟨by rfl, ?_⟩) ?_ ?_
                              rotate_left
                              · intro w'
                                go_simp
                                with_reducible rfl
                              rotate_left
                              · simp only [Act.put, List.setIfInBounds_toArray, List.set_cons_zero, List.set_cons_succ, i64_w, i32_w]
                                rfl
                              refine take_ (i := 7) (N := some 112) (v := ?_) (a' := ?_) #[true, true, true, true, true, true, true, true, true, true, true, true, true, false, false, false] rfl rfl (take_ofW HT_.out HW_.out (by kernel_rfl)) (fun _ _ _ h => h) (Or.inl ⟨by rfl, ?_⟩) hHeld ?_ ?_
                              rotate_left
                              · rintro w' ⟨s0, s1, s2, s3⟩
                                go_simp
                                with_reducible rfl
                              rotate_left
                              · simp only [Act.put, List.setIfInBounds_toArray, List.set_cons_zero, List.set_cons_succ, i64_w, i32_w]
                                rfl
                              refine take_ (i := 13) (N := some 118) (v := ?_) (a' := ?_) #[true, true, true, true, true, true, true, true, true, true, true, true, true, true, false, false] rfl rfl (take_ofW HT_.out HW_.out (by kernel_rfl)) (fun _ _ _ h => h) (Or.inl ⟨by rfl, ?_⟩) hHeld ?_ ?_
                              rotate_left
                              · rintro w' ⟨s0, s1, s2, s3⟩
                                go_simp
                                with_reducible rfl
                              rotate_left
                              · simp only [Act.put, List.setIfInBounds_toArray, List.set_cons_zero, List.set_cons_succ, i64_w, i32_w]
                                rfl
                              refine pure_ (i := 14) (N := some 119) (v := ?_) (a' := ?_) #[true, true, true, true, true, true, true, true, true, true, true, true, true, true, true, false] rfl rfl (any_of HT_.out (by kernel_rfl)) (fun _ _ _ h => h) (Or.inl ⟨by rfl, ?_⟩) ?_ ?_
                              rotate_left
                              · intro w'
                                go_simp
                                with_reducible rfl
                              rotate_left
                              · simp only [Act.put, List.setIfInBounds_toArray, List.set_cons_zero, List.set_cons_succ, i64_w, i32_w]
                                rfl
                              refine pure_ (i := 15) (N := some 120) (v := ?_) (a' := ?_) #[true, true, true, true, true, true, true, true, true, true, true, true, true, true, true, true] rfl rfl (any_of HT_.out (by kernel_rfl)) (fun _ _ _ h => h) (Or.inl ⟨by rfl, ?_⟩) ?_ ?_
                              rotate_left
                              · intro w'
                                go_simp
                                with_reducible rfl
                              rotate_left
                              · simp only [Act.put, List.setIfInBounds_toArray, List.set_cons_zero, List.set_cons_succ, i64_w, i32_w]
                                rfl
                              refine done_ (done_of HT_.out (by kernel_rfl)) ?_
                              try go_wp2
                              simp only [← hji56]
                              go_meet
                              case rel => exact ⟨_, (decide (((rd_T68 x10_2 (ji56)).f0) > ((rd_T68 x10_2 (ji59)).f0))), (by first | rfl | (simp; done) | (simp only [← hji56, ← hji59] <;> (first | rfl | simp)) | (simp [*]; done)), (by rw [hji56]; exact H'), ⟨by have := HJ2.out; have := HK2.out; first | omega | exact Nat.le_refl _⟩, ⟨by (with_reducible repeat (first | apply Kd.R_alloc | apply Kd.R_drewN | apply Kd.R_drew)); exact HO_10.out⟩, ⟨by (with_reducible repeat (first | refine zq0 ?_ _ | refine zq2 ?_ | refine zq1 ?_ _)); exact BK101.out⟩, ⟨by (with_reducible repeat (first | refine zq0 ?_ _ | refine zq2 ?_ | refine zq1 ?_ _)); exact BK102.out⟩, ⟨by (with_reducible repeat (first | refine zq0 ?_ _ | refine zq2 ?_ | refine zq1 ?_ _)); exact BK112.out⟩, ⟨by (with_reducible repeat (first | refine zq0 ?_ _ | refine zq2 ?_ | refine zq1 ?_ _)); exact BK122.out⟩, ⟨by repeat (first | (with_reducible first | exact HB.out | apply zq9 | apply zq7 | apply zq8 | refine zq6 ?_ GE101.out | refine zq6 ?_ GE102.out | refine zq6 ?_ GE112.out | refine zq6 ?_ GE122.out) | exact HB.out)⟩⟩
                            · rw [if_neg c61] at H
                              exact absurd H (by simp)
                          · rw [if_neg c60] at H
                            exact absurd H (by simp)
                        · rw [if_neg c58] at H
                          exact absurd H (by simp)
                      · rw [if_neg c57] at H
                        exact absurd H (by simp)
                    · rw [if_neg c55] at H
                      have c55b0 : decide (0 < (wrap64 ((x10_2.length : Int) - 1))) = false := decide_eq_false c55
                      clear c55
                      (first | rw [c55b0] | (simp only [i64_w, i32_w]; rw [c55b0]) | skip)
                      have H' := zq3 H
                      clear H
                      try go_wp2
                      have n0_ : Aside0 (Kd.R (Kd.int .i64) 3 ((w50.setCell ⟨gb122, 0, none⟩ (.int .i64 t120)).setCell ⟨gb122, 1, none⟩ (.int .i64 t121)) w.heap.size (fun _ => True) (.slice Ao29 x6_2.length co29) x6_2) := ⟨by (with_reducible repeat (first | apply Kd.R_alloc | apply Kd.R_drewN | apply Kd.R_drew)); exact Kd.R_mono (Kd.R_far (p := ⟨gb122, 1, none⟩) (Kd.R_far (p := ⟨gb122, 0, none⟩) (Kd.R_types HO_6.out BK122.out (by decide)) (fun _ hk => hk.2) (.int .i64 t120)) (fun _ hk => hk.2) (.int .i64 t121)) (fun _ hk => trivial)⟩
                      have n1_ : Aside0 (Kd.R (Kd.int .u64) 23 ((w50.setCell ⟨gb122, 0, none⟩ (.int .i64 t120)).setCell ⟨gb122, 1, none⟩ (.int .i64 t121)) w.heap.size (fun _ => True) (.slice Ao35 t107.length co35) t107) := ⟨by (with_reducible repeat (first | apply Kd.R_alloc | apply Kd.R_drewN | apply Kd.R_drew)); exact Kd.R_mono (Kd.R_far (p := ⟨gb122, 1, none⟩) (Kd.R_far (p := ⟨gb122, 0, none⟩) (Kd.R_types HO_8.out BK122.out (by decide)) (fun _ hk => hk.2) (.int .i64 t120)) (fun _ hk => hk.2) (.int .i64 t121)) (fun _ hk => trivial)⟩
                      have n2_ : Aside0 (Kd.R k68 68 ((w50.setCell ⟨gb122, 0, none⟩ (.int .i64 t120)).setCell ⟨gb122, 1, none⟩ (.int .i64 t121)) w.heap.size (fun _ => True) (.slice Ao48 x10_2.length co48) x10_2) := ⟨by (with_reducible repeat (first | apply Kd.R_alloc | apply Kd.R_drewN | apply Kd.R_drew)); exact Kd.R_mono (Kd.R_far (p := ⟨gb122, 1, none⟩) (Kd.R_far (p := ⟨gb122, 0, none⟩) (Kd.R_types HO_10.out BK122.out (by decide)) (fun _ hk => hk.2) (.int .i64 t120)) (fun _ hk => hk.2) (.int .i64 t121)) (fun _ hk => trivial)⟩
                      have n3_ : Aside0 (((w50.setCell ⟨gb122, 0, none⟩ (.int .i64 t120)).setCell ⟨gb122, 1, none⟩ (.int .i64 t121)).heap[gb101]? = some (.cells #[.int .u64 a0_0, .int .u64 a0_1] 39 (0, 0))) := ⟨by (with_reducible repeat (first | refine zq0 ?_ _ | refine zq2 ?_ | refine zq1 ?_ _)); refine zq11 ?_ NB101_122.out _; (with_reducible repeat (first | refine zq0 ?_ _ | refine zq2 ?_ | refine zq1 ?_ _)); refine zq11 ?_ NB101_122.out _; (with_reducible repeat (first | refine zq0 ?_ _ | refine zq2 ?_ | refine zq1 ?_ _)); exact BK101.out⟩
                      have n4_ : Aside0 (((w50.setCell ⟨gb122, 0, none⟩ (.int .i64 t120)).setCell ⟨gb122, 1, none⟩ (.int .i64 t121)).heap[gb102]? = some (.cells #[.int .i64 1, .bool false, .int .u64 (Int.tmod a0_0 1099511627777), .int .u64 0, .int .u64 (IntKind.u64.wrap (1 + (Int.tmod a0_1 4294967296))), .int .u64 0] 49 (0, 0))) := ⟨by (with_reducible repeat (first | refine zq0 ?_ _ | refine zq2 ?_ | refine zq1 ?_ _)); refine zq11 ?_ NB102_122.out _; (with_reducible repeat (first | refine zq0 ?_ _ | refine zq2 ?_ | refine zq1 ?_ _)); refine zq11 ?_ NB102_122.out _; (with_reducible repeat (first | refine zq0 ?_ _ | refine zq2 ?_ | refine zq1 ?_ _)); exact BK102.out⟩
                      have n5_ : Aside0 (((w50.setCell ⟨gb122, 0, none⟩ (.int .i64 t120)).setCell ⟨gb122, 1, none⟩ (.int .i64 t121)).heap[gb112]? = some (.cells #[.int .i64 t110, .int .i64 t111] 26 (0, 0))) := ⟨by (with_reducible repeat (first | refine zq0 ?_ _ | refine zq2 ?_ | refine zq1 ?_ _)); refine zq11 ?_ NB112_122.out _; (with_reducible repeat (first | refine zq0 ?_ _ | refine zq2 ?_ | refine zq1 ?_ _)); refine zq11 ?_ NB112_122.out _; (with_reducible repeat (first | refine zq0 ?_ _ | refine zq2 ?_ | refine zq1 ?_ _)); exact BK112.out⟩
                      have n6_ : Aside0 (((w50.setCell ⟨gb122, 0, none⟩ (.int .i64 t120)).setCell ⟨gb122, 1, none⟩ (.int .i64 t121)).heap[gb122]? = some (.cells #[.int .i64 t120, .int .i64 t121] 26 (0, 0))) := ⟨by (with_reducible repeat (first | refine zq0 ?_ _ | refine zq2 ?_ | refine zq1 ?_ _)); refine blk_put (cs := #[.int .i64 t120, .int .i64 0]) ?_ 1 _ rfl; (with_reducible repeat (first | refine zq0 ?_ _ | refine zq2 ?_ | refine zq1 ?_ _)); refine blk_put (cs := #[.int .i64 0, .int .i64 0]) ?_ 0 _ rfl; (with_reducible repeat (first | refine zq0 ?_ _ | refine zq2 ?_ | refine zq1 ?_ _)); exact BK122.out⟩
                      have n7_ : Aside0 (Below w.heap.size w ((w50.setCell ⟨gb122, 0, none⟩ (.int .i64 t120)).setCell ⟨gb122, 1, none⟩ (.int .i64 t121))) := ⟨by repeat (first | (with_reducible first | exact HB.out | apply zq9 | apply zq7 | apply zq8 | refine zq6 ?_ GE101.out | refine zq6 ?_ GE102.out | refine zq6 ?_ GE112.out | refine zq6 ?_ GE122.out) | exact HB.out)⟩
                      (try clear HO_6)
                      (try clear HO_8)
                      (try clear HO_10)
                      (try clear BK101)
                      (try clear BK102)
                      (try clear BK112)
                      (try clear BK122)
                      (try clear HB)
                      generalize ((w50.setCell ⟨gb122, 0, none⟩ (.int .i64 t120)).setCell ⟨gb122, 1, none⟩ (.int .i64 t121)) = w64 at n0_ n1_ n2_ n3_ n4_ n5_ n6_ n7_ ⊢
                      have HO_6 := n0_
                      have HO_8 := n1_
                      have HO_10 := n2_
                      have BK101 := n3_
                      have BK102 := n4_
                      have BK112 := n5_
                      have BK122 := n6_
                      have HB := n7_
                      clear n0_ n1_ n2_ n3_ n4_ n5_ n6_ n7_
                      have n0_ := zq3 (Kd.R_drew HO_6.out)
                      have n1_ := zq3 (Kd.R_drew HO_8.out)
                      have n2_ := zq3 (Kd.R_drew HO_10.out)
                      have n3_ := zq3 (zq2 BK101.out)
                      have n4_ := zq3 (zq2 BK102.out)
                      have n5_ := zq3 (zq2 BK112.out)
                      have n6_ := zq3 (zq2 BK122.out)
                      have n7_ := zq3 (zq8 HB.out)
                      clear HO_6
                      clear HO_8
                      clear HO_10
                      clear BK101
                      clear BK102
                      clear BK112
                      clear BK122
                      clear HB
                      have HO_6 := n0_
                      have HO_8 := n1_
                      have HO_10 := n2_
                      have BK101 := n3_
                      have BK102 := n4_
                      have BK112 := n5_
                      have BK122 := n6_
                      have HB := n7_
                      clear n0_ n1_ n2_ n3_ n4_ n5_ n6_ n7_
                      refine start_ (n := 16) (S := fun w' => True) (ds := []) #[false, false, false, false, false, false, false, false, false, false, false, false, false, false, false, false] (by kernel_rfl) rfl rfl trivial (fun hHeld => ?_); refine with_tabW weighbridgetop_WholePaced.tab21 weighbridgetop_WholePaced.bits21 (fun HT_ HW_ => ?_)
                      generalize w64.drew = w65 at HO_6 HO_8 HO_10 BK101 BK102 BK112 BK122 HB hHeld ⊢
                      refine pure_ (i := 0) (N := some 105) (v := ?_) (a' := ?_) #[true, false, false, false, false, false, false, false, false, false, false, false, false, false, false, false] rfl rfl (any_of HT_.out (by kernel_rfl)) (fun _ _ _ h => h) (Or.inl ⟨by rfl, ?_⟩) ?_ ?_
                      rotate_left
                      · intro w'
                        go_simp
                        with_reducible rfl
                      rotate_left
                      · simp only [Act.put, List.setIfInBounds_toArray, List.set_cons_zero, List.set_cons_succ, i64_w, i32_w]
                        rfl
                      refine pure_ (i := 1) (N := some 106) (v := ?_) (a' := ?_) #[true, true, false, false, false, false, false, false, false, false, false, false, false, false, false, false] rfl rfl (any_of HT_.out (by kernel_rfl)) (fun _ _ _ h => h) (Or.inl ⟨by rfl, ?_⟩) ?_ ?_
                      rotate_left
                      · intro w'
                        go_simp
                        with_reducible rfl
                      rotate_left
                      · simp only [Act.put, List.setIfInBounds_toArray, List.set_cons_zero, List.set_cons_succ, i64_w, i32_w]
                        rfl
                      refine pure_ (i := 2) (N := some 107) (v := ?_) (a' := ?_) #[true, true, true, false, false, false, false, false, false, false, false, false, false, false, false, false] rfl rfl (any_of HT_.out (by kernel_rfl)) (fun _ _ _ h => h) (Or.inl ⟨by rfl, ?_⟩) ?_ ?_
                      rotate_left
                      · intro w'
                        go_simp
                        with_reducible rfl
                      rotate_left
                      · simp only [Act.put, List.setIfInBounds_toArray, List.set_cons_zero, List.set_cons_succ, i64_w, i32_w]
                        rfl
                      refine pure_ (i := 3) (N := some 108) (v := undef) (a' := ?_) #[true, true, true, true, false, false, false, false, false, false, false, false, false, false, false, false] rfl rfl (any_of HT_.out (by kernel_rfl)) (fun _ _ _ h => h) (Or.inr ⟨by rfl, rfl⟩) ?_ ?_
                      rotate_left
                      · simp only [Act.put, List.setIfInBounds_toArray, List.set_cons_zero, List.set_cons_succ, i64_w, i32_w]
                        rfl
                      refine pure_ (i := 4) (N := some 109) (v := undef) (a' := ?_) #[true, true, true, true, true, false, false, false, false, false, false, false, false, false, false, false] rfl rfl (any_of HT_.out (by kernel_rfl)) (fun _ _ _ h => h) (Or.inr ⟨by rfl, rfl⟩) ?_ ?_
                      rotate_left
                      · simp only [Act.put, List.setIfInBounds_toArray, List.set_cons_zero, List.set_cons_succ, i64_w, i32_w]
                        rfl
                      refine pure_ (i := 5) (N := some 110) (v := undef) (a' := ?_) #[true, true, true, true, true, true, false, false, false, false, false, false, false, false, false, false] rfl rfl (any_of HT_.out (by kernel_rfl)) (fun _ _ _ h => h) (Or.inr ⟨by rfl, rfl⟩) ?_ ?_
                      rotate_left
                      · simp only [Act.put, List.setIfInBounds_toArray, List.set_cons_zero, List.set_cons_succ, i64_w, i32_w]
                        rfl
                      refine pure_ (i := 6) (N := some 111) (v := undef) (a' := ?_) #[true, true, true, true, true, true, true, false, false, false, false, false, false, false, false, false] rfl rfl (any_of HT_.out (by kernel_rfl)) (fun _ _ _ h => h) (Or.inr ⟨by rfl, rfl⟩) ?_ ?_
                      rotate_left
                      · simp only [Act.put, List.setIfInBounds_toArray, List.set_cons_zero, List.set_cons_succ, i64_w, i32_w]
                        rfl
                      refine pure_ (i := 7) (N := some 112) (v := undef) (a' := ?_) #[true, true, true, true, true, true, true, true, false, false, false, false, false, false, false, false] rfl rfl (any_of HT_.out (by kernel_rfl)) (fun _ _ _ h => h) (Or.inr ⟨by rfl, rfl⟩) ?_ ?_
                      rotate_left
                      · simp only [Act.put, List.setIfInBounds_toArray, List.set_cons_zero, List.set_cons_succ, i64_w, i32_w]
                        rfl
                      refine pure_ (i := 8) (N := some 113) (v := undef) (a' := ?_) #[true, true, true, true, true, true, true, true, true, false, false, false, false, false, false, false] rfl rfl (any_of HT_.out (by kernel_rfl)) (fun _ _ _ h => h) (Or.inr ⟨by rfl, rfl⟩) ?_ ?_
                      rotate_left
                      · simp only [Act.put, List.setIfInBounds_toArray, List.set_cons_zero, List.set_cons_succ, i64_w, i32_w]
                        rfl
                      refine pure_ (i := 9) (N := some 114) (v := undef) (a' := ?_) #[true, true, true, true, true, true, true, true, true, true, false, false, false, false, false, false] rfl rfl (any_of HT_.out (by kernel_rfl)) (fun _ _ _ h => h) (Or.inr ⟨by rfl, rfl⟩) ?_ ?_
                      rotate_left
                      · simp only [Act.put, List.setIfInBounds_toArray, List.set_cons_zero, List.set_cons_succ, i64_w, i32_w]
                        rfl
                      refine pure_ (i := 10) (N := some 115) (v := undef) (a' := ?_) #[true, true, true, true, true, true, true, true, true, true, true, false, false, false, false, false] rfl rfl (any_of HT_.out (by kernel_rfl)) (fun _ _ _ h => h) (Or.inr ⟨by rfl, rfl⟩) ?_ ?_
                      rotate_left
                      · simp only [Act.put, List.setIfInBounds_toArray, List.set_cons_zero, List.set_cons_succ, i64_w, i32_w]
                        rfl
                      refine pure_ (i := 11) (N := some 116) (v := undef) (a' := ?_) #[true, true, true, true, true, true, true, true, true, true, true, true, false, false, false, false] rfl rfl (any_of HT_.out (by kernel_rfl)) (fun _ _ _ h => h) (Or.inr ⟨by rfl, rfl⟩) ?_ ?_
                      rotate_left
                      · simp only [Act.put, List.setIfInBounds_toArray, List.set_cons_zero, List.set_cons_succ, i64_w, i32_w]
                        rfl
                      refine pure_ (i := 12) (N := some 117) (v := undef) (a' := ?_) #[true, true, true, true, true, true, true, true, true, true, true, true, true, false, false, false] rfl rfl (any_of HT_.out (by kernel_rfl)) (fun _ _ _ h => h) (Or.inr ⟨by rfl, rfl⟩) ?_ ?_
                      rotate_left
                      · simp only [Act.put, List.setIfInBounds_toArray, List.set_cons_zero, List.set_cons_succ, i64_w, i32_w]
                        rfl
                      refine pure_ (i := 13) (N := some 118) (v := undef) (a' := ?_) #[true, true, true, true, true, true, true, true, true, true, true, true, true, true, false, false] rfl rfl (any_of HT_.out (by kernel_rfl)) (fun _ _ _ h => h) (Or.inr ⟨by rfl, rfl⟩) ?_ ?_
                      rotate_left
                      · simp only [Act.put, List.setIfInBounds_toArray, List.set_cons_zero, List.set_cons_succ, i64_w, i32_w]
                        rfl
                      refine pure_ (i := 14) (N := some 119) (v := undef) (a' := ?_) #[true, true, true, true, true, true, true, true, true, true, true, true, true, true, true, false] rfl rfl (any_of HT_.out (by kernel_rfl)) (fun _ _ _ h => h) (Or.inr ⟨by rfl, rfl⟩) ?_ ?_
                      rotate_left
                      · simp only [Act.put, List.setIfInBounds_toArray, List.set_cons_zero, List.set_cons_succ, i64_w, i32_w]
                        rfl
                      refine pure_ (i := 15) (N := some 120) (v := ?_) (a' := ?_) #[true, true, true, true, true, true, true, true, true, true, true, true, true, true, true, true] rfl rfl (any_of HT_.out (by kernel_rfl)) (fun _ _ _ h => h) (Or.inl ⟨by rfl, ?_⟩) ?_ ?_
                      rotate_left
                      · intro w'
                        go_simp
                        with_reducible rfl
                      rotate_left
                      · simp only [Act.put, List.setIfInBounds_toArray, List.set_cons_zero, List.set_cons_succ, i64_w, i32_w]
                        rfl
                      refine done_ (done_of HT_.out (by kernel_rfl)) ?_
                      try go_wp2
                      go_meet
                      case rel => exact ⟨_, (false), (by first | rfl | (simp; done) | (simp [*]; done)), H', ⟨by have := HJ2.out; have := HK2.out; first | omega | exact Nat.le_refl _⟩, ⟨by (with_reducible repeat (first | apply Kd.R_alloc | apply Kd.R_drewN | apply Kd.R_drew)); exact HO_10.out⟩, ⟨by (with_reducible repeat (first | refine zq0 ?_ _ | refine zq2 ?_ | refine zq1 ?_ _)); exact BK101.out⟩, ⟨by (with_reducible repeat (first | refine zq0 ?_ _ | refine zq2 ?_ | refine zq1 ?_ _)); exact BK102.out⟩, ⟨by (with_reducible repeat (first | refine zq0 ?_ _ | refine zq2 ?_ | refine zq1 ?_ _)); exact BK112.out⟩, ⟨by (with_reducible repeat (first | refine zq0 ?_ _ | refine zq2 ?_ | refine zq1 ?_ _)); exact BK122.out⟩, ⟨by repeat (first | (with_reducible first | exact HB.out | apply zq9 | apply zq7 | apply zq8 | refine zq6 ?_ GE101.out | refine zq6 ?_ GE102.out | refine zq6 ?_ GE112.out | refine zq6 ?_ GE122.out) | exact HB.out)⟩⟩
                  case rest =>
                    clear HC44
                    try clear c1
                    try clear p1
                    try clear q1
                    try clear hx1
                    try clear p2
                    try clear c3
                    try clear c4
                    try clear c5
                    try clear c6
                    try clear p6
                    try clear c11
                    try clear p11
                    try clear q11
                    try clear hx11
                    try clear p12
                    try clear q12
                    try clear hx12
                    try clear c36
                    try clear c36b0
                    try clear c37
                    try clear c38
                    try clear c39
                    try clear c43
                    try clear c43b0
                    try clear c45
                    try clear c46
                    try clear c51
                    try clear c52
                    try clear c53
                    try clear c55
                    try clear c55b0
                    try clear c57
                    try clear c57b0
                    try clear c58
                    try clear c58b0
                    try clear c60
                    try clear c60b0
                    try clear c61
                    try clear c61b0
                    try clear p64
                    try clear hcz47_0
                    try clear hcz47_1
                    try clear hcz47_2
                    try clear hcz47_3
                    try clear hcz47_4
                    try clear hcz47_5
                    try clear hcz54_0
                    try clear hcz54_1
                    try clear hfz47_0
                    try clear hfz47_1
                    try clear hfz47_2
                    try clear hfz47_3
                    try clear hfz47_4
                    try clear hfz47_5
                    try clear hfz54_0
                    try clear hfz54_1
                    try clear hx113_0
                    try clear hx114_0
                    try clear hx123_0
                    try clear hx123_1
                    try clear hx124_0
                    try clear hx124_1
                    try clear p113
                    try clear p114
                    try clear p123
                    try clear p124
                    try clear q113
                    try clear q114
                    try clear q123
                    try clear q124
                    obtain ⟨kq, x120_43, rfl, HA, HJ43, HO_10, BK101, BK102, BK112, BK122, HB⟩ := hcut
                    cases kq with
                    | zero => exact absurd HA.out (by simp [weighbridgetop_WholePaced.j3])
                    | succ kj43 =>
                      have H := HA.out
                      clear HA
                      simp only [weighbridgetop_WholePaced.j3] at H
                      by_cases c66 : x120_43 = true
                      · subst c66
                        have H1 : (if 0 ≤ (wrap64 ((x10_2.length : Int) - 1)) then (if (wrap64 ((x10_2.length : Int) - 1)) < (x10_2.length : Int) then ((curve_Breaks.f (x10_2.set ((wrap64 ((x10_2.length : Int) - 1)) : Int).toNat (⟨IntKind.u64.wrap (((rd_T68 x10_2 (wrap64 ((x10_2.length : Int) - 1))).f0) - 1), (rd_T68 x10_2 (wrap64 ((x10_2.length : Int) - 1))).f1⟩ : S68)) (Int.tmod a0_0 1099511627777) (IntKind.u64.wrap (1 + (Int.tmod a0_1 4294967296)))).bind fun bt127 => (if (!(bt127.2.2.1 == 17) || (!(bt127.2.2.2 == (wrap64 ((x10_2.length : Int) - 1))))) = true then (none) else (weighbridgetop_WholePaced.j4 kj43 (bt127.2.1 != (wrap64 ((x10_2.length : Int) - 1))) 1 false (Int.tmod a0_0 1099511627777) 0 (IntKind.u64.wrap (1 + (Int.tmod a0_1 4294967296))) 0))) else (none)) else (none)) = some r := by rw [if_pos rfl] at H; exact H
                        clear H
                        have H := H1
                        clear H1
                        obtain ⟨ji67, hji67⟩ : ∃ j_ : Int, (wrap64 ((x10_2.length : Int) - 1)) = j_ := ⟨_, rfl⟩
                        replace H : (if 0 ≤ (ji67) then (if (ji67) < (x10_2.length : Int) then ((curve_Breaks.f (x10_2.set ((ji67) : Int).toNat (⟨IntKind.u64.wrap (((rd_T68 x10_2 (ji67)).f0) - 1), (rd_T68 x10_2 (ji67)).f1⟩ : S68)) (Int.tmod a0_0 1099511627777) (IntKind.u64.wrap (1 + (Int.tmod a0_1 4294967296)))).bind fun bt127 => (if (!(bt127.2.2.1 == 17) || (!(bt127.2.2.2 == (ji67)))) = true then (none) else (weighbridgetop_WholePaced.j4 kj43 (bt127.2.1 != (ji67)) 1 false (Int.tmod a0_0 1099511627777) 0 (IntKind.u64.wrap (1 + (Int.tmod a0_1 4294967296))) 0))) else (none)) else (none)) = some r := by first | (rw [hji67] at H; exact H) | (simp only [hji67] at H ⊢; exact H)
                        have hji67w : (IntKind.i64.wrap ((x10_2.length : Int) - 1)) = ji67 := (i64_w _).trans hji67
                        by_cases c68 : 0 ≤ (ji67)
                        · rw [if_pos c68] at H
                          have c68b0 : decide (0 ≤ (ji67)) = true := decide_eq_true c68
                          clear c68
                          by_cases c69 : (ji67) < (x10_2.length : Int)
                          · rw [if_pos c69] at H
                            have c69b0 : decide ((ji67) < (x10_2.length : Int)) = true := decide_eq_true c69
                            clear c69
                            obtain ⟨y126, hy126⟩ : ∃ y_ : List (S68), y_ = (x10_2.set ((ji67) : Int).toNat (⟨IntKind.u64.wrap (((rd_T68 x10_2 (ji67)).f0) - 1), (rd_T68 x10_2 (ji67)).f1⟩ : S68)) := ⟨_, rfl⟩
                            replace H : ((curve_Breaks.f y126 (Int.tmod a0_0 1099511627777) (IntKind.u64.wrap (1 + (Int.tmod a0_1 4294967296)))).bind fun bt127 => (if (!(bt127.2.2.1 == 17) || (!(bt127.2.2.2 == (ji67)))) = true then (none) else (weighbridgetop_WholePaced.j4 kj43 (bt127.2.1 != (ji67)) 1 false (Int.tmod a0_0 1099511627777) 0 (IntKind.u64.wrap (1 + (Int.tmod a0_1 4294967296))) 0))) = some r := by first | (rw [hy126]; with_reducible exact H) | (have H2_ := (Option.bind_some _ _).symm.trans H; rw [hy126]; with_reducible exact H2_) | (have H2_ := (Option.bind_some _ _).symm.trans H; with_reducible exact H2_) | with_reducible exact H | (rw [hy126]; exact H) | exact H
                            have Ny126 := zq3 hy126
                            clear hy126
                            replace H := Option.bind_eq_some_iff.mp H
                            obtain ⟨⟨t127, t128, t129, t130⟩, A710, H⟩ := H
                            replace H : (if (!(t129 == 17) || (!(t130 == (ji67)))) = true then (none) else (weighbridgetop_WholePaced.j4 kj43 (t128 != (ji67)) 1 false (Int.tmod a0_0 1099511627777) 0 (IntKind.u64.wrap (1 + (Int.tmod a0_1 4294967296))) 0)) = some r := H
                            have A71 := zq3 A710
                            clear A710
                            have HC72 := zq3 H
                            clear H
                            have p125 : 0 ≤ ((ji67) : Int) := of_decide_eq_true (by first | (with_reducible assumption) | assumption)
                            have q125 : (ji67) < (x10_2.length : Int) := of_decide_eq_true (by first | (with_reducible assumption) | assumption)
                            obtain ⟨ad125, e125, hx125_0, hx125_1⟩ := at_T68 (Kd.R_reads' HO_10.out).2.2 (ji67) p125 q125
                            cases e125
                            replace p125 := eq_true p125
                            replace q125 := eq_true q125
                            have p70 : 0 ≤ ((ji67) : Int) := of_decide_eq_true (by first | (with_reducible assumption) | assumption)
                            have q70 : ((ji67) : Int) < ((x10_2.length : Int) : Int) := of_decide_eq_true (by first | (with_reducible assumption) | assumption)
                            obtain ⟨go70, co70, eo70, gb70, gl70, cl70, HG70⟩ := Kd.R_form HO_10.out (by omega)
                            (first | cases eo70 | (injection eo70 with ea_ en_ ec_; (first | subst ea_ | (injection ea_ with ea_; subst ea_)); subst ec_; clear en_))
                            have GB70 := zq3 gb70
                            have GG70 := zq3 HG70
                            clear gb70 gl70 HG70
                            (first | simp only [add_plain] at hx125_0 | skip)
                            (first | simp only [add_plain] at hx125_1 | skip)
                            obtain ⟨ce70, hcl70, hM70, hcc70, hfr70⟩ := Kd.R_elem HO_10.out z68 ((ji67) : Int) p70 q70
                            obtain rfl := k68_openM hM70
                            have hx70_0 : wc.cell? ⟨go70, ((ji67) : Int).toNat * 2, none⟩ = some (.int .u64 ((rd_T68 x10_2 (ji67)).f0)) := hcc70 0 _ rfl
                            have hx70_1 : wc.cell? ⟨go70, ((ji67) : Int).toNat * 2 + 1, none⟩ = some (.int .i64 ((rd_T68 x10_2 (ji67)).f1)) := hcc70 1 _ rfl
                            have hf70_0 : wc.frozen? ⟨go70, ((ji67) : Int).toNat * 2, none⟩ = false := hfr70 0
                            have hf70_1 : wc.frozen? ⟨go70, ((ji67) : Int).toNat * 2 + 1, none⟩ = false := hfr70 1
                            clear hcl70 hcc70 hfr70 hM70
                            replace p70 := eq_true p70
                            replace q70 := eq_true q70
                            have HX73 := zq3 (show Kd.R k68 68 wc w.heap.size (fun _ => True) (.slice (some ⟨go70, 0, none⟩) x10_2.length co48) x10_2 from (by (with_reducible repeat (first | apply Kd.R_alloc | apply Kd.R_drewN | apply Kd.R_drew)); exact HO_10.out))
                            obtain ⟨ce73, hcl73, hM73, hcc73, hfr73⟩ := Kd.R_elem HX73.out z68 ((ji67) : Int) (of_decide_eq_true (by first | (with_reducible assumption) | assumption)) (by have h_ : ((ji67) : Int) < ((x10_2.length : Int) : Int) := of_decide_eq_true (by first | (with_reducible assumption) | assumption); first | exact h_ | (have e_ := (Kd.R_reads' HO_10.out).1; omega) | simpa using h_)
                            obtain rfl := k68_openM hM73
                            have HP73 := Kd.R_seg HX73.out ((ji67) : Int) (of_decide_eq_true (by first | (with_reducible assumption) | assumption)) (by have h_ : ((ji67) : Int) < ((x10_2.length : Int) : Int) := of_decide_eq_true (by first | (with_reducible assumption) | assumption); first | exact h_ | (have e_ := (Kd.R_reads' HO_10.out).1; omega) | simpa using h_) (seg := [.int .u64 (IntKind.u64.wrap (((rd_T68 x10_2 (ji67)).f0) - 1))]) (j := 0) hcl73 hcc73 (show 1 ≤ 2 from by decide) (x' := (⟨IntKind.u64.wrap (((rd_T68 x10_2 (ji67)).f0) - 1), (rd_T68 x10_2 (ji67)).f1⟩ : S68)) (k68_mkM _ _ _ (⟨IntKind.u64.wrap (((rd_T68 x10_2 (ji67)).f0) - 1), (rd_T68 x10_2 (ji67)).f1⟩ : S68) ) (fun _ hk => hk)
                            have hx73_0 := hcc73 0 _ rfl
                            (try simp only [show (k68).sz = 2 from rfl, Nat.mul_one, Nat.add_zero] at hx73_0)
                            have hf73_0 := hfr73 0
                            (try simp only [show (k68).sz = 2 from rfl, Nat.mul_one, Nat.add_zero] at hf73_0)
                            clear hcl73 hcc73 hfr73 hM73
                            go_upto_region 24 with (first | ((with_reducible refine gate_store (t := 23) (p := 128) rfl ?_); refine store_event (t := 23) (p := 128) (v := ?vo_w74) (w1 := (wc.setCell ⟨go70, ((ji67) : Int).toNat * 2, none⟩ (.int .u64 (IntKind.u64.wrap (((rd_T68 x10_2 (ji67)).f0) - 1))))) ?hg ?ho ?hn ?hr ?_; (case ho => rfl); (case hg => rfl); (case hn => rfl); (case hr => first | (go_simp; done) | (go_simp; rfl)); intro w74 hw; have hg : wc.grownBy w74 (some go70) := (by rw [hw]; exact HP73.2); have hp_ : Kd.R k68 68 w74 w.heap.size (fun _ => True) (.slice (some ⟨go70, 0, none⟩) x10_2.length co48) y126 := (by rw [hw, Ny126.out]; exact HP73.1); clear HP73; have n0_ := zq3 (hp_); have n1_ := zq3 (blk_grown (g := gb101) (o := .cells #[.int .u64 a0_0, .int .u64 a0_1] 39 (0, 0)) (by (with_reducible repeat (first | refine zq0 ?_ _ | refine zq2 ?_ | refine zq1 ?_ _)); exact BK101.out) hg (Kd.R_ne HO_10.out BK101.out (by decide))); have n2_ := zq3 (blk_grown (g := gb102) (o := .cells #[.int .i64 1, .bool false, .int .u64 (Int.tmod a0_0 1099511627777), .int .u64 0, .int .u64 (IntKind.u64.wrap (1 + (Int.tmod a0_1 4294967296))), .int .u64 0] 49 (0, 0)) (by (with_reducible repeat (first | refine zq0 ?_ _ | refine zq2 ?_ | refine zq1 ?_ _)); exact BK102.out) hg (Kd.R_ne HO_10.out BK102.out (by decide))); have n3_ := zq3 (blk_grown (g := gb112) (o := .cells #[.int .i64 t110, .int .i64 t111] 26 (0, 0)) (by (with_reducible repeat (first | refine zq0 ?_ _ | refine zq2 ?_ | refine zq1 ?_ _)); exact BK112.out) hg (Kd.R_ne HO_10.out BK112.out (by decide))); have n4_ := zq3 (blk_grown (g := gb122) (o := .cells #[.int .i64 t120, .int .i64 t121] 26 (0, 0)) (by (with_reducible repeat (first | refine zq0 ?_ _ | refine zq2 ?_ | refine zq1 ?_ _)); exact BK122.out) hg (Kd.R_ne HO_10.out BK122.out (by decide))); have n5_ := zq3 ((by rw [hw]; exact zq6 (HB.out) GB70.out : Below w.heap.size w w74)); clear HO_10; clear BK101; clear BK102; clear BK112; clear BK122; clear HB; have HO_10 := n0_; have BK101 := n1_; have BK102 := n2_; have BK112 := n3_; have BK122 := n4_; have HB := n5_; clear n0_ n1_ n2_ n3_ n4_ n5_; clear hg hw hp_; have hnb75 := NB102_101.out; have hnc75 := NB101_102.out; have hnb76 := NB102_112.out; have hnc76 := NB112_102.out; have hnb77 := NB102_122.out; have hnc77 := NB122_102.out; have hcz78_0 : w74.cell? ⟨gb102, 0, none⟩ = some (.int .i64 1) := (zq5 BK102.out 0).trans rfl; have hcz78_1 : w74.cell? ⟨gb102, 1, none⟩ = some (.bool false) := (zq5 BK102.out 1).trans rfl; have hcz78_2 : w74.cell? ⟨gb102, 2, none⟩ = some (.int .u64 (Int.tmod a0_0 1099511627777)) := (zq5 BK102.out 2).trans rfl; have hcz78_3 : w74.cell? ⟨gb102, 3, none⟩ = some (.int .u64 0) := (zq5 BK102.out 3).trans rfl; have hcz78_4 : w74.cell? ⟨gb102, 4, none⟩ = some (.int .u64 (IntKind.u64.wrap (1 + (Int.tmod a0_1 4294967296)))) := (zq5 BK102.out 4).trans rfl; have hcz78_5 : w74.cell? ⟨gb102, 5, none⟩ = some (.int .u64 0) := (zq5 BK102.out 5).trans rfl; have hfz78_0 := zq4 BK102.out 0; have hfz78_1 := zq4 BK102.out 1; have hfz78_2 := zq4 BK102.out 2; have hfz78_3 := zq4 BK102.out 3; have hfz78_4 := zq4 BK102.out 4; have hfz78_5 := zq4 BK102.out 5) | ((with_reducible refine gate_callee (f := 11) rfl ?_); refine goesL_ (some 135) rfl rfl Try.func11 (by kernel_rfl) rfl #[.slice (some ⟨go70, 0, none⟩) y126.length co48, .int .u64 (Int.tmod a0_0 1099511627777), .int .u64 (IntKind.u64.wrap (1 + (Int.tmod a0_1 4294967296)))] rfl (by (try simp only [List.map_toArray, List.map_cons, List.map_nil]); first | done | (rw [show y126.length = x10_2.length from (Kd.R_reads' HO_10.out).1.symm] <;> rfl) | rfl | (simp only [List.length_drop, List.length_take]; rfl)) ?_; (with_reducible refine (curve_Breaks.calls _ _ y126 (Int.tmod a0_0 1099511627777) (IntKind.u64.wrap (1 + (Int.tmod a0_1 4294967296))) t127 t128 t129 t130 _ ?side1 ?side2 A71.out).mono ?_); (case side1 => repeat (first | exact (Kd.R_reads' HO_10.out).2.2 | (with_reducible refine Kd.C_alloc ?_ _) | (with_reducible refine Kd.C_drewN ?_ _) | (with_reducible refine Kd.C_drew ?_))); (case side2 => rw [show y126.length = x10_2.length from (Kd.R_reads' HO_10.out).1.symm]; exact (Kd.R_reads' HO_10.out).2.1); rintro e w79 ⟨rfl, hb⟩; refine ⟨_, rfl, ?_⟩; have n0_ := zq3 (Kd.R_below (by (with_reducible repeat (first | apply Kd.R_alloc | apply Kd.R_drewN | apply Kd.R_drew)); exact HO_10.out) hb); have n1_ := zq3 (zq10 (g := gb101) (o := .cells #[.int .u64 a0_0, .int .u64 a0_1] 39 (0, 0)) (by (with_reducible repeat (first | refine zq0 ?_ _ | refine zq2 ?_ | refine zq1 ?_ _)); exact BK101.out) hb); have n2_ := zq3 (zq10 (g := gb102) (o := .cells #[.int .i64 1, .bool false, .int .u64 (Int.tmod a0_0 1099511627777), .int .u64 0, .int .u64 (IntKind.u64.wrap (1 + (Int.tmod a0_1 4294967296))), .int .u64 0] 49 (0, 0)) (by (with_reducible repeat (first | refine zq0 ?_ _ | refine zq2 ?_ | refine zq1 ?_ _)); exact BK102.out) hb); have n3_ := zq3 (zq10 (g := gb112) (o := .cells #[.int .i64 t110, .int .i64 t111] 26 (0, 0)) (by (with_reducible repeat (first | refine zq0 ?_ _ | refine zq2 ?_ | refine zq1 ?_ _)); exact BK112.out) hb); have n4_ := zq3 (zq10 (g := gb122) (o := .cells #[.int .i64 t120, .int .i64 t121] 26 (0, 0)) (by (with_reducible repeat (first | refine zq0 ?_ _ | refine zq2 ?_ | refine zq1 ?_ _)); exact BK122.out) hb); have n5_ := zq3 (below_step (by repeat (first | (with_reducible first | exact HB.out | apply zq9 | apply zq7 | apply zq8 | refine zq6 ?_ GE101.out | refine zq6 ?_ GE102.out | refine zq6 ?_ GE112.out | refine zq6 ?_ GE122.out) | exact HB.out)) hb); clear HO_10; clear BK101; clear BK102; clear BK112; clear BK122; clear HB; have HO_10 := n0_; have BK101 := n1_; have BK102 := n2_; have BK112 := n3_; have BK122 := n4_; have HB := n5_; clear n0_ n1_ n2_ n3_ n4_ n5_; (try clear hb); (try clear hb2); (try clear hk); (try clear hi)) | ((with_reducible refine gate_dst (N := 18) rfl ?_); (try (refine gate_guard (by rfl) ?_; dsimp only)); refine box_event ?hg (N := 18) ?hd (cs := #[.int .i64 0, .int .i64 0]) (t := 26) ?hr ?_; (case hd => rfl); (case hg => rfl); (case hr => first | (go_simp; done) | (go_simp; rfl)); intro gb131 hg w80 hbox hb; have n0_ := zq3 (Kd.R_below (by (with_reducible repeat (first | apply Kd.R_alloc | apply Kd.R_drewN | apply Kd.R_drew)); exact HO_10.out) hb); have n1_ := zq3 (zq10 (g := gb101) (o := .cells #[.int .u64 a0_0, .int .u64 a0_1] 39 (0, 0)) (by (with_reducible repeat (first | refine zq0 ?_ _ | refine zq2 ?_ | refine zq1 ?_ _)); exact BK101.out) hb); have n2_ := zq3 (zq10 (g := gb102) (o := .cells #[.int .i64 1, .bool false, .int .u64 (Int.tmod a0_0 1099511627777), .int .u64 0, .int .u64 (IntKind.u64.wrap (1 + (Int.tmod a0_1 4294967296))), .int .u64 0] 49 (0, 0)) (by (with_reducible repeat (first | refine zq0 ?_ _ | refine zq2 ?_ | refine zq1 ?_ _)); exact BK102.out) hb); have n3_ := zq3 (zq10 (g := gb112) (o := .cells #[.int .i64 t110, .int .i64 t111] 26 (0, 0)) (by (with_reducible repeat (first | refine zq0 ?_ _ | refine zq2 ?_ | refine zq1 ?_ _)); exact BK112.out) hb); have n4_ := zq3 (zq10 (g := gb122) (o := .cells #[.int .i64 t120, .int .i64 t121] 26 (0, 0)) (by (with_reducible repeat (first | refine zq0 ?_ _ | refine zq2 ?_ | refine zq1 ?_ _)); exact BK122.out) hb); have n5_ := zq3 (below_step (by repeat (first | (with_reducible first | exact HB.out | apply zq9 | apply zq7 | apply zq8 | refine zq6 ?_ GE101.out | refine zq6 ?_ GE102.out | refine zq6 ?_ GE112.out | refine zq6 ?_ GE122.out) | exact HB.out)) hb); have n6_ := zq3 (hbox); have n7_ := zq3 ((by rw [hg]; exact (below_size (by repeat (first | (with_reducible first | exact HB.out | apply zq9 | apply zq7 | apply zq8 | refine zq6 ?_ GE101.out | refine zq6 ?_ GE102.out | refine zq6 ?_ GE112.out | refine zq6 ?_ GE122.out) | exact HB.out))) : w.heap.size ≤ gb131)); have n8_ := zq3 ((by rw [hg]; exact (below_size (by repeat (first | (with_reducible first | exact HB.out | apply zq9 | apply zq7 | apply zq8 | refine zq6 ?_ GE101.out | refine zq6 ?_ GE102.out | refine zq6 ?_ GE112.out | refine zq6 ?_ GE122.out) | exact HB.out))) : w.heap.size ≤ gb131)); have n9_ := zq3 ((by rw [hg]; exact Nat.ne_of_lt (blk_lt (g := gb101) (o := .cells #[.int .u64 a0_0, .int .u64 a0_1] 39 (0, 0)) (by (with_reducible repeat (first | refine zq0 ?_ _ | refine zq2 ?_ | refine zq1 ?_ _)); exact BK101.out)) : gb101 ≠ gb131)); have n10_ := zq3 ((by rw [hg]; exact Nat.ne_of_gt (blk_lt (g := gb101) (o := .cells #[.int .u64 a0_0, .int .u64 a0_1] 39 (0, 0)) (by (with_reducible repeat (first | refine zq0 ?_ _ | refine zq2 ?_ | refine zq1 ?_ _)); exact BK101.out)) : gb131 ≠ gb101)); have n11_ := zq3 ((by rw [hg]; exact Nat.ne_of_lt (blk_lt (g := gb102) (o := .cells #[.int .i64 1, .bool false, .int .u64 (Int.tmod a0_0 1099511627777), .int .u64 0, .int .u64 (IntKind.u64.wrap (1 + (Int.tmod a0_1 4294967296))), .int .u64 0] 49 (0, 0)) (by (with_reducible repeat (first | refine zq0 ?_ _ | refine zq2 ?_ | refine zq1 ?_ _)); exact BK102.out)) : gb102 ≠ gb131)); have n12_ := zq3 ((by rw [hg]; exact Nat.ne_of_gt (blk_lt (g := gb102) (o := .cells #[.int .i64 1, .bool false, .int .u64 (Int.tmod a0_0 1099511627777), .int .u64 0, .int .u64 (IntKind.u64.wrap (1 + (Int.tmod a0_1 4294967296))), .int .u64 0] 49 (0, 0)) (by (with_reducible repeat (first | refine zq0 ?_ _ | refine zq2 ?_ | refine zq1 ?_ _)); exact BK102.out)) : gb131 ≠ gb102)); have n13_ := zq3 ((by rw [hg]; exact Nat.ne_of_lt (blk_lt (g := gb112) (o := .cells #[.int .i64 t110, .int .i64 t111] 26 (0, 0)) (by (with_reducible repeat (first | refine zq0 ?_ _ | refine zq2 ?_ | refine zq1 ?_ _)); exact BK112.out)) : gb112 ≠ gb131)); have n14_ := zq3 ((by rw [hg]; exact Nat.ne_of_gt (blk_lt (g := gb112) (o := .cells #[.int .i64 t110, .int .i64 t111] 26 (0, 0)) (by (with_reducible repeat (first | refine zq0 ?_ _ | refine zq2 ?_ | refine zq1 ?_ _)); exact BK112.out)) : gb131 ≠ gb112)); have n15_ := zq3 ((by rw [hg]; exact Nat.ne_of_lt (blk_lt (g := gb122) (o := .cells #[.int .i64 t120, .int .i64 t121] 26 (0, 0)) (by (with_reducible repeat (first | refine zq0 ?_ _ | refine zq2 ?_ | refine zq1 ?_ _)); exact BK122.out)) : gb122 ≠ gb131)); have n16_ := zq3 ((by rw [hg]; exact Nat.ne_of_gt (blk_lt (g := gb122) (o := .cells #[.int .i64 t120, .int .i64 t121] 26 (0, 0)) (by (with_reducible repeat (first | refine zq0 ?_ _ | refine zq2 ?_ | refine zq1 ?_ _)); exact BK122.out)) : gb131 ≠ gb122)); clear HO_10; clear BK101; clear BK102; clear BK112; clear BK122; clear HB; have HO_10 := n0_; have BK101 := n1_; have BK102 := n2_; have BK112 := n3_; have BK122 := n4_; have HB := n5_; have BK131 := n6_; have GW131 := n7_; have GE131 := n8_; have NB101_131 := n9_; have NB131_101 := n10_; have NB102_131 := n11_; have NB131_102 := n12_; have NB112_131 := n13_; have NB131_112 := n14_; have NB122_131 := n15_; have NB131_122 := n16_; clear n0_ n1_ n2_ n3_ n4_ n5_ n6_ n7_ n8_ n9_ n10_ n11_ n12_ n13_ n14_ n15_ n16_; clear hb hbox hg; have hnb81 := NB131_101.out; have hnc81 := NB101_131.out; have hnb82 := NB131_102.out; have hnc82 := NB102_131.out; have hnb83 := NB131_112.out; have hnc83 := NB112_131.out; have hnb84 := NB131_122.out; have hnc84 := NB122_131.out; have hcz85_0 : w80.cell? ⟨gb131, 0, none⟩ = some (.int .i64 0) := (zq5 BK131.out 0).trans rfl; have hcz85_1 : w80.cell? ⟨gb131, 1, none⟩ = some (.int .i64 0) := (zq5 BK131.out 1).trans rfl; have hfz85_0 := zq4 BK131.out 0; have hfz85_1 := zq4 BK131.out 1))
                            (try simp only [Act.put, List.setIfInBounds_toArray, List.set_cons_zero, List.set_cons_succ])
                            go_cut [147] (fun v147 wc => ∃ (kq : Nat) (x147_71 : Bool), v147 = .bool x147_71 ∧ Aside0 (weighbridgetop_WholePaced.j4 kq x147_71 1 false (Int.tmod a0_0 1099511627777) 0 (IntKind.u64.wrap (1 + (Int.tmod a0_1 4294967296))) 0 = some r) ∧ Aside0 (kq ≤ kj43) ∧ Aside0 (wc.heap[gb101]? = some (.cells #[.int .u64 a0_0, .int .u64 a0_1] 39 (0, 0))) ∧ Aside0 (wc.heap[gb102]? = some (.cells #[.int .i64 1, .bool false, .int .u64 (Int.tmod a0_0 1099511627777), .int .u64 0, .int .u64 (IntKind.u64.wrap (1 + (Int.tmod a0_1 4294967296))), .int .u64 0] 49 (0, 0))) ∧ Aside0 (wc.heap[gb112]? = some (.cells #[.int .i64 t110, .int .i64 t111] 26 (0, 0))) ∧ Aside0 (wc.heap[gb122]? = some (.cells #[.int .i64 t120, .int .i64 t121] 26 (0, 0))) ∧ Aside0 (wc.heap[gb131]? = some (.cells #[.int .i64 t129, .int .i64 t130] 26 (0, 0))) ∧ Aside0 (Below w.heap.size w wc))
                            case first =>
                              have H := HC72.out
                              clear HC72
                              by_cases c86 : (!(t129 == 17) || (!(t130 == (ji67)))) = true
                              · rw [if_pos c86] at H
                                exact absurd H (by simp)
                              · rw [if_neg c86] at H
                                have c86b0 : (!(t129 == 17) || (!(t130 == (ji67)))) = false := by simpa using c86
                                clear c86
                                (first | rw [c86b0] | (simp only [i64_w, i32_w]; rw [c86b0]) | skip)
                                have H' := zq3 H
                                clear H
                                have hnb87 := NB131_101.out
                                have hnc87 := NB101_131.out
                                have hnb88 := NB131_102.out
                                have hnc88 := NB102_131.out
                                have hnb89 := NB131_112.out
                                have hnc89 := NB112_131.out
                                have hnb90 := NB131_122.out
                                have hnc90 := NB122_131.out
                                have hcz91_0 : w80.cell? ⟨gb131, 0, none⟩ = some (.int .i64 0) := (zq5 BK131.out 0).trans rfl
                                have hcz91_1 : w80.cell? ⟨gb131, 1, none⟩ = some (.int .i64 0) := (zq5 BK131.out 1).trans rfl
                                have hfz91_0 := zq4 BK131.out 0
                                have hfz91_1 := zq4 BK131.out 1
                                go_wp2
                                go_meet
                                case rel => exact ⟨_, ((t128 != (ji67))), (by first | rfl | (simp; done) | (simp only [← hji67] <;> (first | rfl | simp)) | (simp [*]; done)), H', ⟨by have := HJ2.out; have := HK2.out; have := HJ43.out; first | omega | exact Nat.le_refl _⟩, ⟨by (with_reducible repeat (first | refine zq0 ?_ _ | refine zq2 ?_ | refine zq1 ?_ _)); refine zq11 ?_ NB101_131.out _; (with_reducible repeat (first | refine zq0 ?_ _ | refine zq2 ?_ | refine zq1 ?_ _)); refine zq11 ?_ NB101_131.out _; (with_reducible repeat (first | refine zq0 ?_ _ | refine zq2 ?_ | refine zq1 ?_ _)); exact BK101.out⟩, ⟨by (with_reducible repeat (first | refine zq0 ?_ _ | refine zq2 ?_ | refine zq1 ?_ _)); refine zq11 ?_ NB102_131.out _; (with_reducible repeat (first | refine zq0 ?_ _ | refine zq2 ?_ | refine zq1 ?_ _)); refine zq11 ?_ NB102_131.out _; (with_reducible repeat (first | refine zq0 ?_ _ | refine zq2 ?_ | refine zq1 ?_ _)); exact BK102.out⟩, ⟨by (with_reducible repeat (first | refine zq0 ?_ _ | refine zq2 ?_ | refine zq1 ?_ _)); refine zq11 ?_ NB112_131.out _; (with_reducible repeat (first | refine zq0 ?_ _ | refine zq2 ?_ | refine zq1 ?_ _)); refine zq11 ?_ NB112_131.out _; (with_reducible repeat (first | refine zq0 ?_ _ | refine zq2 ?_ | refine zq1 ?_ _)); exact BK112.out⟩, ⟨by (with_reducible repeat (first | refine zq0 ?_ _ | refine zq2 ?_ | refine zq1 ?_ _)); refine zq11 ?_ NB122_131.out _; (with_reducible repeat (first | refine zq0 ?_ _ | refine zq2 ?_ | refine zq1 ?_ _)); refine zq11 ?_ NB122_131.out _; (with_reducible repeat (first | refine zq0 ?_ _ | refine zq2 ?_ | refine zq1 ?_ _)); exact BK122.out⟩, ⟨by (with_reducible repeat (first | refine zq0 ?_ _ | refine zq2 ?_ | refine zq1 ?_ _)); refine blk_put (cs := #[.int .i64 t129, .int .i64 0]) ?_ 1 _ rfl; (with_reducible repeat (first | refine zq0 ?_ _ | refine zq2 ?_ | refine zq1 ?_ _)); refine blk_put (cs := #[.int .i64 0, .int .i64 0]) ?_ 0 _ rfl; (with_reducible repeat (first | refine zq0 ?_ _ | refine zq2 ?_ | refine zq1 ?_ _)); exact BK131.out⟩, ⟨by repeat (first | (with_reducible first | exact HB.out | apply zq9 | apply zq7 | apply zq8 | refine zq6 ?_ GE101.out | refine zq6 ?_ GE102.out | refine zq6 ?_ GE112.out | refine zq6 ?_ GE122.out | refine zq6 ?_ GE131.out) | exact HB.out)⟩⟩
                            case rest =>
                              clear HC72
                              try clear c1
                              try clear p1
                              try clear q1
                              try clear hx1
                              try clear p2
                              try clear c3
                              try clear c4
                              try clear c5
                              try clear c6
                              try clear p6
                              try clear c7
                              try clear p7
                              try clear q7
                              try clear hx7
                              try clear hf7
                              try clear c8
                              try clear c9
                              try clear c11
                              try clear p11
                              try clear q11
                              try clear hx11
                              try clear p12
                              try clear q12
                              try clear hx12
                              try clear c36
                              try clear c36b0
                              try clear c37
                              try clear c38
                              try clear c39
                              try clear c43
                              try clear c43b0
                              try clear c45
                              try clear c46
                              try clear c51
                              try clear c52
                              try clear c53
                              try clear c55
                              try clear c55b0
                              try clear c57
                              try clear c57b0
                              try clear c58
                              try clear c58b0
                              try clear c60
                              try clear c60b0
                              try clear c61
                              try clear c61b0
                              try clear p64
                              try clear c66
                              try clear c68
                              try clear c68b0
                              try clear c69
                              try clear c69b0
                              try clear c70
                              try clear p70
                              try clear q70
                              try clear hx70
                              try clear hf70
                              try clear c73
                              try clear hx73
                              try clear hf73
                              try clear c75
                              try clear c76
                              try clear c77
                              try clear c81
                              try clear c82
                              try clear c83
                              try clear c84
                              try clear c86
                              try clear c86b0
                              try clear c87
                              try clear c88
                              try clear c89
                              try clear c90
                              try clear hcz47_0
                              try clear hcz47_1
                              try clear hcz47_2
                              try clear hcz47_3
                              try clear hcz47_4
                              try clear hcz47_5
                              try clear hcz54_0
                              try clear hcz54_1
                              try clear hcz78_0
                              try clear hcz78_1
                              try clear hcz78_2
                              try clear hcz78_3
                              try clear hcz78_4
                              try clear hcz78_5
                              try clear hcz85_0
                              try clear hcz85_1
                              try clear hcz91_0
                              try clear hcz91_1
                              try clear hfz47_0
                              try clear hfz47_1
                              try clear hfz47_2
                              try clear hfz47_3
                              try clear hfz47_4
                              try clear hfz47_5
                              try clear hfz54_0
                              try clear hfz54_1
                              try clear hfz78_0
                              try clear hfz78_1
                              try clear hfz78_2
                              try clear hfz78_3
                              try clear hfz78_4
                              try clear hfz78_5
                              try clear hfz85_0
                              try clear hfz85_1
                              try clear hfz91_0
                              try clear hfz91_1
                              try clear hx113_0
                              try clear hx114_0
                              try clear hx123_0
                              try clear hx123_1
                              try clear hx124_0
                              try clear hx124_1
                              try clear hx125_0
                              try clear hx125_1
                              try clear hx70_0
                              try clear hx70_1
                              try clear hx73_0
                              try clear p1
                              try clear p11
                              try clear p113
                              try clear p114
                              try clear p12
                              try clear p123
                              try clear p124
                              try clear p125
                              try clear p2
                              try clear p6
                              try clear p64
                              try clear p70
                              try clear q1
                              try clear q11
                              try clear q113
                              try clear q114
                              try clear q12
                              try clear q123
                              try clear q124
                              try clear q125
                              try clear q70
                              obtain ⟨kq, x147_71, rfl, HA, HJ71, BK101, BK102, BK112, BK122, BK131, HB⟩ := hcut
                              cases kq with
                              | zero => exact absurd HA.out (by simp [weighbridgetop_WholePaced.j4])
                              | succ kj71 =>
                                have H := HA.out
                                clear HA
                                simp only [weighbridgetop_WholePaced.j4] at H
                                by_cases c92 : x147_71 = true
                                · subst c92
                                  have H1 : (none) = some r := by rw [if_pos rfl] at H; exact H
                                  clear H
                                  have H := H1
                                  clear H1
                                  exact absurd H (by simp)
                                · replace c92 := Bool.eq_false_iff.mpr c92
                                  subst c92
                                  have H1 : ((curve_Least.f (([(⟨0, 3⟩ : S68)] : List (S68))) 0).bind fun bt135 => ((outlook_Idle.f 1 false (Int.tmod a0_0 1099511627777) 0 (IntKind.u64.wrap (1 + (Int.tmod a0_1 4294967296))) 0 0 0 0 true).bind fun bt139 => (if bt135.1 = 3 then ((meter_Check.f 1 false (Int.tmod a0_0 1099511627777) 0 (IntKind.u64.wrap (1 + (Int.tmod a0_1 4294967296))) 0).bind fun t141 => (if t141 = 0 then (if (bt139.2 == (decide ((Int.tmod a0_0 1099511627777) > 0))) = true then (if bt139.2 = true then (some (decide (bt139.1 > 0))) else (some true)) else (none)) else (none))) else (none)))) = some r := by rw [if_neg (show ¬ (false = true) by decide)] at H; exact H
                                  clear H
                                  have H := H1
                                  clear H1
                                  obtain ⟨y132, hy132⟩ : ∃ y_ : List (S68), y_ = (([(⟨0, 3⟩ : S68)] : List (S68))) := ⟨_, rfl⟩
                                  replace H : ((curve_Least.f y132 0).bind fun bt135 => ((outlook_Idle.f 1 false (Int.tmod a0_0 1099511627777) 0 (IntKind.u64.wrap (1 + (Int.tmod a0_1 4294967296))) 0 0 0 0 true).bind fun bt139 => (if bt135.1 = 3 then ((meter_Check.f 1 false (Int.tmod a0_0 1099511627777) 0 (IntKind.u64.wrap (1 + (Int.tmod a0_1 4294967296))) 0).bind fun t141 => (if t141 = 0 then (if (bt139.2 == (decide ((Int.tmod a0_0 1099511627777) > 0))) = true then (if bt139.2 = true then (some (decide (bt139.1 > 0))) else (some true)) else (none)) else (none))) else (none)))) = some r := by first | (rw [hy132]; with_reducible exact H) | (have H2_ := (Option.bind_some _ _).symm.trans H; rw [hy132]; with_reducible exact H2_) | (have H2_ := (Option.bind_some _ _).symm.trans H; with_reducible exact H2_) | with_reducible exact H | (rw [hy132]; exact H) | exact H
                                  have Ny132 := zq3 hy132
                                  clear hy132
                                  replace H := Option.bind_eq_some_iff.mp H
                                  obtain ⟨⟨t135, t136, t137⟩, A930, H⟩ := H
                                  replace H : ((outlook_Idle.f 1 false (Int.tmod a0_0 1099511627777) 0 (IntKind.u64.wrap (1 + (Int.tmod a0_1 4294967296))) 0 0 0 0 true).bind fun bt139 => (if t135 = 3 then ((meter_Check.f 1 false (Int.tmod a0_0 1099511627777) 0 (IntKind.u64.wrap (1 + (Int.tmod a0_1 4294967296))) 0).bind fun t141 => (if t141 = 0 then (if (bt139.2 == (decide ((Int.tmod a0_0 1099511627777) > 0))) = true then (if bt139.2 = true then (some (decide (bt139.1 > 0))) else (some true)) else (none)) else (none))) else (none))) = some r := H
                                  have A93 := zq3 A930
                                  clear A930
                                  replace H := Option.bind_eq_some_iff.mp H
                                  obtain ⟨⟨t139, t140⟩, A940, H⟩ := H
                                  replace H : (if t135 = 3 then ((meter_Check.f 1 false (Int.tmod a0_0 1099511627777) 0 (IntKind.u64.wrap (1 + (Int.tmod a0_1 4294967296))) 0).bind fun t141 => (if t141 = 0 then (if (t140 == (decide ((Int.tmod a0_0 1099511627777) > 0))) = true then (if t140 = true then (some (decide (t139 > 0))) else (some true)) else (none)) else (none))) else (none)) = some r := H
                                  have A94 := zq3 A940
                                  clear A940
                                  by_cases c95 : t135 = 3
                                  · rw [if_pos c95] at H
                                    have c95b0 : (t135 == 3) = true := beq_iff_eq.mpr c95
                                    have c95b1 : (t135 != 3) = false := bne_eq_false_iff_eq.mpr c95
                                    clear c95
                                    replace H := Option.bind_eq_some_iff.mp H
                                    obtain ⟨t141, A960, H⟩ := H
                                    replace H : (if t141 = 0 then (if (t140 == (decide ((Int.tmod a0_0 1099511627777) > 0))) = true then (if t140 = true then (some (decide (t139 > 0))) else (some true)) else (none)) else (none)) = some r := H
                                    have A96 := zq3 A960
                                    clear A960
                                    by_cases c97 : t141 = 0
                                    · rw [if_pos c97] at H
                                      have c97b0 : (t141 == 0) = true := beq_iff_eq.mpr c97
                                      have c97b1 : (t141 != 0) = false := bne_eq_false_iff_eq.mpr c97
                                      clear c97
                                      by_cases c98 : (t140 == (decide ((Int.tmod a0_0 1099511627777) > 0))) = true
                                      · rw [if_pos c98] at H
                                        have c98b0 : (t140 == (decide ((Int.tmod a0_0 1099511627777) > 0))) = true := c98
                                        (try (have c98b1 : decide (t140 = (decide ((Int.tmod a0_0 1099511627777) > 0))) = true := by simpa using c98))
                                        (try (have c98b2 : (t140 == (decide ((Int.tmod a0_0 1099511627777) > 0))) = true := by simpa using c98))
                                        clear c98
                                        by_cases c99 : t140 = true
                                        · subst c99
                                          have H1 : (some (decide (t139 > 0))) = some r := by rw [if_pos rfl] at H; exact H
                                          clear H
                                          have H := H1
                                          clear H1
                                          obtain rfl := Option.some.inj H
                                          go_wp2_with (first | ((with_reducible refine gate_dst (N := 150) rfl ?_); (try (refine gate_guard (by rfl) ?_; dsimp only)); refine Kd.R_lit k68 _ 68 ?hg (N := 150) ?hd (xs := ([(⟨0, 3⟩ : S68)] : List (S68))) (inner := [.int .u64 0, .int .i64 3]) (ok := fun _ => True) (okp := fun _ => True) ?hr ?hp (fun _ hk => hk) trivial (Below.refl _ _) (Nat.le_refl _) (by simp) ?_; (case hd => rfl); (case hg => rfl); (case hr => first | (go_simp; done) | (go_simp; rfl)); (case hp => exact (Reps.c2 (show Kd.M k68 _ _ _ (⟨0, 3⟩ : S68) [.int .u64 0, .int .i64 3] from (k68_mkM _ _ _ (⟨0, 3⟩ : S68) )) (Reps.none _ _))); intro v133 w100 ho101 hb hg_ hnew_; clear hg_ hnew_; (first | rw [← Ny132.out] at ho101 | (simp only [Int.reduceToNat] at ho101; rw [← Ny132.out] at ho101)); have n0_ := zq3 (Kd.R_lower ho101 (below_size (by repeat (first | (with_reducible first | exact HB.out | apply zq9 | apply zq7 | apply zq8 | refine zq6 ?_ GE101.out | refine zq6 ?_ GE102.out | refine zq6 ?_ GE112.out | refine zq6 ?_ GE122.out | refine zq6 ?_ GE131.out) | exact HB.out)))); have n1_ := zq3 (zq10 (g := gb101) (o := .cells #[.int .u64 a0_0, .int .u64 a0_1] 39 (0, 0)) (by (with_reducible repeat (first | refine zq0 ?_ _ | refine zq2 ?_ | refine zq1 ?_ _)); exact BK101.out) hb); have n2_ := zq3 (zq10 (g := gb102) (o := .cells #[.int .i64 1, .bool false, .int .u64 (Int.tmod a0_0 1099511627777), .int .u64 0, .int .u64 (IntKind.u64.wrap (1 + (Int.tmod a0_1 4294967296))), .int .u64 0] 49 (0, 0)) (by (with_reducible repeat (first | refine zq0 ?_ _ | refine zq2 ?_ | refine zq1 ?_ _)); exact BK102.out) hb); have n3_ := zq3 (zq10 (g := gb112) (o := .cells #[.int .i64 t110, .int .i64 t111] 26 (0, 0)) (by (with_reducible repeat (first | refine zq0 ?_ _ | refine zq2 ?_ | refine zq1 ?_ _)); exact BK112.out) hb); have n4_ := zq3 (zq10 (g := gb122) (o := .cells #[.int .i64 t120, .int .i64 t121] 26 (0, 0)) (by (with_reducible repeat (first | refine zq0 ?_ _ | refine zq2 ?_ | refine zq1 ?_ _)); exact BK122.out) hb); have n5_ := zq3 (zq10 (g := gb131) (o := .cells #[.int .i64 t129, .int .i64 t130] 26 (0, 0)) (by (with_reducible repeat (first | refine zq0 ?_ _ | refine zq2 ?_ | refine zq1 ?_ _)); exact BK131.out) hb); have n6_ := zq3 (below_step (by repeat (first | (with_reducible first | exact HB.out | apply zq9 | apply zq7 | apply zq8 | refine zq6 ?_ GE101.out | refine zq6 ?_ GE102.out | refine zq6 ?_ GE112.out | refine zq6 ?_ GE122.out | refine zq6 ?_ GE131.out) | exact HB.out)) hb); clear BK101; clear BK102; clear BK112; clear BK122; clear BK131; clear HB; have HO134 := n0_; have BK101 := n1_; have BK102 := n2_; have BK112 := n3_; have BK122 := n4_; have BK131 := n5_; have HB := n6_; clear n0_ n1_ n2_ n3_ n4_ n5_ n6_; clear hb ho101; obtain ⟨Ao102, co102, eo102⟩ := Kd.R_slice HO134.out; subst eo102) | ((with_reducible refine gate_callee (f := 16) rfl ?_); refine goesL_ (some 151) rfl rfl Try.func16 (by kernel_rfl) rfl #[.slice Ao102 y132.length co102, .int .u64 0] rfl (by (try simp only [List.map_toArray, List.map_cons, List.map_nil]); first | done | rfl | (simp only [List.length_drop, List.length_take]; rfl)) ?_; (with_reducible refine (curve_Least.calls _ _ y132 0 t135 t136 t137 _ ?side1 ?side2 A93.out).mono ?_); (case side1 => repeat (first | exact (Kd.R_reads' HO134.out).2.2 | (with_reducible refine Kd.C_alloc ?_ _) | (with_reducible refine Kd.C_drewN ?_ _) | (with_reducible refine Kd.C_drew ?_))); (case side2 => exact (Kd.R_reads' HO134.out).2.1); rintro e w103 ⟨rfl, hb⟩; refine ⟨_, rfl, ?_⟩; have n0_ := zq3 (Kd.R_below (by (with_reducible repeat (first | apply Kd.R_alloc | apply Kd.R_drewN | apply Kd.R_drew)); exact HO134.out) hb); have n1_ := zq3 (zq10 (g := gb101) (o := .cells #[.int .u64 a0_0, .int .u64 a0_1] 39 (0, 0)) (by (with_reducible repeat (first | refine zq0 ?_ _ | refine zq2 ?_ | refine zq1 ?_ _)); exact BK101.out) hb); have n2_ := zq3 (zq10 (g := gb102) (o := .cells #[.int .i64 1, .bool false, .int .u64 (Int.tmod a0_0 1099511627777), .int .u64 0, .int .u64 (IntKind.u64.wrap (1 + (Int.tmod a0_1 4294967296))), .int .u64 0] 49 (0, 0)) (by (with_reducible repeat (first | refine zq0 ?_ _ | refine zq2 ?_ | refine zq1 ?_ _)); exact BK102.out) hb); have n3_ := zq3 (zq10 (g := gb112) (o := .cells #[.int .i64 t110, .int .i64 t111] 26 (0, 0)) (by (with_reducible repeat (first | refine zq0 ?_ _ | refine zq2 ?_ | refine zq1 ?_ _)); exact BK112.out) hb); have n4_ := zq3 (zq10 (g := gb122) (o := .cells #[.int .i64 t120, .int .i64 t121] 26 (0, 0)) (by (with_reducible repeat (first | refine zq0 ?_ _ | refine zq2 ?_ | refine zq1 ?_ _)); exact BK122.out) hb); have n5_ := zq3 (zq10 (g := gb131) (o := .cells #[.int .i64 t129, .int .i64 t130] 26 (0, 0)) (by (with_reducible repeat (first | refine zq0 ?_ _ | refine zq2 ?_ | refine zq1 ?_ _)); exact BK131.out) hb); have n6_ := zq3 (below_step (by repeat (first | (with_reducible first | exact HB.out | apply zq9 | apply zq7 | apply zq8 | refine zq6 ?_ GE101.out | refine zq6 ?_ GE102.out | refine zq6 ?_ GE112.out | refine zq6 ?_ GE122.out | refine zq6 ?_ GE131.out) | exact HB.out)) hb); clear HO134; clear BK101; clear BK102; clear BK112; clear BK122; clear BK131; clear HB; have HO134 := n0_; have BK101 := n1_; have BK102 := n2_; have BK112 := n3_; have BK122 := n4_; have BK131 := n5_; have HB := n6_; clear n0_ n1_ n2_ n3_ n4_ n5_ n6_; (try clear hb); (try clear hb2); (try clear hk); (try clear hi)) | ((with_reducible refine gate_dst (N := 20) rfl ?_); (try (refine gate_guard (by rfl) ?_; dsimp only)); refine box_event ?hg (N := 20) ?hd (cs := #[.int .i64 0, .int .i64 0]) (t := 26) ?hr ?_; (case hd => rfl); (case hg => rfl); (case hr => first | (go_simp; done) | (go_simp; rfl)); intro gb138 hg w104 hbox hb; have n0_ := zq3 (Kd.R_below (by (with_reducible repeat (first | apply Kd.R_alloc | apply Kd.R_drewN | apply Kd.R_drew)); exact HO134.out) hb); have n1_ := zq3 (zq10 (g := gb101) (o := .cells #[.int .u64 a0_0, .int .u64 a0_1] 39 (0, 0)) (by (with_reducible repeat (first | refine zq0 ?_ _ | refine zq2 ?_ | refine zq1 ?_ _)); exact BK101.out) hb); have n2_ := zq3 (zq10 (g := gb102) (o := .cells #[.int .i64 1, .bool false, .int .u64 (Int.tmod a0_0 1099511627777), .int .u64 0, .int .u64 (IntKind.u64.wrap (1 + (Int.tmod a0_1 4294967296))), .int .u64 0] 49 (0, 0)) (by (with_reducible repeat (first | refine zq0 ?_ _ | refine zq2 ?_ | refine zq1 ?_ _)); exact BK102.out) hb); have n3_ := zq3 (zq10 (g := gb112) (o := .cells #[.int .i64 t110, .int .i64 t111] 26 (0, 0)) (by (with_reducible repeat (first | refine zq0 ?_ _ | refine zq2 ?_ | refine zq1 ?_ _)); exact BK112.out) hb); have n4_ := zq3 (zq10 (g := gb122) (o := .cells #[.int .i64 t120, .int .i64 t121] 26 (0, 0)) (by (with_reducible repeat (first | refine zq0 ?_ _ | refine zq2 ?_ | refine zq1 ?_ _)); exact BK122.out) hb); have n5_ := zq3 (zq10 (g := gb131) (o := .cells #[.int .i64 t129, .int .i64 t130] 26 (0, 0)) (by (with_reducible repeat (first | refine zq0 ?_ _ | refine zq2 ?_ | refine zq1 ?_ _)); exact BK131.out) hb); have n6_ := zq3 (below_step (by repeat (first | (with_reducible first | exact HB.out | apply zq9 | apply zq7 | apply zq8 | refine zq6 ?_ GE101.out | refine zq6 ?_ GE102.out | refine zq6 ?_ GE112.out | refine zq6 ?_ GE122.out | refine zq6 ?_ GE131.out) | exact HB.out)) hb); have n7_ := zq3 (hbox); have n8_ := zq3 ((by rw [hg]; exact (below_size (by repeat (first | (with_reducible first | exact HB.out | apply zq9 | apply zq7 | apply zq8 | refine zq6 ?_ GE101.out | refine zq6 ?_ GE102.out | refine zq6 ?_ GE112.out | refine zq6 ?_ GE122.out | refine zq6 ?_ GE131.out) | exact HB.out))) : w.heap.size ≤ gb138)); have n9_ := zq3 ((by rw [hg]; exact (below_size (by repeat (first | (with_reducible first | exact HB.out | apply zq9 | apply zq7 | apply zq8 | refine zq6 ?_ GE101.out | refine zq6 ?_ GE102.out | refine zq6 ?_ GE112.out | refine zq6 ?_ GE122.out | refine zq6 ?_ GE131.out) | exact HB.out))) : w.heap.size ≤ gb138)); have n10_ := zq3 ((by rw [hg]; exact Nat.ne_of_lt (blk_lt (g := gb101) (o := .cells #[.int .u64 a0_0, .int .u64 a0_1] 39 (0, 0)) (by (with_reducible repeat (first | refine zq0 ?_ _ | refine zq2 ?_ | refine zq1 ?_ _)); exact BK101.out)) : gb101 ≠ gb138)); have n11_ := zq3 ((by rw [hg]; exact Nat.ne_of_gt (blk_lt (g := gb101) (o := .cells #[.int .u64 a0_0, .int .u64 a0_1] 39 (0, 0)) (by (with_reducible repeat (first | refine zq0 ?_ _ | refine zq2 ?_ | refine zq1 ?_ _)); exact BK101.out)) : gb138 ≠ gb101)); have n12_ := zq3 ((by rw [hg]; exact Nat.ne_of_lt (blk_lt (g := gb102) (o := .cells #[.int .i64 1, .bool false, .int .u64 (Int.tmod a0_0 1099511627777), .int .u64 0, .int .u64 (IntKind.u64.wrap (1 + (Int.tmod a0_1 4294967296))), .int .u64 0] 49 (0, 0)) (by (with_reducible repeat (first | refine zq0 ?_ _ | refine zq2 ?_ | refine zq1 ?_ _)); exact BK102.out)) : gb102 ≠ gb138)); have n13_ := zq3 ((by rw [hg]; exact Nat.ne_of_gt (blk_lt (g := gb102) (o := .cells #[.int .i64 1, .bool false, .int .u64 (Int.tmod a0_0 1099511627777), .int .u64 0, .int .u64 (IntKind.u64.wrap (1 + (Int.tmod a0_1 4294967296))), .int .u64 0] 49 (0, 0)) (by (with_reducible repeat (first | refine zq0 ?_ _ | refine zq2 ?_ | refine zq1 ?_ _)); exact BK102.out)) : gb138 ≠ gb102)); have n14_ := zq3 ((by rw [hg]; exact Nat.ne_of_lt (blk_lt (g := gb112) (o := .cells #[.int .i64 t110, .int .i64 t111] 26 (0, 0)) (by (with_reducible repeat (first | refine zq0 ?_ _ | refine zq2 ?_ | refine zq1 ?_ _)); exact BK112.out)) : gb112 ≠ gb138)); have n15_ := zq3 ((by rw [hg]; exact Nat.ne_of_gt (blk_lt (g := gb112) (o := .cells #[.int .i64 t110, .int .i64 t111] 26 (0, 0)) (by (with_reducible repeat (first | refine zq0 ?_ _ | refine zq2 ?_ | refine zq1 ?_ _)); exact BK112.out)) : gb138 ≠ gb112)); have n16_ := zq3 ((by rw [hg]; exact Nat.ne_of_lt (blk_lt (g := gb122) (o := .cells #[.int .i64 t120, .int .i64 t121] 26 (0, 0)) (by (with_reducible repeat (first | refine zq0 ?_ _ | refine zq2 ?_ | refine zq1 ?_ _)); exact BK122.out)) : gb122 ≠ gb138)); have n17_ := zq3 ((by rw [hg]; exact Nat.ne_of_gt (blk_lt (g := gb122) (o := .cells #[.int .i64 t120, .int .i64 t121] 26 (0, 0)) (by (with_reducible repeat (first | refine zq0 ?_ _ | refine zq2 ?_ | refine zq1 ?_ _)); exact BK122.out)) : gb138 ≠ gb122)); have n18_ := zq3 ((by rw [hg]; exact Nat.ne_of_lt (blk_lt (g := gb131) (o := .cells #[.int .i64 t129, .int .i64 t130] 26 (0, 0)) (by (with_reducible repeat (first | refine zq0 ?_ _ | refine zq2 ?_ | refine zq1 ?_ _)); exact BK131.out)) : gb131 ≠ gb138)); have n19_ := zq3 ((by rw [hg]; exact Nat.ne_of_gt (blk_lt (g := gb131) (o := .cells #[.int .i64 t129, .int .i64 t130] 26 (0, 0)) (by (with_reducible repeat (first | refine zq0 ?_ _ | refine zq2 ?_ | refine zq1 ?_ _)); exact BK131.out)) : gb138 ≠ gb131)); clear HO134; clear BK101; clear BK102; clear BK112; clear BK122; clear BK131; clear HB; have HO134 := n0_; have BK101 := n1_; have BK102 := n2_; have BK112 := n3_; have BK122 := n4_; have BK131 := n5_; have HB := n6_; have BK138 := n7_; have GW138 := n8_; have GE138 := n9_; have NB101_138 := n10_; have NB138_101 := n11_; have NB102_138 := n12_; have NB138_102 := n13_; have NB112_138 := n14_; have NB138_112 := n15_; have NB122_138 := n16_; have NB138_122 := n17_; have NB131_138 := n18_; have NB138_131 := n19_; clear n0_ n1_ n2_ n3_ n4_ n5_ n6_ n7_ n8_ n9_ n10_ n11_ n12_ n13_ n14_ n15_ n16_ n17_ n18_ n19_; clear hb hbox hg; have hnb105 := NB138_101.out; have hnc105 := NB101_138.out; have hnb106 := NB138_102.out; have hnc106 := NB102_138.out; have hnb107 := NB138_112.out; have hnc107 := NB112_138.out; have hnb108 := NB138_122.out; have hnc108 := NB122_138.out; have hnb109 := NB138_131.out; have hnc109 := NB131_138.out; have hcz110_0 : w104.cell? ⟨gb138, 0, none⟩ = some (.int .i64 0) := (zq5 BK138.out 0).trans rfl; have hcz110_1 : w104.cell? ⟨gb138, 1, none⟩ = some (.int .i64 0) := (zq5 BK138.out 1).trans rfl; have hfz110_0 := zq4 BK138.out 0; have hfz110_1 := zq4 BK138.out 1; have hnb111 := NB102_101.out; have hnc111 := NB101_102.out; have hnb112 := NB102_112.out; have hnc112 := NB112_102.out; have hnb113 := NB102_122.out; have hnc113 := NB122_102.out; have hnb114 := NB102_131.out; have hnc114 := NB131_102.out; have hcz115_0 : w104.cell? ⟨gb102, 0, none⟩ = some (.int .i64 1) := (zq5 BK102.out 0).trans rfl; have hcz115_1 : w104.cell? ⟨gb102, 1, none⟩ = some (.bool false) := (zq5 BK102.out 1).trans rfl; have hcz115_2 : w104.cell? ⟨gb102, 2, none⟩ = some (.int .u64 (Int.tmod a0_0 1099511627777)) := (zq5 BK102.out 2).trans rfl; have hcz115_3 : w104.cell? ⟨gb102, 3, none⟩ = some (.int .u64 0) := (zq5 BK102.out 3).trans rfl; have hcz115_4 : w104.cell? ⟨gb102, 4, none⟩ = some (.int .u64 (IntKind.u64.wrap (1 + (Int.tmod a0_1 4294967296)))) := (zq5 BK102.out 4).trans rfl; have hcz115_5 : w104.cell? ⟨gb102, 5, none⟩ = some (.int .u64 0) := (zq5 BK102.out 5).trans rfl; have hfz115_0 := zq4 BK102.out 0; have hfz115_1 := zq4 BK102.out 1; have hfz115_2 := zq4 BK102.out 2; have hfz115_3 := zq4 BK102.out 3; have hfz115_4 := zq4 BK102.out 4; have hfz115_5 := zq4 BK102.out 5) | ((with_reducible refine gate_callee (f := 28) rfl ?_); refine goesL_ (some 157) rfl rfl Try.func28 (by kernel_rfl) rfl #[.agg #[.int .i64 1, .bool false, .int .u64 (Int.tmod a0_0 1099511627777), .int .u64 0, .int .u64 (IntKind.u64.wrap (1 + (Int.tmod a0_1 4294967296))), .int .u64 0], .agg #[.int .u64 0, .int .u64 0, .int .u64 0, .bool true]] rfl (by (try simp only [List.map_toArray, List.map_cons, List.map_nil]); first | done | rfl | (simp only [List.length_drop, List.length_take]; rfl)) ?_; (with_reducible refine (outlook_Idle.calls 1 false (Int.tmod a0_0 1099511627777) 0 (IntKind.u64.wrap (1 + (Int.tmod a0_1 4294967296))) 0 0 0 0 true t139 true _ A94.out).mono ?_); rintro e w116 ⟨rfl, hb⟩; refine ⟨_, rfl, ?_⟩; have n0_ := zq3 (Kd.R_below (by (with_reducible repeat (first | apply Kd.R_alloc | apply Kd.R_drewN | apply Kd.R_drew)); exact (Kd.R_mono (Kd.R_far (p := ⟨gb138, 1, none⟩) (Kd.R_far (p := ⟨gb138, 0, none⟩) (Kd.R_types HO134.out BK138.out (by decide)) (fun _ hk => hk.2) (.int .i64 t136)) (fun _ hk => hk.2) (.int .i64 t137)) (fun _ h_ => h_.1))) hb); have n1_ := zq3 (zq10 (g := gb101) (o := .cells #[.int .u64 a0_0, .int .u64 a0_1] 39 (0, 0)) (by (with_reducible repeat (first | refine zq0 ?_ _ | refine zq2 ?_ | refine zq1 ?_ _)); refine zq11 ?_ NB101_138.out _; (with_reducible repeat (first | refine zq0 ?_ _ | refine zq2 ?_ | refine zq1 ?_ _)); refine zq11 ?_ NB101_138.out _; (with_reducible repeat (first | refine zq0 ?_ _ | refine zq2 ?_ | refine zq1 ?_ _)); exact BK101.out) hb); have n2_ := zq3 (zq10 (g := gb102) (o := .cells #[.int .i64 1, .bool false, .int .u64 (Int.tmod a0_0 1099511627777), .int .u64 0, .int .u64 (IntKind.u64.wrap (1 + (Int.tmod a0_1 4294967296))), .int .u64 0] 49 (0, 0)) (by (with_reducible repeat (first | refine zq0 ?_ _ | refine zq2 ?_ | refine zq1 ?_ _)); refine zq11 ?_ NB102_138.out _; (with_reducible repeat (first | refine zq0 ?_ _ | refine zq2 ?_ | refine zq1 ?_ _)); refine zq11 ?_ NB102_138.out _; (with_reducible repeat (first | refine zq0 ?_ _ | refine zq2 ?_ | refine zq1 ?_ _)); exact BK102.out) hb); have n3_ := zq3 (zq10 (g := gb112) (o := .cells #[.int .i64 t110, .int .i64 t111] 26 (0, 0)) (by (with_reducible repeat (first | refine zq0 ?_ _ | refine zq2 ?_ | refine zq1 ?_ _)); refine zq11 ?_ NB112_138.out _; (with_reducible repeat (first | refine zq0 ?_ _ | refine zq2 ?_ | refine zq1 ?_ _)); refine zq11 ?_ NB112_138.out _; (with_reducible repeat (first | refine zq0 ?_ _ | refine zq2 ?_ | refine zq1 ?_ _)); exact BK112.out) hb); have n4_ := zq3 (zq10 (g := gb122) (o := .cells #[.int .i64 t120, .int .i64 t121] 26 (0, 0)) (by (with_reducible repeat (first | refine zq0 ?_ _ | refine zq2 ?_ | refine zq1 ?_ _)); refine zq11 ?_ NB122_138.out _; (with_reducible repeat (first | refine zq0 ?_ _ | refine zq2 ?_ | refine zq1 ?_ _)); refine zq11 ?_ NB122_138.out _; (with_reducible repeat (first | refine zq0 ?_ _ | refine zq2 ?_ | refine zq1 ?_ _)); exact BK122.out) hb); have n5_ := zq3 (zq10 (g := gb131) (o := .cells #[.int .i64 t129, .int .i64 t130] 26 (0, 0)) (by (with_reducible repeat (first | refine zq0 ?_ _ | refine zq2 ?_ | refine zq1 ?_ _)); refine zq11 ?_ NB131_138.out _; (with_reducible repeat (first | refine zq0 ?_ _ | refine zq2 ?_ | refine zq1 ?_ _)); refine zq11 ?_ NB131_138.out _; (with_reducible repeat (first | refine zq0 ?_ _ | refine zq2 ?_ | refine zq1 ?_ _)); exact BK131.out) hb); have n6_ := zq3 (zq10 (g := gb138) (o := .cells #[.int .i64 t136, .int .i64 t137] 26 (0, 0)) (by (with_reducible repeat (first | refine zq0 ?_ _ | refine zq2 ?_ | refine zq1 ?_ _)); refine blk_put (cs := #[.int .i64 t136, .int .i64 0]) ?_ 1 _ rfl; (with_reducible repeat (first | refine zq0 ?_ _ | refine zq2 ?_ | refine zq1 ?_ _)); refine blk_put (cs := #[.int .i64 0, .int .i64 0]) ?_ 0 _ rfl; (with_reducible repeat (first | refine zq0 ?_ _ | refine zq2 ?_ | refine zq1 ?_ _)); exact BK138.out) hb); have n7_ := zq3 (below_step (by repeat (first | (with_reducible first | exact HB.out | apply zq9 | apply zq7 | apply zq8 | refine zq6 ?_ GE101.out | refine zq6 ?_ GE102.out | refine zq6 ?_ GE112.out | refine zq6 ?_ GE122.out | refine zq6 ?_ GE131.out | refine zq6 ?_ GE138.out) | exact HB.out)) hb); clear HO134; clear BK101; clear BK102; clear BK112; clear BK122; clear BK131; clear BK138; clear HB; have HO134 := n0_; have BK101 := n1_; have BK102 := n2_; have BK112 := n3_; have BK122 := n4_; have BK131 := n5_; have BK138 := n6_; have HB := n7_; clear n0_ n1_ n2_ n3_ n4_ n5_ n6_ n7_; (try clear hb); (try clear hb2); (try clear hk); (try clear hi); have hcz117_0 : w116.cell? ⟨gb102, 0, none⟩ = some (.int .i64 1) := (zq5 BK102.out 0).trans rfl; have hcz117_1 : w116.cell? ⟨gb102, 1, none⟩ = some (.bool false) := (zq5 BK102.out 1).trans rfl; have hcz117_2 : w116.cell? ⟨gb102, 2, none⟩ = some (.int .u64 (Int.tmod a0_0 1099511627777)) := (zq5 BK102.out 2).trans rfl; have hcz117_3 : w116.cell? ⟨gb102, 3, none⟩ = some (.int .u64 0) := (zq5 BK102.out 3).trans rfl; have hcz117_4 : w116.cell? ⟨gb102, 4, none⟩ = some (.int .u64 (IntKind.u64.wrap (1 + (Int.tmod a0_1 4294967296)))) := (zq5 BK102.out 4).trans rfl; have hcz117_5 : w116.cell? ⟨gb102, 5, none⟩ = some (.int .u64 0) := (zq5 BK102.out 5).trans rfl; have hfz117_0 := zq4 BK102.out 0; have hfz117_1 := zq4 BK102.out 1; have hfz117_2 := zq4 BK102.out 2; have hfz117_3 := zq4 BK102.out 3; have hfz117_4 := zq4 BK102.out 4; have hfz117_5 := zq4 BK102.out 5) | (go_at_call 34; (with_reducible refine (meter_Check.calls 1 false (Int.tmod a0_0 1099511627777) 0 (IntKind.u64.wrap (1 + (Int.tmod a0_1 4294967296))) 0 t141 _ A96.out).mono ?_); rintro e w118 ⟨rfl, hb⟩; have n0_ := zq3 (Kd.R_below (by (with_reducible repeat (first | apply Kd.R_alloc | apply Kd.R_drewN | apply Kd.R_drew)); exact HO134.out) hb); have n1_ := zq3 (zq10 (g := gb101) (o := .cells #[.int .u64 a0_0, .int .u64 a0_1] 39 (0, 0)) (by (with_reducible repeat (first | refine zq0 ?_ _ | refine zq2 ?_ | refine zq1 ?_ _)); exact BK101.out) hb); have n2_ := zq3 (zq10 (g := gb102) (o := .cells #[.int .i64 1, .bool false, .int .u64 (Int.tmod a0_0 1099511627777), .int .u64 0, .int .u64 (IntKind.u64.wrap (1 + (Int.tmod a0_1 4294967296))), .int .u64 0] 49 (0, 0)) (by (with_reducible repeat (first | refine zq0 ?_ _ | refine zq2 ?_ | refine zq1 ?_ _)); exact BK102.out) hb); have n3_ := zq3 (zq10 (g := gb112) (o := .cells #[.int .i64 t110, .int .i64 t111] 26 (0, 0)) (by (with_reducible repeat (first | refine zq0 ?_ _ | refine zq2 ?_ | refine zq1 ?_ _)); exact BK112.out) hb); have n4_ := zq3 (zq10 (g := gb122) (o := .cells #[.int .i64 t120, .int .i64 t121] 26 (0, 0)) (by (with_reducible repeat (first | refine zq0 ?_ _ | refine zq2 ?_ | refine zq1 ?_ _)); exact BK122.out) hb); have n5_ := zq3 (zq10 (g := gb131) (o := .cells #[.int .i64 t129, .int .i64 t130] 26 (0, 0)) (by (with_reducible repeat (first | refine zq0 ?_ _ | refine zq2 ?_ | refine zq1 ?_ _)); exact BK131.out) hb); have n6_ := zq3 (zq10 (g := gb138) (o := .cells #[.int .i64 t136, .int .i64 t137] 26 (0, 0)) (by (with_reducible repeat (first | refine zq0 ?_ _ | refine zq2 ?_ | refine zq1 ?_ _)); exact BK138.out) hb); have n7_ := zq3 (below_step (by repeat (first | (with_reducible first | exact HB.out | apply zq9 | apply zq7 | apply zq8 | refine zq6 ?_ GE101.out | refine zq6 ?_ GE102.out | refine zq6 ?_ GE112.out | refine zq6 ?_ GE122.out | refine zq6 ?_ GE131.out | refine zq6 ?_ GE138.out) | exact HB.out)) hb); clear HO134; clear BK101; clear BK102; clear BK112; clear BK122; clear BK131; clear BK138; clear HB; have HO134 := n0_; have BK101 := n1_; have BK102 := n2_; have BK112 := n3_; have BK122 := n4_; have BK131 := n5_; have BK138 := n6_; have HB := n7_; clear n0_ n1_ n2_ n3_ n4_ n5_ n6_ n7_; (try clear hb); (try clear hb2); (try clear hk); (try clear hi); have hcz119_0 : w118.cell? ⟨gb102, 0, none⟩ = some (.int .i64 1) := (zq5 BK102.out 0).trans rfl; have hcz119_1 : w118.cell? ⟨gb102, 1, none⟩ = some (.bool false) := (zq5 BK102.out 1).trans rfl; have hcz119_2 : w118.cell? ⟨gb102, 2, none⟩ = some (.int .u64 (Int.tmod a0_0 1099511627777)) := (zq5 BK102.out 2).trans rfl; have hcz119_3 : w118.cell? ⟨gb102, 3, none⟩ = some (.int .u64 0) := (zq5 BK102.out 3).trans rfl; have hcz119_4 : w118.cell? ⟨gb102, 4, none⟩ = some (.int .u64 (IntKind.u64.wrap (1 + (Int.tmod a0_1 4294967296)))) := (zq5 BK102.out 4).trans rfl; have hcz119_5 : w118.cell? ⟨gb102, 5, none⟩ = some (.int .u64 0) := (zq5 BK102.out 5).trans rfl; have hfz119_0 := zq4 BK102.out 0; have hfz119_1 := zq4 BK102.out 1; have hfz119_2 := zq4 BK102.out 2; have hfz119_3 := zq4 BK102.out 3; have hfz119_4 := zq4 BK102.out 4; have hfz119_5 := zq4 BK102.out 5))
                                          go_ret
                                          exact ⟨by first | rfl | (simp [errW_none, errW_some] <;> rfl) | (simp only [← hji67]; first | rfl | (simp [errW_none, errW_some] <;> rfl)) | (simp [*, errW_none, errW_some] <;> rfl), by repeat (first | (with_reducible first | exact HB.out | apply zq9 | apply zq7 | apply zq8 | refine zq6 ?_ GE101.out | refine zq6 ?_ GE102.out | refine zq6 ?_ GE112.out | refine zq6 ?_ GE122.out | refine zq6 ?_ GE131.out | refine zq6 ?_ GE138.out) | exact HB.out)⟩
                                        · replace c99 := Bool.eq_false_iff.mpr c99
                                          subst c99
                                          have H1 : (some true) = some r := by rw [if_neg (show ¬ (false = true) by decide)] at H; exact H
                                          clear H
                                          have H := H1
                                          clear H1
                                          obtain rfl := Option.some.inj H
                                          go_wp2_with (first | ((with_reducible refine gate_dst (N := 150) rfl ?_); (try (refine gate_guard (by rfl) ?_; dsimp only)); refine Kd.R_lit k68 _ 68 ?hg (N := 150) ?hd (xs := ([(⟨0, 3⟩ : S68)] : List (S68))) (inner := [.int .u64 0, .int .i64 3]) (ok := fun _ => True) (okp := fun _ => True) ?hr ?hp (fun _ hk => hk) trivial (Below.refl _ _) (Nat.le_refl _) (by simp) ?_; (case hd => rfl); (case hg => rfl); (case hr => first | (go_simp; done) | (go_simp; rfl)); (case hp => exact (Reps.c2 (show Kd.M k68 _ _ _ (⟨0, 3⟩ : S68) [.int .u64 0, .int .i64 3] from (k68_mkM _ _ _ (⟨0, 3⟩ : S68) )) (Reps.none _ _))); intro v133 w120 ho121 hb hg_ hnew_; clear hg_ hnew_; (first | rw [← Ny132.out] at ho121 | (simp only [Int.reduceToNat] at ho121; rw [← Ny132.out] at ho121)); have n0_ := zq3 (Kd.R_lower ho121 (below_size (by repeat (first | (with_reducible first | exact HB.out | apply zq9 | apply zq7 | apply zq8 | refine zq6 ?_ GE101.out | refine zq6 ?_ GE102.out | refine zq6 ?_ GE112.out | refine zq6 ?_ GE122.out | refine zq6 ?_ GE131.out) | exact HB.out)))); have n1_ := zq3 (zq10 (g := gb101) (o := .cells #[.int .u64 a0_0, .int .u64 a0_1] 39 (0, 0)) (by (with_reducible repeat (first | refine zq0 ?_ _ | refine zq2 ?_ | refine zq1 ?_ _)); exact BK101.out) hb); have n2_ := zq3 (zq10 (g := gb102) (o := .cells #[.int .i64 1, .bool false, .int .u64 (Int.tmod a0_0 1099511627777), .int .u64 0, .int .u64 (IntKind.u64.wrap (1 + (Int.tmod a0_1 4294967296))), .int .u64 0] 49 (0, 0)) (by (with_reducible repeat (first | refine zq0 ?_ _ | refine zq2 ?_ | refine zq1 ?_ _)); exact BK102.out) hb); have n3_ := zq3 (zq10 (g := gb112) (o := .cells #[.int .i64 t110, .int .i64 t111] 26 (0, 0)) (by (with_reducible repeat (first | refine zq0 ?_ _ | refine zq2 ?_ | refine zq1 ?_ _)); exact BK112.out) hb); have n4_ := zq3 (zq10 (g := gb122) (o := .cells #[.int .i64 t120, .int .i64 t121] 26 (0, 0)) (by (with_reducible repeat (first | refine zq0 ?_ _ | refine zq2 ?_ | refine zq1 ?_ _)); exact BK122.out) hb); have n5_ := zq3 (zq10 (g := gb131) (o := .cells #[.int .i64 t129, .int .i64 t130] 26 (0, 0)) (by (with_reducible repeat (first | refine zq0 ?_ _ | refine zq2 ?_ | refine zq1 ?_ _)); exact BK131.out) hb); have n6_ := zq3 (below_step (by repeat (first | (with_reducible first | exact HB.out | apply zq9 | apply zq7 | apply zq8 | refine zq6 ?_ GE101.out | refine zq6 ?_ GE102.out | refine zq6 ?_ GE112.out | refine zq6 ?_ GE122.out | refine zq6 ?_ GE131.out) | exact HB.out)) hb); clear BK101; clear BK102; clear BK112; clear BK122; clear BK131; clear HB; have HO134 := n0_; have BK101 := n1_; have BK102 := n2_; have BK112 := n3_; have BK122 := n4_; have BK131 := n5_; have HB := n6_; clear n0_ n1_ n2_ n3_ n4_ n5_ n6_; clear hb ho121; obtain ⟨Ao122, co122, eo122⟩ := Kd.R_slice HO134.out; subst eo122) | ((with_reducible refine gate_callee (f := 16) rfl ?_); refine goesL_ (some 151) rfl rfl Try.func16 (by kernel_rfl) rfl #[.slice Ao122 y132.length co122, .int .u64 0] rfl (by (try simp only [List.map_toArray, List.map_cons, List.map_nil]); first | done | rfl | (simp only [List.length_drop, List.length_take]; rfl)) ?_; (with_reducible refine (curve_Least.calls _ _ y132 0 t135 t136 t137 _ ?side1 ?side2 A93.out).mono ?_); (case side1 => repeat (first | exact (Kd.R_reads' HO134.out).2.2 | (with_reducible refine Kd.C_alloc ?_ _) | (with_reducible refine Kd.C_drewN ?_ _) | (with_reducible refine Kd.C_drew ?_))); (case side2 => exact (Kd.R_reads' HO134.out).2.1); rintro e w123 ⟨rfl, hb⟩; refine ⟨_, rfl, ?_⟩; have n0_ := zq3 (Kd.R_below (by (with_reducible repeat (first | apply Kd.R_alloc | apply Kd.R_drewN | apply Kd.R_drew)); exact HO134.out) hb); have n1_ := zq3 (zq10 (g := gb101) (o := .cells #[.int .u64 a0_0, .int .u64 a0_1] 39 (0, 0)) (by (with_reducible repeat (first | refine zq0 ?_ _ | refine zq2 ?_ | refine zq1 ?_ _)); exact BK101.out) hb); have n2_ := zq3 (zq10 (g := gb102) (o := .cells #[.int .i64 1, .bool false, .int .u64 (Int.tmod a0_0 1099511627777), .int .u64 0, .int .u64 (IntKind.u64.wrap (1 + (Int.tmod a0_1 4294967296))), .int .u64 0] 49 (0, 0)) (by (with_reducible repeat (first | refine zq0 ?_ _ | refine zq2 ?_ | refine zq1 ?_ _)); exact BK102.out) hb); have n3_ := zq3 (zq10 (g := gb112) (o := .cells #[.int .i64 t110, .int .i64 t111] 26 (0, 0)) (by (with_reducible repeat (first | refine zq0 ?_ _ | refine zq2 ?_ | refine zq1 ?_ _)); exact BK112.out) hb); have n4_ := zq3 (zq10 (g := gb122) (o := .cells #[.int .i64 t120, .int .i64 t121] 26 (0, 0)) (by (with_reducible repeat (first | refine zq0 ?_ _ | refine zq2 ?_ | refine zq1 ?_ _)); exact BK122.out) hb); have n5_ := zq3 (zq10 (g := gb131) (o := .cells #[.int .i64 t129, .int .i64 t130] 26 (0, 0)) (by (with_reducible repeat (first | refine zq0 ?_ _ | refine zq2 ?_ | refine zq1 ?_ _)); exact BK131.out) hb); have n6_ := zq3 (below_step (by repeat (first | (with_reducible first | exact HB.out | apply zq9 | apply zq7 | apply zq8 | refine zq6 ?_ GE101.out | refine zq6 ?_ GE102.out | refine zq6 ?_ GE112.out | refine zq6 ?_ GE122.out | refine zq6 ?_ GE131.out) | exact HB.out)) hb); clear HO134; clear BK101; clear BK102; clear BK112; clear BK122; clear BK131; clear HB; have HO134 := n0_; have BK101 := n1_; have BK102 := n2_; have BK112 := n3_; have BK122 := n4_; have BK131 := n5_; have HB := n6_; clear n0_ n1_ n2_ n3_ n4_ n5_ n6_; (try clear hb); (try clear hb2); (try clear hk); (try clear hi)) | ((with_reducible refine gate_dst (N := 20) rfl ?_); (try (refine gate_guard (by rfl) ?_; dsimp only)); refine box_event ?hg (N := 20) ?hd (cs := #[.int .i64 0, .int .i64 0]) (t := 26) ?hr ?_; (case hd => rfl); (case hg => rfl); (case hr => first | (go_simp; done) | (go_simp; rfl)); intro gb138 hg w124 hbox hb; have n0_ := zq3 (Kd.R_below (by (with_reducible repeat (first | apply Kd.R_alloc | apply Kd.R_drewN | apply Kd.R_drew)); exact HO134.out) hb); have n1_ := zq3 (zq10 (g := gb101) (o := .cells #[.int .u64 a0_0, .int .u64 a0_1] 39 (0, 0)) (by (with_reducible repeat (first | refine zq0 ?_ _ | refine zq2 ?_ | refine zq1 ?_ _)); exact BK101.out) hb); have n2_ := zq3 (zq10 (g := gb102) (o := .cells #[.int .i64 1, .bool false, .int .u64 (Int.tmod a0_0 1099511627777), .int .u64 0, .int .u64 (IntKind.u64.wrap (1 + (Int.tmod a0_1 4294967296))), .int .u64 0] 49 (0, 0)) (by (with_reducible repeat (first | refine zq0 ?_ _ | refine zq2 ?_ | refine zq1 ?_ _)); exact BK102.out) hb); have n3_ := zq3 (zq10 (g := gb112) (o := .cells #[.int .i64 t110, .int .i64 t111] 26 (0, 0)) (by (with_reducible repeat (first | refine zq0 ?_ _ | refine zq2 ?_ | refine zq1 ?_ _)); exact BK112.out) hb); have n4_ := zq3 (zq10 (g := gb122) (o := .cells #[.int .i64 t120, .int .i64 t121] 26 (0, 0)) (by (with_reducible repeat (first | refine zq0 ?_ _ | refine zq2 ?_ | refine zq1 ?_ _)); exact BK122.out) hb); have n5_ := zq3 (zq10 (g := gb131) (o := .cells #[.int .i64 t129, .int .i64 t130] 26 (0, 0)) (by (with_reducible repeat (first | refine zq0 ?_ _ | refine zq2 ?_ | refine zq1 ?_ _)); exact BK131.out) hb); have n6_ := zq3 (below_step (by repeat (first | (with_reducible first | exact HB.out | apply zq9 | apply zq7 | apply zq8 | refine zq6 ?_ GE101.out | refine zq6 ?_ GE102.out | refine zq6 ?_ GE112.out | refine zq6 ?_ GE122.out | refine zq6 ?_ GE131.out) | exact HB.out)) hb); have n7_ := zq3 (hbox); have n8_ := zq3 ((by rw [hg]; exact (below_size (by repeat (first | (with_reducible first | exact HB.out | apply zq9 | apply zq7 | apply zq8 | refine zq6 ?_ GE101.out | refine zq6 ?_ GE102.out | refine zq6 ?_ GE112.out | refine zq6 ?_ GE122.out | refine zq6 ?_ GE131.out) | exact HB.out))) : w.heap.size ≤ gb138)); have n9_ := zq3 ((by rw [hg]; exact (below_size (by repeat (first | (with_reducible first | exact HB.out | apply zq9 | apply zq7 | apply zq8 | refine zq6 ?_ GE101.out | refine zq6 ?_ GE102.out | refine zq6 ?_ GE112.out | refine zq6 ?_ GE122.out | refine zq6 ?_ GE131.out) | exact HB.out))) : w.heap.size ≤ gb138)); have n10_ := zq3 ((by rw [hg]; exact Nat.ne_of_lt (blk_lt (g := gb101) (o := .cells #[.int .u64 a0_0, .int .u64 a0_1] 39 (0, 0)) (by (with_reducible repeat (first | refine zq0 ?_ _ | refine zq2 ?_ | refine zq1 ?_ _)); exact BK101.out)) : gb101 ≠ gb138)); have n11_ := zq3 ((by rw [hg]; exact Nat.ne_of_gt (blk_lt (g := gb101) (o := .cells #[.int .u64 a0_0, .int .u64 a0_1] 39 (0, 0)) (by (with_reducible repeat (first | refine zq0 ?_ _ | refine zq2 ?_ | refine zq1 ?_ _)); exact BK101.out)) : gb138 ≠ gb101)); have n12_ := zq3 ((by rw [hg]; exact Nat.ne_of_lt (blk_lt (g := gb102) (o := .cells #[.int .i64 1, .bool false, .int .u64 (Int.tmod a0_0 1099511627777), .int .u64 0, .int .u64 (IntKind.u64.wrap (1 + (Int.tmod a0_1 4294967296))), .int .u64 0] 49 (0, 0)) (by (with_reducible repeat (first | refine zq0 ?_ _ | refine zq2 ?_ | refine zq1 ?_ _)); exact BK102.out)) : gb102 ≠ gb138)); have n13_ := zq3 ((by rw [hg]; exact Nat.ne_of_gt (blk_lt (g := gb102) (o := .cells #[.int .i64 1, .bool false, .int .u64 (Int.tmod a0_0 1099511627777), .int .u64 0, .int .u64 (IntKind.u64.wrap (1 + (Int.tmod a0_1 4294967296))), .int .u64 0] 49 (0, 0)) (by (with_reducible repeat (first | refine zq0 ?_ _ | refine zq2 ?_ | refine zq1 ?_ _)); exact BK102.out)) : gb138 ≠ gb102)); have n14_ := zq3 ((by rw [hg]; exact Nat.ne_of_lt (blk_lt (g := gb112) (o := .cells #[.int .i64 t110, .int .i64 t111] 26 (0, 0)) (by (with_reducible repeat (first | refine zq0 ?_ _ | refine zq2 ?_ | refine zq1 ?_ _)); exact BK112.out)) : gb112 ≠ gb138)); have n15_ := zq3 ((by rw [hg]; exact Nat.ne_of_gt (blk_lt (g := gb112) (o := .cells #[.int .i64 t110, .int .i64 t111] 26 (0, 0)) (by (with_reducible repeat (first | refine zq0 ?_ _ | refine zq2 ?_ | refine zq1 ?_ _)); exact BK112.out)) : gb138 ≠ gb112)); have n16_ := zq3 ((by rw [hg]; exact Nat.ne_of_lt (blk_lt (g := gb122) (o := .cells #[.int .i64 t120, .int .i64 t121] 26 (0, 0)) (by (with_reducible repeat (first | refine zq0 ?_ _ | refine zq2 ?_ | refine zq1 ?_ _)); exact BK122.out)) : gb122 ≠ gb138)); have n17_ := zq3 ((by rw [hg]; exact Nat.ne_of_gt (blk_lt (g := gb122) (o := .cells #[.int .i64 t120, .int .i64 t121] 26 (0, 0)) (by (with_reducible repeat (first | refine zq0 ?_ _ | refine zq2 ?_ | refine zq1 ?_ _)); exact BK122.out)) : gb138 ≠ gb122)); have n18_ := zq3 ((by rw [hg]; exact Nat.ne_of_lt (blk_lt (g := gb131) (o := .cells #[.int .i64 t129, .int .i64 t130] 26 (0, 0)) (by (with_reducible repeat (first | refine zq0 ?_ _ | refine zq2 ?_ | refine zq1 ?_ _)); exact BK131.out)) : gb131 ≠ gb138)); have n19_ := zq3 ((by rw [hg]; exact Nat.ne_of_gt (blk_lt (g := gb131) (o := .cells #[.int .i64 t129, .int .i64 t130] 26 (0, 0)) (by (with_reducible repeat (first | refine zq0 ?_ _ | refine zq2 ?_ | refine zq1 ?_ _)); exact BK131.out)) : gb138 ≠ gb131)); clear HO134; clear BK101; clear BK102; clear BK112; clear BK122; clear BK131; clear HB; have HO134 := n0_; have BK101 := n1_; have BK102 := n2_; have BK112 := n3_; have BK122 := n4_; have BK131 := n5_; have HB := n6_; have BK138 := n7_; have GW138 := n8_; have GE138 := n9_; have NB101_138 := n10_; have NB138_101 := n11_; have NB102_138 := n12_; have NB138_102 := n13_; have NB112_138 := n14_; have NB138_112 := n15_; have NB122_138 := n16_; have NB138_122 := n17_; have NB131_138 := n18_; have NB138_131 := n19_; clear n0_ n1_ n2_ n3_ n4_ n5_ n6_ n7_ n8_ n9_ n10_ n11_ n12_ n13_ n14_ n15_ n16_ n17_ n18_ n19_; clear hb hbox hg; have hnb125 := NB138_101.out; have hnc125 := NB101_138.out; have hnb126 := NB138_102.out; have hnc126 := NB102_138.out; have hnb127 := NB138_112.out; have hnc127 := NB112_138.out; have hnb128 := NB138_122.out; have hnc128 := NB122_138.out; have hnb129 := NB138_131.out; have hnc129 := NB131_138.out; have hcz130_0 : w124.cell? ⟨gb138, 0, none⟩ = some (.int .i64 0) := (zq5 BK138.out 0).trans rfl; have hcz130_1 : w124.cell? ⟨gb138, 1, none⟩ = some (.int .i64 0) := (zq5 BK138.out 1).trans rfl; have hfz130_0 := zq4 BK138.out 0; have hfz130_1 := zq4 BK138.out 1; have hnb131 := NB102_101.out; have hnc131 := NB101_102.out; have hnb132 := NB102_112.out; have hnc132 := NB112_102.out; have hnb133 := NB102_122.out; have hnc133 := NB122_102.out; have hnb134 := NB102_131.out; have hnc134 := NB131_102.out; have hcz135_0 : w124.cell? ⟨gb102, 0, none⟩ = some (.int .i64 1) := (zq5 BK102.out 0).trans rfl; have hcz135_1 : w124.cell? ⟨gb102, 1, none⟩ = some (.bool false) := (zq5 BK102.out 1).trans rfl; have hcz135_2 : w124.cell? ⟨gb102, 2, none⟩ = some (.int .u64 (Int.tmod a0_0 1099511627777)) := (zq5 BK102.out 2).trans rfl; have hcz135_3 : w124.cell? ⟨gb102, 3, none⟩ = some (.int .u64 0) := (zq5 BK102.out 3).trans rfl; have hcz135_4 : w124.cell? ⟨gb102, 4, none⟩ = some (.int .u64 (IntKind.u64.wrap (1 + (Int.tmod a0_1 4294967296)))) := (zq5 BK102.out 4).trans rfl; have hcz135_5 : w124.cell? ⟨gb102, 5, none⟩ = some (.int .u64 0) := (zq5 BK102.out 5).trans rfl; have hfz135_0 := zq4 BK102.out 0; have hfz135_1 := zq4 BK102.out 1; have hfz135_2 := zq4 BK102.out 2; have hfz135_3 := zq4 BK102.out 3; have hfz135_4 := zq4 BK102.out 4; have hfz135_5 := zq4 BK102.out 5) | ((with_reducible refine gate_callee (f := 28) rfl ?_); refine goesL_ (some 157) rfl rfl Try.func28 (by kernel_rfl) rfl #[.agg #[.int .i64 1, .bool false, .int .u64 (Int.tmod a0_0 1099511627777), .int .u64 0, .int .u64 (IntKind.u64.wrap (1 + (Int.tmod a0_1 4294967296))), .int .u64 0], .agg #[.int .u64 0, .int .u64 0, .int .u64 0, .bool true]] rfl (by (try simp only [List.map_toArray, List.map_cons, List.map_nil]); first | done | rfl | (simp only [List.length_drop, List.length_take]; rfl)) ?_; (with_reducible refine (outlook_Idle.calls 1 false (Int.tmod a0_0 1099511627777) 0 (IntKind.u64.wrap (1 + (Int.tmod a0_1 4294967296))) 0 0 0 0 true t139 false _ A94.out).mono ?_); rintro e w136 ⟨rfl, hb⟩; refine ⟨_, rfl, ?_⟩; have n0_ := zq3 (Kd.R_below (by (with_reducible repeat (first | apply Kd.R_alloc | apply Kd.R_drewN | apply Kd.R_drew)); exact (Kd.R_mono (Kd.R_far (p := ⟨gb138, 1, none⟩) (Kd.R_far (p := ⟨gb138, 0, none⟩) (Kd.R_types HO134.out BK138.out (by decide)) (fun _ hk => hk.2) (.int .i64 t136)) (fun _ hk => hk.2) (.int .i64 t137)) (fun _ h_ => h_.1))) hb); have n1_ := zq3 (zq10 (g := gb101) (o := .cells #[.int .u64 a0_0, .int .u64 a0_1] 39 (0, 0)) (by (with_reducible repeat (first | refine zq0 ?_ _ | refine zq2 ?_ | refine zq1 ?_ _)); refine zq11 ?_ NB101_138.out _; (with_reducible repeat (first | refine zq0 ?_ _ | refine zq2 ?_ | refine zq1 ?_ _)); refine zq11 ?_ NB101_138.out _; (with_reducible repeat (first | refine zq0 ?_ _ | refine zq2 ?_ | refine zq1 ?_ _)); exact BK101.out) hb); have n2_ := zq3 (zq10 (g := gb102) (o := .cells #[.int .i64 1, .bool false, .int .u64 (Int.tmod a0_0 1099511627777), .int .u64 0, .int .u64 (IntKind.u64.wrap (1 + (Int.tmod a0_1 4294967296))), .int .u64 0] 49 (0, 0)) (by (with_reducible repeat (first | refine zq0 ?_ _ | refine zq2 ?_ | refine zq1 ?_ _)); refine zq11 ?_ NB102_138.out _; (with_reducible repeat (first | refine zq0 ?_ _ | refine zq2 ?_ | refine zq1 ?_ _)); refine zq11 ?_ NB102_138.out _; (with_reducible repeat (first | refine zq0 ?_ _ | refine zq2 ?_ | refine zq1 ?_ _)); exact BK102.out) hb); have n3_ := zq3 (zq10 (g := gb112) (o := .cells #[.int .i64 t110, .int .i64 t111] 26 (0, 0)) (by (with_reducible repeat (first | refine zq0 ?_ _ | refine zq2 ?_ | refine zq1 ?_ _)); refine zq11 ?_ NB112_138.out _; (with_reducible repeat (first | refine zq0 ?_ _ | refine zq2 ?_ | refine zq1 ?_ _)); refine zq11 ?_ NB112_138.out _; (with_reducible repeat (first | refine zq0 ?_ _ | refine zq2 ?_ | refine zq1 ?_ _)); exact BK112.out) hb); have n4_ := zq3 (zq10 (g := gb122) (o := .cells #[.int .i64 t120, .int .i64 t121] 26 (0, 0)) (by (with_reducible repeat (first | refine zq0 ?_ _ | refine zq2 ?_ | refine zq1 ?_ _)); refine zq11 ?_ NB122_138.out _; (with_reducible repeat (first | refine zq0 ?_ _ | refine zq2 ?_ | refine zq1 ?_ _)); refine zq11 ?_ NB122_138.out _; (with_reducible repeat (first | refine zq0 ?_ _ | refine zq2 ?_ | refine zq1 ?_ _)); exact BK122.out) hb); have n5_ := zq3 (zq10 (g := gb131) (o := .cells #[.int .i64 t129, .int .i64 t130] 26 (0, 0)) (by (with_reducible repeat (first | refine zq0 ?_ _ | refine zq2 ?_ | refine zq1 ?_ _)); refine zq11 ?_ NB131_138.out _; (with_reducible repeat (first | refine zq0 ?_ _ | refine zq2 ?_ | refine zq1 ?_ _)); refine zq11 ?_ NB131_138.out _; (with_reducible repeat (first | refine zq0 ?_ _ | refine zq2 ?_ | refine zq1 ?_ _)); exact BK131.out) hb); have n6_ := zq3 (zq10 (g := gb138) (o := .cells #[.int .i64 t136, .int .i64 t137] 26 (0, 0)) (by (with_reducible repeat (first | refine zq0 ?_ _ | refine zq2 ?_ | refine zq1 ?_ _)); refine blk_put (cs := #[.int .i64 t136, .int .i64 0]) ?_ 1 _ rfl; (with_reducible repeat (first | refine zq0 ?_ _ | refine zq2 ?_ | refine zq1 ?_ _)); refine blk_put (cs := #[.int .i64 0, .int .i64 0]) ?_ 0 _ rfl; (with_reducible repeat (first | refine zq0 ?_ _ | refine zq2 ?_ | refine zq1 ?_ _)); exact BK138.out) hb); have n7_ := zq3 (below_step (by repeat (first | (with_reducible first | exact HB.out | apply zq9 | apply zq7 | apply zq8 | refine zq6 ?_ GE101.out | refine zq6 ?_ GE102.out | refine zq6 ?_ GE112.out | refine zq6 ?_ GE122.out | refine zq6 ?_ GE131.out | refine zq6 ?_ GE138.out) | exact HB.out)) hb); clear HO134; clear BK101; clear BK102; clear BK112; clear BK122; clear BK131; clear BK138; clear HB; have HO134 := n0_; have BK101 := n1_; have BK102 := n2_; have BK112 := n3_; have BK122 := n4_; have BK131 := n5_; have BK138 := n6_; have HB := n7_; clear n0_ n1_ n2_ n3_ n4_ n5_ n6_ n7_; (try clear hb); (try clear hb2); (try clear hk); (try clear hi); have hcz137_0 : w136.cell? ⟨gb102, 0, none⟩ = some (.int .i64 1) := (zq5 BK102.out 0).trans rfl; have hcz137_1 : w136.cell? ⟨gb102, 1, none⟩ = some (.bool false) := (zq5 BK102.out 1).trans rfl; have hcz137_2 : w136.cell? ⟨gb102, 2, none⟩ = some (.int .u64 (Int.tmod a0_0 1099511627777)) := (zq5 BK102.out 2).trans rfl; have hcz137_3 : w136.cell? ⟨gb102, 3, none⟩ = some (.int .u64 0) := (zq5 BK102.out 3).trans rfl; have hcz137_4 : w136.cell? ⟨gb102, 4, none⟩ = some (.int .u64 (IntKind.u64.wrap (1 + (Int.tmod a0_1 4294967296)))) := (zq5 BK102.out 4).trans rfl; have hcz137_5 : w136.cell? ⟨gb102, 5, none⟩ = some (.int .u64 0) := (zq5 BK102.out 5).trans rfl; have hfz137_0 := zq4 BK102.out 0; have hfz137_1 := zq4 BK102.out 1; have hfz137_2 := zq4 BK102.out 2; have hfz137_3 := zq4 BK102.out 3; have hfz137_4 := zq4 BK102.out 4; have hfz137_5 := zq4 BK102.out 5) | (go_at_call 34; (with_reducible refine (meter_Check.calls 1 false (Int.tmod a0_0 1099511627777) 0 (IntKind.u64.wrap (1 + (Int.tmod a0_1 4294967296))) 0 t141 _ A96.out).mono ?_); rintro e w138 ⟨rfl, hb⟩; have n0_ := zq3 (Kd.R_below (by (with_reducible repeat (first | apply Kd.R_alloc | apply Kd.R_drewN | apply Kd.R_drew)); exact HO134.out) hb); have n1_ := zq3 (zq10 (g := gb101) (o := .cells #[.int .u64 a0_0, .int .u64 a0_1] 39 (0, 0)) (by (with_reducible repeat (first | refine zq0 ?_ _ | refine zq2 ?_ | refine zq1 ?_ _)); exact BK101.out) hb); have n2_ := zq3 (zq10 (g := gb102) (o := .cells #[.int .i64 1, .bool false, .int .u64 (Int.tmod a0_0 1099511627777), .int .u64 0, .int .u64 (IntKind.u64.wrap (1 + (Int.tmod a0_1 4294967296))), .int .u64 0] 49 (0, 0)) (by (with_reducible repeat (first | refine zq0 ?_ _ | refine zq2 ?_ | refine zq1 ?_ _)); exact BK102.out) hb); have n3_ := zq3 (zq10 (g := gb112) (o := .cells #[.int .i64 t110, .int .i64 t111] 26 (0, 0)) (by (with_reducible repeat (first | refine zq0 ?_ _ | refine zq2 ?_ | refine zq1 ?_ _)); exact BK112.out) hb); have n4_ := zq3 (zq10 (g := gb122) (o := .cells #[.int .i64 t120, .int .i64 t121] 26 (0, 0)) (by (with_reducible repeat (first | refine zq0 ?_ _ | refine zq2 ?_ | refine zq1 ?_ _)); exact BK122.out) hb); have n5_ := zq3 (zq10 (g := gb131) (o := .cells #[.int .i64 t129, .int .i64 t130] 26 (0, 0)) (by (with_reducible repeat (first | refine zq0 ?_ _ | refine zq2 ?_ | refine zq1 ?_ _)); exact BK131.out) hb); have n6_ := zq3 (zq10 (g := gb138) (o := .cells #[.int .i64 t136, .int .i64 t137] 26 (0, 0)) (by (with_reducible repeat (first | refine zq0 ?_ _ | refine zq2 ?_ | refine zq1 ?_ _)); exact BK138.out) hb); have n7_ := zq3 (below_step (by repeat (first | (with_reducible first | exact HB.out | apply zq9 | apply zq7 | apply zq8 | refine zq6 ?_ GE101.out | refine zq6 ?_ GE102.out | refine zq6 ?_ GE112.out | refine zq6 ?_ GE122.out | refine zq6 ?_ GE131.out | refine zq6 ?_ GE138.out) | exact HB.out)) hb); clear HO134; clear BK101; clear BK102; clear BK112; clear BK122; clear BK131; clear BK138; clear HB; have HO134 := n0_; have BK101 := n1_; have BK102 := n2_; have BK112 := n3_; have BK122 := n4_; have BK131 := n5_; have BK138 := n6_; have HB := n7_; clear n0_ n1_ n2_ n3_ n4_ n5_ n6_ n7_; (try clear hb); (try clear hb2); (try clear hk); (try clear hi); have hcz139_0 : w138.cell? ⟨gb102, 0, none⟩ = some (.int .i64 1) := (zq5 BK102.out 0).trans rfl; have hcz139_1 : w138.cell? ⟨gb102, 1, none⟩ = some (.bool false) := (zq5 BK102.out 1).trans rfl; have hcz139_2 : w138.cell? ⟨gb102, 2, none⟩ = some (.int .u64 (Int.tmod a0_0 1099511627777)) := (zq5 BK102.out 2).trans rfl; have hcz139_3 : w138.cell? ⟨gb102, 3, none⟩ = some (.int .u64 0) := (zq5 BK102.out 3).trans rfl; have hcz139_4 : w138.cell? ⟨gb102, 4, none⟩ = some (.int .u64 (IntKind.u64.wrap (1 + (Int.tmod a0_1 4294967296)))) := (zq5 BK102.out 4).trans rfl; have hcz139_5 : w138.cell? ⟨gb102, 5, none⟩ = some (.int .u64 0) := (zq5 BK102.out 5).trans rfl; have hfz139_0 := zq4 BK102.out 0; have hfz139_1 := zq4 BK102.out 1; have hfz139_2 := zq4 BK102.out 2; have hfz139_3 := zq4 BK102.out 3; have hfz139_4 := zq4 BK102.out 4; have hfz139_5 := zq4 BK102.out 5))
                                          go_ret
                                          exact ⟨by first | rfl | (simp [errW_none, errW_some] <;> rfl) | (simp only [← hji67]; first | rfl | (simp [errW_none, errW_some] <;> rfl)) | (simp [*, errW_none, errW_some] <;> rfl), by repeat (first | (with_reducible first | exact HB.out | apply zq9 | apply zq7 | apply zq8 | refine zq6 ?_ GE101.out | refine zq6 ?_ GE102.out | refine zq6 ?_ GE112.out | refine zq6 ?_ GE122.out | refine zq6 ?_ GE131.out | refine zq6 ?_ GE138.out) | exact HB.out)⟩
                                      · rw [if_neg c98] at H
                                        exact absurd H (by simp)
                                    · rw [if_neg c97] at H
                                      exact absurd H (by simp)
                                  · rw [if_neg c95] at H
                                    exact absurd H (by simp)
                          · rw [if_neg c69] at H
                            exact absurd H (by simp)
                        · rw [if_neg c68] at H
                          exact absurd H (by simp)
                      · replace c66 := Bool.eq_false_iff.mpr c66
                        subst c66
                        have H1 : ((curve_Least.f (([(⟨0, 3⟩ : S68)] : List (S68))) 0).bind fun bt145 => ((outlook_Idle.f 1 false (Int.tmod a0_0 1099511627777) 0 (IntKind.u64.wrap (1 + (Int.tmod a0_1 4294967296))) 0 0 0 0 true).bind fun bt149 => (if bt145.1 = 3 then ((meter_Check.f 1 false (Int.tmod a0_0 1099511627777) 0 (IntKind.u64.wrap (1 + (Int.tmod a0_1 4294967296))) 0).bind fun t151 => (if t151 = 0 then (if (bt149.2 == (decide ((Int.tmod a0_0 1099511627777) > 0))) = true then (if bt149.2 = true then (some (decide (bt149.1 > 0))) else (some true)) else (none)) else (none))) else (none)))) = some r := by rw [if_neg (show ¬ (false = true) by decide)] at H; exact H
                        clear H
                        have H := H1
                        clear H1
                        obtain ⟨y142, hy142⟩ : ∃ y_ : List (S68), y_ = (([(⟨0, 3⟩ : S68)] : List (S68))) := ⟨_, rfl⟩
                        replace H : ((curve_Least.f y142 0).bind fun bt145 => ((outlook_Idle.f 1 false (Int.tmod a0_0 1099511627777) 0 (IntKind.u64.wrap (1 + (Int.tmod a0_1 4294967296))) 0 0 0 0 true).bind fun bt149 => (if bt145.1 = 3 then ((meter_Check.f 1 false (Int.tmod a0_0 1099511627777) 0 (IntKind.u64.wrap (1 + (Int.tmod a0_1 4294967296))) 0).bind fun t151 => (if t151 = 0 then (if (bt149.2 == (decide ((Int.tmod a0_0 1099511627777) > 0))) = true then (if bt149.2 = true then (some (decide (bt149.1 > 0))) else (some true)) else (none)) else (none))) else (none)))) = some r := by first | (rw [hy142]; with_reducible exact H) | (have H2_ := (Option.bind_some _ _).symm.trans H; rw [hy142]; with_reducible exact H2_) | (have H2_ := (Option.bind_some _ _).symm.trans H; with_reducible exact H2_) | with_reducible exact H | (rw [hy142]; exact H) | exact H
                        have Ny142 := zq3 hy142
                        clear hy142
                        replace H := Option.bind_eq_some_iff.mp H
                        obtain ⟨⟨t145, t146, t147⟩, A1400, H⟩ := H
                        replace H : ((outlook_Idle.f 1 false (Int.tmod a0_0 1099511627777) 0 (IntKind.u64.wrap (1 + (Int.tmod a0_1 4294967296))) 0 0 0 0 true).bind fun bt149 => (if t145 = 3 then ((meter_Check.f 1 false (Int.tmod a0_0 1099511627777) 0 (IntKind.u64.wrap (1 + (Int.tmod a0_1 4294967296))) 0).bind fun t151 => (if t151 = 0 then (if (bt149.2 == (decide ((Int.tmod a0_0 1099511627777) > 0))) = true then (if bt149.2 = true then (some (decide (bt149.1 > 0))) else (some true)) else (none)) else (none))) else (none))) = some r := H
                        have A140 := zq3 A1400
                        clear A1400
                        replace H := Option.bind_eq_some_iff.mp H
                        obtain ⟨⟨t149, t150⟩, A1410, H⟩ := H
                        replace H : (if t145 = 3 then ((meter_Check.f 1 false (Int.tmod a0_0 1099511627777) 0 (IntKind.u64.wrap (1 + (Int.tmod a0_1 4294967296))) 0).bind fun t151 => (if t151 = 0 then (if (t150 == (decide ((Int.tmod a0_0 1099511627777) > 0))) = true then (if t150 = true then (some (decide (t149 > 0))) else (some true)) else (none)) else (none))) else (none)) = some r := H
                        have A141 := zq3 A1410
                        clear A1410
                        by_cases c142 : t145 = 3
                        · rw [if_pos c142] at H
                          have c142b0 : (t145 == 3) = true := beq_iff_eq.mpr c142
                          have c142b1 : (t145 != 3) = false := bne_eq_false_iff_eq.mpr c142
                          clear c142
                          replace H := Option.bind_eq_some_iff.mp H
                          obtain ⟨t151, A1430, H⟩ := H
                          replace H : (if t151 = 0 then (if (t150 == (decide ((Int.tmod a0_0 1099511627777) > 0))) = true then (if t150 = true then (some (decide (t149 > 0))) else (some true)) else (none)) else (none)) = some r := H
                          have A143 := zq3 A1430
                          clear A1430
                          by_cases c144 : t151 = 0
                          · rw [if_pos c144] at H
                            have c144b0 : (t151 == 0) = true := beq_iff_eq.mpr c144
                            have c144b1 : (t151 != 0) = false := bne_eq_false_iff_eq.mpr c144
                            clear c144
                            by_cases c145 : (t150 == (decide ((Int.tmod a0_0 1099511627777) > 0))) = true
                            · rw [if_pos c145] at H
                              have c145b0 : (t150 == (decide ((Int.tmod a0_0 1099511627777) > 0))) = true := c145
                              (try (have c145b1 : decide (t150 = (decide ((Int.tmod a0_0 1099511627777) > 0))) = true := by simpa using c145))
                              (try (have c145b2 : (t150 == (decide ((Int.tmod a0_0 1099511627777) > 0))) = true := by simpa using c145))
                              clear c145
                              by_cases c146 : t150 = true
                              · subst c146
                                have H1 : (some (decide (t149 > 0))) = some r := by rw [if_pos rfl] at H; exact H
                                clear H
                                have H := H1
                                clear H1
                                obtain rfl := Option.some.inj H
                                go_wp2_with (first | ((with_reducible refine gate_dst (N := 150) rfl ?_); (try (refine gate_guard (by rfl) ?_; dsimp only)); refine Kd.R_lit k68 _ 68 ?hg (N := 150) ?hd (xs := ([(⟨0, 3⟩ : S68)] : List (S68))) (inner := [.int .u64 0, .int .i64 3]) (ok := fun _ => True) (okp := fun _ => True) ?hr ?hp (fun _ hk => hk) trivial (Below.refl _ _) (Nat.le_refl _) (by simp) ?_; (case hd => rfl); (case hg => rfl); (case hr => first | (go_simp; done) | (go_simp; rfl)); (case hp => exact (Reps.c2 (show Kd.M k68 _ _ _ (⟨0, 3⟩ : S68) [.int .u64 0, .int .i64 3] from (k68_mkM _ _ _ (⟨0, 3⟩ : S68) )) (Reps.none _ _))); intro v143 w147 ho148 hb hg_ hnew_; clear hg_ hnew_; (first | rw [← Ny142.out] at ho148 | (simp only [Int.reduceToNat] at ho148; rw [← Ny142.out] at ho148)); have n0_ := zq3 (Kd.R_elder' (by (with_reducible repeat (first | apply Kd.R_alloc | apply Kd.R_drewN | apply Kd.R_drew)); exact HO_10.out) (Kd.R_base ho148) hb); have n1_ := zq3 (Kd.R_lower (Kd.R_new' ho148 (Kd.R_lt (by (with_reducible repeat (first | apply Kd.R_alloc | apply Kd.R_drewN | apply Kd.R_drew)); exact HO_10.out))) (below_size (by repeat (first | (with_reducible first | exact HB.out | apply zq9 | apply zq7 | apply zq8 | refine zq6 ?_ GE101.out | refine zq6 ?_ GE102.out | refine zq6 ?_ GE112.out | refine zq6 ?_ GE122.out) | exact HB.out)))); have n2_ := zq3 (zq10 (g := gb101) (o := .cells #[.int .u64 a0_0, .int .u64 a0_1] 39 (0, 0)) (by (with_reducible repeat (first | refine zq0 ?_ _ | refine zq2 ?_ | refine zq1 ?_ _)); exact BK101.out) hb); have n3_ := zq3 (zq10 (g := gb102) (o := .cells #[.int .i64 1, .bool false, .int .u64 (Int.tmod a0_0 1099511627777), .int .u64 0, .int .u64 (IntKind.u64.wrap (1 + (Int.tmod a0_1 4294967296))), .int .u64 0] 49 (0, 0)) (by (with_reducible repeat (first | refine zq0 ?_ _ | refine zq2 ?_ | refine zq1 ?_ _)); exact BK102.out) hb); have n4_ := zq3 (zq10 (g := gb112) (o := .cells #[.int .i64 t110, .int .i64 t111] 26 (0, 0)) (by (with_reducible repeat (first | refine zq0 ?_ _ | refine zq2 ?_ | refine zq1 ?_ _)); exact BK112.out) hb); have n5_ := zq3 (zq10 (g := gb122) (o := .cells #[.int .i64 t120, .int .i64 t121] 26 (0, 0)) (by (with_reducible repeat (first | refine zq0 ?_ _ | refine zq2 ?_ | refine zq1 ?_ _)); exact BK122.out) hb); have n6_ := zq3 (below_step (by repeat (first | (with_reducible first | exact HB.out | apply zq9 | apply zq7 | apply zq8 | refine zq6 ?_ GE101.out | refine zq6 ?_ GE102.out | refine zq6 ?_ GE112.out | refine zq6 ?_ GE122.out) | exact HB.out)) hb); clear HO_10; clear BK101; clear BK102; clear BK112; clear BK122; clear HB; have HO_10 := n0_; have HO144 := n1_; have BK101 := n2_; have BK102 := n3_; have BK112 := n4_; have BK122 := n5_; have HB := n6_; clear n0_ n1_ n2_ n3_ n4_ n5_ n6_; clear hb ho148; obtain ⟨Ao149, co149, eo149⟩ := Kd.R_slice HO144.out; subst eo149) | ((with_reducible refine gate_callee (f := 16) rfl ?_); refine goesL_ (some 151) rfl rfl Try.func16 (by kernel_rfl) rfl #[.slice Ao149 y142.length co149, .int .u64 0] rfl (by (try simp only [List.map_toArray, List.map_cons, List.map_nil]); first | done | rfl | (simp only [List.length_drop, List.length_take]; rfl)) ?_; (with_reducible refine (curve_Least.calls _ _ y142 0 t145 t146 t147 _ ?side1 ?side2 A140.out).mono ?_); (case side1 => repeat (first | exact (Kd.R_reads' HO144.out).2.2 | (with_reducible refine Kd.C_alloc ?_ _) | (with_reducible refine Kd.C_drewN ?_ _) | (with_reducible refine Kd.C_drew ?_))); (case side2 => exact (Kd.R_reads' HO144.out).2.1); rintro e w150 ⟨rfl, hb⟩; refine ⟨_, rfl, ?_⟩; have n0_ := zq3 (Kd.R_below (by (with_reducible repeat (first | apply Kd.R_alloc | apply Kd.R_drewN | apply Kd.R_drew)); exact HO_10.out) hb); have n1_ := zq3 (Kd.R_below (by (with_reducible repeat (first | apply Kd.R_alloc | apply Kd.R_drewN | apply Kd.R_drew)); exact HO144.out) hb); have n2_ := zq3 (zq10 (g := gb101) (o := .cells #[.int .u64 a0_0, .int .u64 a0_1] 39 (0, 0)) (by (with_reducible repeat (first | refine zq0 ?_ _ | refine zq2 ?_ | refine zq1 ?_ _)); exact BK101.out) hb); have n3_ := zq3 (zq10 (g := gb102) (o := .cells #[.int .i64 1, .bool false, .int .u64 (Int.tmod a0_0 1099511627777), .int .u64 0, .int .u64 (IntKind.u64.wrap (1 + (Int.tmod a0_1 4294967296))), .int .u64 0] 49 (0, 0)) (by (with_reducible repeat (first | refine zq0 ?_ _ | refine zq2 ?_ | refine zq1 ?_ _)); exact BK102.out) hb); have n4_ := zq3 (zq10 (g := gb112) (o := .cells #[.int .i64 t110, .int .i64 t111] 26 (0, 0)) (by (with_reducible repeat (first | refine zq0 ?_ _ | refine zq2 ?_ | refine zq1 ?_ _)); exact BK112.out) hb); have n5_ := zq3 (zq10 (g := gb122) (o := .cells #[.int .i64 t120, .int .i64 t121] 26 (0, 0)) (by (with_reducible repeat (first | refine zq0 ?_ _ | refine zq2 ?_ | refine zq1 ?_ _)); exact BK122.out) hb); have n6_ := zq3 (below_step (by repeat (first | (with_reducible first | exact HB.out | apply zq9 | apply zq7 | apply zq8 | refine zq6 ?_ GE101.out | refine zq6 ?_ GE102.out | refine zq6 ?_ GE112.out | refine zq6 ?_ GE122.out) | exact HB.out)) hb); clear HO_10; clear HO144; clear BK101; clear BK102; clear BK112; clear BK122; clear HB; have HO_10 := n0_; have HO144 := n1_; have BK101 := n2_; have BK102 := n3_; have BK112 := n4_; have BK122 := n5_; have HB := n6_; clear n0_ n1_ n2_ n3_ n4_ n5_ n6_; (try clear hb); (try clear hb2); (try clear hk); (try clear hi)) | ((with_reducible refine gate_dst (N := 20) rfl ?_); (try (refine gate_guard (by rfl) ?_; dsimp only)); refine box_event ?hg (N := 20) ?hd (cs := #[.int .i64 0, .int .i64 0]) (t := 26) ?hr ?_; (case hd => rfl); (case hg => rfl); (case hr => first | (go_simp; done) | (go_simp; rfl)); intro gb148 hg w151 hbox hb; have n0_ := zq3 (Kd.R_below (by (with_reducible repeat (first | apply Kd.R_alloc | apply Kd.R_drewN | apply Kd.R_drew)); exact HO_10.out) hb); have n1_ := zq3 (Kd.R_below (by (with_reducible repeat (first | apply Kd.R_alloc | apply Kd.R_drewN | apply Kd.R_drew)); exact HO144.out) hb); have n2_ := zq3 (zq10 (g := gb101) (o := .cells #[.int .u64 a0_0, .int .u64 a0_1] 39 (0, 0)) (by (with_reducible repeat (first | refine zq0 ?_ _ | refine zq2 ?_ | refine zq1 ?_ _)); exact BK101.out) hb); have n3_ := zq3 (zq10 (g := gb102) (o := .cells #[.int .i64 1, .bool false, .int .u64 (Int.tmod a0_0 1099511627777), .int .u64 0, .int .u64 (IntKind.u64.wrap (1 + (Int.tmod a0_1 4294967296))), .int .u64 0] 49 (0, 0)) (by (with_reducible repeat (first | refine zq0 ?_ _ | refine zq2 ?_ | refine zq1 ?_ _)); exact BK102.out) hb); have n4_ := zq3 (zq10 (g := gb112) (o := .cells #[.int .i64 t110, .int .i64 t111] 26 (0, 0)) (by (with_reducible repeat (first | refine zq0 ?_ _ | refine zq2 ?_ | refine zq1 ?_ _)); exact BK112.out) hb); have n5_ := zq3 (zq10 (g := gb122) (o := .cells #[.int .i64 t120, .int .i64 t121] 26 (0, 0)) (by (with_reducible repeat (first | refine zq0 ?_ _ | refine zq2 ?_ | refine zq1 ?_ _)); exact BK122.out) hb); have n6_ := zq3 (below_step (by repeat (first | (with_reducible first | exact HB.out | apply zq9 | apply zq7 | apply zq8 | refine zq6 ?_ GE101.out | refine zq6 ?_ GE102.out | refine zq6 ?_ GE112.out | refine zq6 ?_ GE122.out) | exact HB.out)) hb); have n7_ := zq3 (hbox); have n8_ := zq3 ((by rw [hg]; exact (below_size (by repeat (first | (with_reducible first | exact HB.out | apply zq9 | apply zq7 | apply zq8 | refine zq6 ?_ GE101.out | refine zq6 ?_ GE102.out | refine zq6 ?_ GE112.out | refine zq6 ?_ GE122.out) | exact HB.out))) : w.heap.size ≤ gb148)); have n9_ := zq3 ((by rw [hg]; exact (below_size (by repeat (first | (with_reducible first | exact HB.out | apply zq9 | apply zq7 | apply zq8 | refine zq6 ?_ GE101.out | refine zq6 ?_ GE102.out | refine zq6 ?_ GE112.out | refine zq6 ?_ GE122.out) | exact HB.out))) : w.heap.size ≤ gb148)); have n10_ := zq3 ((by rw [hg]; exact Nat.ne_of_lt (blk_lt (g := gb101) (o := .cells #[.int .u64 a0_0, .int .u64 a0_1] 39 (0, 0)) (by (with_reducible repeat (first | refine zq0 ?_ _ | refine zq2 ?_ | refine zq1 ?_ _)); exact BK101.out)) : gb101 ≠ gb148)); have n11_ := zq3 ((by rw [hg]; exact Nat.ne_of_gt (blk_lt (g := gb101) (o := .cells #[.int .u64 a0_0, .int .u64 a0_1] 39 (0, 0)) (by (with_reducible repeat (first | refine zq0 ?_ _ | refine zq2 ?_ | refine zq1 ?_ _)); exact BK101.out)) : gb148 ≠ gb101)); have n12_ := zq3 ((by rw [hg]; exact Nat.ne_of_lt (blk_lt (g := gb102) (o := .cells #[.int .i64 1, .bool false, .int .u64 (Int.tmod a0_0 1099511627777), .int .u64 0, .int .u64 (IntKind.u64.wrap (1 + (Int.tmod a0_1 4294967296))), .int .u64 0] 49 (0, 0)) (by (with_reducible repeat (first | refine zq0 ?_ _ | refine zq2 ?_ | refine zq1 ?_ _)); exact BK102.out)) : gb102 ≠ gb148)); have n13_ := zq3 ((by rw [hg]; exact Nat.ne_of_gt (blk_lt (g := gb102) (o := .cells #[.int .i64 1, .bool false, .int .u64 (Int.tmod a0_0 1099511627777), .int .u64 0, .int .u64 (IntKind.u64.wrap (1 + (Int.tmod a0_1 4294967296))), .int .u64 0] 49 (0, 0)) (by (with_reducible repeat (first | refine zq0 ?_ _ | refine zq2 ?_ | refine zq1 ?_ _)); exact BK102.out)) : gb148 ≠ gb102)); have n14_ := zq3 ((by rw [hg]; exact Nat.ne_of_lt (blk_lt (g := gb112) (o := .cells #[.int .i64 t110, .int .i64 t111] 26 (0, 0)) (by (with_reducible repeat (first | refine zq0 ?_ _ | refine zq2 ?_ | refine zq1 ?_ _)); exact BK112.out)) : gb112 ≠ gb148)); have n15_ := zq3 ((by rw [hg]; exact Nat.ne_of_gt (blk_lt (g := gb112) (o := .cells #[.int .i64 t110, .int .i64 t111] 26 (0, 0)) (by (with_reducible repeat (first | refine zq0 ?_ _ | refine zq2 ?_ | refine zq1 ?_ _)); exact BK112.out)) : gb148 ≠ gb112)); have n16_ := zq3 ((by rw [hg]; exact Nat.ne_of_lt (blk_lt (g := gb122) (o := .cells #[.int .i64 t120, .int .i64 t121] 26 (0, 0)) (by (with_reducible repeat (first | refine zq0 ?_ _ | refine zq2 ?_ | refine zq1 ?_ _)); exact BK122.out)) : gb122 ≠ gb148)); have n17_ := zq3 ((by rw [hg]; exact Nat.ne_of_gt (blk_lt (g := gb122) (o := .cells #[.int .i64 t120, .int .i64 t121] 26 (0, 0)) (by (with_reducible repeat (first | refine zq0 ?_ _ | refine zq2 ?_ | refine zq1 ?_ _)); exact BK122.out)) : gb148 ≠ gb122)); clear HO_10; clear HO144; clear BK101; clear BK102; clear BK112; clear BK122; clear HB; have HO_10 := n0_; have HO144 := n1_; have BK101 := n2_; have BK102 := n3_; have BK112 := n4_; have BK122 := n5_; have HB := n6_; have BK148 := n7_; have GW148 := n8_; have GE148 := n9_; have NB101_148 := n10_; have NB148_101 := n11_; have NB102_148 := n12_; have NB148_102 := n13_; have NB112_148 := n14_; have NB148_112 := n15_; have NB122_148 := n16_; have NB148_122 := n17_; clear n0_ n1_ n2_ n3_ n4_ n5_ n6_ n7_ n8_ n9_ n10_ n11_ n12_ n13_ n14_ n15_ n16_ n17_; clear hb hbox hg; have hnb152 := NB148_101.out; have hnc152 := NB101_148.out; have hnb153 := NB148_102.out; have hnc153 := NB102_148.out; have hnb154 := NB148_112.out; have hnc154 := NB112_148.out; have hnb155 := NB148_122.out; have hnc155 := NB122_148.out; have hcz156_0 : w151.cell? ⟨gb148, 0, none⟩ = some (.int .i64 0) := (zq5 BK148.out 0).trans rfl; have hcz156_1 : w151.cell? ⟨gb148, 1, none⟩ = some (.int .i64 0) := (zq5 BK148.out 1).trans rfl; have hfz156_0 := zq4 BK148.out 0; have hfz156_1 := zq4 BK148.out 1; have hnb157 := NB102_101.out; have hnc157 := NB101_102.out; have hnb158 := NB102_112.out; have hnc158 := NB112_102.out; have hnb159 := NB102_122.out; have hnc159 := NB122_102.out; have hcz160_0 : w151.cell? ⟨gb102, 0, none⟩ = some (.int .i64 1) := (zq5 BK102.out 0).trans rfl; have hcz160_1 : w151.cell? ⟨gb102, 1, none⟩ = some (.bool false) := (zq5 BK102.out 1).trans rfl; have hcz160_2 : w151.cell? ⟨gb102, 2, none⟩ = some (.int .u64 (Int.tmod a0_0 1099511627777)) := (zq5 BK102.out 2).trans rfl; have hcz160_3 : w151.cell? ⟨gb102, 3, none⟩ = some (.int .u64 0) := (zq5 BK102.out 3).trans rfl; have hcz160_4 : w151.cell? ⟨gb102, 4, none⟩ = some (.int .u64 (IntKind.u64.wrap (1 + (Int.tmod a0_1 4294967296)))) := (zq5 BK102.out 4).trans rfl; have hcz160_5 : w151.cell? ⟨gb102, 5, none⟩ = some (.int .u64 0) := (zq5 BK102.out 5).trans rfl; have hfz160_0 := zq4 BK102.out 0; have hfz160_1 := zq4 BK102.out 1; have hfz160_2 := zq4 BK102.out 2; have hfz160_3 := zq4 BK102.out 3; have hfz160_4 := zq4 BK102.out 4; have hfz160_5 := zq4 BK102.out 5) | ((with_reducible refine gate_callee (f := 28) rfl ?_); refine goesL_ (some 157) rfl rfl Try.func28 (by kernel_rfl) rfl #[.agg #[.int .i64 1, .bool false, .int .u64 (Int.tmod a0_0 1099511627777), .int .u64 0, .int .u64 (IntKind.u64.wrap (1 + (Int.tmod a0_1 4294967296))), .int .u64 0], .agg #[.int .u64 0, .int .u64 0, .int .u64 0, .bool true]] rfl (by (try simp only [List.map_toArray, List.map_cons, List.map_nil]); first | done | rfl | (simp only [List.length_drop, List.length_take]; rfl)) ?_; (with_reducible refine (outlook_Idle.calls 1 false (Int.tmod a0_0 1099511627777) 0 (IntKind.u64.wrap (1 + (Int.tmod a0_1 4294967296))) 0 0 0 0 true t149 true _ A141.out).mono ?_); rintro e w161 ⟨rfl, hb⟩; refine ⟨_, rfl, ?_⟩; have n0_ := zq3 (Kd.R_below (by (with_reducible repeat (first | apply Kd.R_alloc | apply Kd.R_drewN | apply Kd.R_drew)); exact (Kd.R_mono (Kd.R_far (p := ⟨gb148, 1, none⟩) (Kd.R_far (p := ⟨gb148, 0, none⟩) (Kd.R_types HO_10.out BK148.out (by decide)) (fun _ hk => hk.2) (.int .i64 t146)) (fun _ hk => hk.2) (.int .i64 t147)) (fun _ h_ => h_.1))) hb); have n1_ := zq3 (Kd.R_below (by (with_reducible repeat (first | apply Kd.R_alloc | apply Kd.R_drewN | apply Kd.R_drew)); exact (Kd.R_mono (Kd.R_far (p := ⟨gb148, 1, none⟩) (Kd.R_far (p := ⟨gb148, 0, none⟩) (Kd.R_types HO144.out BK148.out (by decide)) (fun _ hk => hk.2) (.int .i64 t146)) (fun _ hk => hk.2) (.int .i64 t147)) (fun _ h_ => h_.1))) hb); have n2_ := zq3 (zq10 (g := gb101) (o := .cells #[.int .u64 a0_0, .int .u64 a0_1] 39 (0, 0)) (by (with_reducible repeat (first | refine zq0 ?_ _ | refine zq2 ?_ | refine zq1 ?_ _)); refine zq11 ?_ NB101_148.out _; (with_reducible repeat (first | refine zq0 ?_ _ | refine zq2 ?_ | refine zq1 ?_ _)); refine zq11 ?_ NB101_148.out _; (with_reducible repeat (first | refine zq0 ?_ _ | refine zq2 ?_ | refine zq1 ?_ _)); exact BK101.out) hb); have n3_ := zq3 (zq10 (g := gb102) (o := .cells #[.int .i64 1, .bool false, .int .u64 (Int.tmod a0_0 1099511627777), .int .u64 0, .int .u64 (IntKind.u64.wrap (1 + (Int.tmod a0_1 4294967296))), .int .u64 0] 49 (0, 0)) (by (with_reducible repeat (first | refine zq0 ?_ _ | refine zq2 ?_ | refine zq1 ?_ _)); refine zq11 ?_ NB102_148.out _; (with_reducible repeat (first | refine zq0 ?_ _ | refine zq2 ?_ | refine zq1 ?_ _)); refine zq11 ?_ NB102_148.out _; (with_reducible repeat (first | refine zq0 ?_ _ | refine zq2 ?_ | refine zq1 ?_ _)); exact BK102.out) hb); have n4_ := zq3 (zq10 (g := gb112) (o := .cells #[.int .i64 t110, .int .i64 t111] 26 (0, 0)) (by (with_reducible repeat (first | refine zq0 ?_ _ | refine zq2 ?_ | refine zq1 ?_ _)); refine zq11 ?_ NB112_148.out _; (with_reducible repeat (first | refine zq0 ?_ _ | refine zq2 ?_ | refine zq1 ?_ _)); refine zq11 ?_ NB112_148.out _; (with_reducible repeat (first | refine zq0 ?_ _ | refine zq2 ?_ | refine zq1 ?_ _)); exact BK112.out) hb); have n5_ := zq3 (zq10 (g := gb122) (o := .cells #[.int .i64 t120, .int .i64 t121] 26 (0, 0)) (by (with_reducible repeat (first | refine zq0 ?_ _ | refine zq2 ?_ | refine zq1 ?_ _)); refine zq11 ?_ NB122_148.out _; (with_reducible repeat (first | refine zq0 ?_ _ | refine zq2 ?_ | refine zq1 ?_ _)); refine zq11 ?_ NB122_148.out _; (with_reducible repeat (first | refine zq0 ?_ _ | refine zq2 ?_ | refine zq1 ?_ _)); exact BK122.out) hb); have n6_ := zq3 (zq10 (g := gb148) (o := .cells #[.int .i64 t146, .int .i64 t147] 26 (0, 0)) (by (with_reducible repeat (first | refine zq0 ?_ _ | refine zq2 ?_ | refine zq1 ?_ _)); refine blk_put (cs := #[.int .i64 t146, .int .i64 0]) ?_ 1 _ rfl; (with_reducible repeat (first | refine zq0 ?_ _ | refine zq2 ?_ | refine zq1 ?_ _)); refine blk_put (cs := #[.int .i64 0, .int .i64 0]) ?_ 0 _ rfl; (with_reducible repeat (first | refine zq0 ?_ _ | refine zq2 ?_ | refine zq1 ?_ _)); exact BK148.out) hb); have n7_ := zq3 (below_step (by repeat (first | (with_reducible first | exact HB.out | apply zq9 | apply zq7 | apply zq8 | refine zq6 ?_ GE101.out | refine zq6 ?_ GE102.out | refine zq6 ?_ GE112.out | refine zq6 ?_ GE122.out | refine zq6 ?_ GE148.out) | exact HB.out)) hb); clear HO_10; clear HO144; clear BK101; clear BK102; clear BK112; clear BK122; clear BK148; clear HB; have HO_10 := n0_; have HO144 := n1_; have BK101 := n2_; have BK102 := n3_; have BK112 := n4_; have BK122 := n5_; have BK148 := n6_; have HB := n7_; clear n0_ n1_ n2_ n3_ n4_ n5_ n6_ n7_; (try clear hb); (try clear hb2); (try clear hk); (try clear hi); have hcz162_0 : w161.cell? ⟨gb102, 0, none⟩ = some (.int .i64 1) := (zq5 BK102.out 0).trans rfl; have hcz162_1 : w161.cell? ⟨gb102, 1, none⟩ = some (.bool false) := (zq5 BK102.out 1).trans rfl; have hcz162_2 : w161.cell? ⟨gb102, 2, none⟩ = some (.int .u64 (Int.tmod a0_0 1099511627777)) := (zq5 BK102.out 2).trans rfl; have hcz162_3 : w161.cell? ⟨gb102, 3, none⟩ = some (.int .u64 0) := (zq5 BK102.out 3).trans rfl; have hcz162_4 : w161.cell? ⟨gb102, 4, none⟩ = some (.int .u64 (IntKind.u64.wrap (1 + (Int.tmod a0_1 4294967296)))) := (zq5 BK102.out 4).trans rfl; have hcz162_5 : w161.cell? ⟨gb102, 5, none⟩ = some (.int .u64 0) := (zq5 BK102.out 5).trans rfl; have hfz162_0 := zq4 BK102.out 0; have hfz162_1 := zq4 BK102.out 1; have hfz162_2 := zq4 BK102.out 2; have hfz162_3 := zq4 BK102.out 3; have hfz162_4 := zq4 BK102.out 4; have hfz162_5 := zq4 BK102.out 5) | (go_at_call 34; (with_reducible refine (meter_Check.calls 1 false (Int.tmod a0_0 1099511627777) 0 (IntKind.u64.wrap (1 + (Int.tmod a0_1 4294967296))) 0 t151 _ A143.out).mono ?_); rintro e w163 ⟨rfl, hb⟩; have n0_ := zq3 (Kd.R_below (by (with_reducible repeat (first | apply Kd.R_alloc | apply Kd.R_drewN | apply Kd.R_drew)); exact HO_10.out) hb); have n1_ := zq3 (Kd.R_below (by (with_reducible repeat (first | apply Kd.R_alloc | apply Kd.R_drewN | apply Kd.R_drew)); exact HO144.out) hb); have n2_ := zq3 (zq10 (g := gb101) (o := .cells #[.int .u64 a0_0, .int .u64 a0_1] 39 (0, 0)) (by (with_reducible repeat (first | refine zq0 ?_ _ | refine zq2 ?_ | refine zq1 ?_ _)); exact BK101.out) hb); have n3_ := zq3 (zq10 (g := gb102) (o := .cells #[.int .i64 1, .bool false, .int .u64 (Int.tmod a0_0 1099511627777), .int .u64 0, .int .u64 (IntKind.u64.wrap (1 + (Int.tmod a0_1 4294967296))), .int .u64 0] 49 (0, 0)) (by (with_reducible repeat (first | refine zq0 ?_ _ | refine zq2 ?_ | refine zq1 ?_ _)); exact BK102.out) hb); have n4_ := zq3 (zq10 (g := gb112) (o := .cells #[.int .i64 t110, .int .i64 t111] 26 (0, 0)) (by (with_reducible repeat (first | refine zq0 ?_ _ | refine zq2 ?_ | refine zq1 ?_ _)); exact BK112.out) hb); have n5_ := zq3 (zq10 (g := gb122) (o := .cells #[.int .i64 t120, .int .i64 t121] 26 (0, 0)) (by (with_reducible repeat (first | refine zq0 ?_ _ | refine zq2 ?_ | refine zq1 ?_ _)); exact BK122.out) hb); have n6_ := zq3 (zq10 (g := gb148) (o := .cells #[.int .i64 t146, .int .i64 t147] 26 (0, 0)) (by (with_reducible repeat (first | refine zq0 ?_ _ | refine zq2 ?_ | refine zq1 ?_ _)); exact BK148.out) hb); have n7_ := zq3 (below_step (by repeat (first | (with_reducible first | exact HB.out | apply zq9 | apply zq7 | apply zq8 | refine zq6 ?_ GE101.out | refine zq6 ?_ GE102.out | refine zq6 ?_ GE112.out | refine zq6 ?_ GE122.out | refine zq6 ?_ GE148.out) | exact HB.out)) hb); clear HO_10; clear HO144; clear BK101; clear BK102; clear BK112; clear BK122; clear BK148; clear HB; have HO_10 := n0_; have HO144 := n1_; have BK101 := n2_; have BK102 := n3_; have BK112 := n4_; have BK122 := n5_; have BK148 := n6_; have HB := n7_; clear n0_ n1_ n2_ n3_ n4_ n5_ n6_ n7_; (try clear hb); (try clear hb2); (try clear hk); (try clear hi); have hcz164_0 : w163.cell? ⟨gb102, 0, none⟩ = some (.int .i64 1) := (zq5 BK102.out 0).trans rfl; have hcz164_1 : w163.cell? ⟨gb102, 1, none⟩ = some (.bool false) := (zq5 BK102.out 1).trans rfl; have hcz164_2 : w163.cell? ⟨gb102, 2, none⟩ = some (.int .u64 (Int.tmod a0_0 1099511627777)) := (zq5 BK102.out 2).trans rfl; have hcz164_3 : w163.cell? ⟨gb102, 3, none⟩ = some (.int .u64 0) := (zq5 BK102.out 3).trans rfl; have hcz164_4 : w163.cell? ⟨gb102, 4, none⟩ = some (.int .u64 (IntKind.u64.wrap (1 + (Int.tmod a0_1 4294967296)))) := (zq5 BK102.out 4).trans rfl; have hcz164_5 : w163.cell? ⟨gb102, 5, none⟩ = some (.int .u64 0) := (zq5 BK102.out 5).trans rfl; have hfz164_0 := zq4 BK102.out 0; have hfz164_1 := zq4 BK102.out 1; have hfz164_2 := zq4 BK102.out 2; have hfz164_3 := zq4 BK102.out 3; have hfz164_4 := zq4 BK102.out 4; have hfz164_5 := zq4 BK102.out 5))
                                go_ret
                                exact ⟨by first | rfl | (simp [errW_none, errW_some] <;> rfl) | (simp [*, errW_none, errW_some] <;> rfl), by repeat (first | (with_reducible first | exact HB.out | apply zq9 | apply zq7 | apply zq8 | refine zq6 ?_ GE101.out | refine zq6 ?_ GE102.out | refine zq6 ?_ GE112.out | refine zq6 ?_ GE122.out | refine zq6 ?_ GE148.out) | exact HB.out)⟩
                              · replace c146 := Bool.eq_false_iff.mpr c146
                                subst c146
                                have H1 : (some true) = some r := by rw [if_neg (show ¬ (false = true) by decide)] at H; exact H
                                clear H
                                have H := H1
                                clear H1
                                obtain rfl := Option.some.inj H
                                go_wp2_with (first | ((with_reducible refine gate_dst (N := 150) rfl ?_); (try (refine gate_guard (by rfl) ?_; dsimp only)); refine Kd.R_lit k68 _ 68 ?hg (N := 150) ?hd (xs := ([(⟨0, 3⟩ : S68)] : List (S68))) (inner := [.int .u64 0, .int .i64 3]) (ok := fun _ => True) (okp := fun _ => True) ?hr ?hp (fun _ hk => hk) trivial (Below.refl _ _) (Nat.le_refl _) (by simp) ?_; (case hd => rfl); (case hg => rfl); (case hr => first | (go_simp; done) | (go_simp; rfl)); (case hp => exact (Reps.c2 (show Kd.M k68 _ _ _ (⟨0, 3⟩ : S68) [.int .u64 0, .int .i64 3] from (k68_mkM _ _ _ (⟨0, 3⟩ : S68) )) (Reps.none _ _))); intro v143 w165 ho166 hb hg_ hnew_; clear hg_ hnew_; (first | rw [← Ny142.out] at ho166 | (simp only [Int.reduceToNat] at ho166; rw [← Ny142.out] at ho166)); have n0_ := zq3 (Kd.R_elder' (by (with_reducible repeat (first | apply Kd.R_alloc | apply Kd.R_drewN | apply Kd.R_drew)); exact HO_10.out) (Kd.R_base ho166) hb); have n1_ := zq3 (Kd.R_lower (Kd.R_new' ho166 (Kd.R_lt (by (with_reducible repeat (first | apply Kd.R_alloc | apply Kd.R_drewN | apply Kd.R_drew)); exact HO_10.out))) (below_size (by repeat (first | (with_reducible first | exact HB.out | apply zq9 | apply zq7 | apply zq8 | refine zq6 ?_ GE101.out | refine zq6 ?_ GE102.out | refine zq6 ?_ GE112.out | refine zq6 ?_ GE122.out) | exact HB.out)))); have n2_ := zq3 (zq10 (g := gb101) (o := .cells #[.int .u64 a0_0, .int .u64 a0_1] 39 (0, 0)) (by (with_reducible repeat (first | refine zq0 ?_ _ | refine zq2 ?_ | refine zq1 ?_ _)); exact BK101.out) hb); have n3_ := zq3 (zq10 (g := gb102) (o := .cells #[.int .i64 1, .bool false, .int .u64 (Int.tmod a0_0 1099511627777), .int .u64 0, .int .u64 (IntKind.u64.wrap (1 + (Int.tmod a0_1 4294967296))), .int .u64 0] 49 (0, 0)) (by (with_reducible repeat (first | refine zq0 ?_ _ | refine zq2 ?_ | refine zq1 ?_ _)); exact BK102.out) hb); have n4_ := zq3 (zq10 (g := gb112) (o := .cells #[.int .i64 t110, .int .i64 t111] 26 (0, 0)) (by (with_reducible repeat (first | refine zq0 ?_ _ | refine zq2 ?_ | refine zq1 ?_ _)); exact BK112.out) hb); have n5_ := zq3 (zq10 (g := gb122) (o := .cells #[.int .i64 t120, .int .i64 t121] 26 (0, 0)) (by (with_reducible repeat (first | refine zq0 ?_ _ | refine zq2 ?_ | refine zq1 ?_ _)); exact BK122.out) hb); have n6_ := zq3 (below_step (by repeat (first | (with_reducible first | exact HB.out | apply zq9 | apply zq7 | apply zq8 | refine zq6 ?_ GE101.out | refine zq6 ?_ GE102.out | refine zq6 ?_ GE112.out | refine zq6 ?_ GE122.out) | exact HB.out)) hb); clear HO_10; clear BK101; clear BK102; clear BK112; clear BK122; clear HB; have HO_10 := n0_; have HO144 := n1_; have BK101 := n2_; have BK102 := n3_; have BK112 := n4_; have BK122 := n5_; have HB := n6_; clear n0_ n1_ n2_ n3_ n4_ n5_ n6_; clear hb ho166; obtain ⟨Ao167, co167, eo167⟩ := Kd.R_slice HO144.out; subst eo167) | ((with_reducible refine gate_callee (f := 16) rfl ?_); refine goesL_ (some 151) rfl rfl Try.func16 (by kernel_rfl) rfl #[.slice Ao167 y142.length co167, .int .u64 0] rfl (by (try simp only [List.map_toArray, List.map_cons, List.map_nil]); first | done | rfl | (simp only [List.length_drop, List.length_take]; rfl)) ?_; (with_reducible refine (curve_Least.calls _ _ y142 0 t145 t146 t147 _ ?side1 ?side2 A140.out).mono ?_); (case side1 => repeat (first | exact (Kd.R_reads' HO144.out).2.2 | (with_reducible refine Kd.C_alloc ?_ _) | (with_reducible refine Kd.C_drewN ?_ _) | (with_reducible refine Kd.C_drew ?_))); (case side2 => exact (Kd.R_reads' HO144.out).2.1); rintro e w168 ⟨rfl, hb⟩; refine ⟨_, rfl, ?_⟩; have n0_ := zq3 (Kd.R_below (by (with_reducible repeat (first | apply Kd.R_alloc | apply Kd.R_drewN | apply Kd.R_drew)); exact HO_10.out) hb); have n1_ := zq3 (Kd.R_below (by (with_reducible repeat (first | apply Kd.R_alloc | apply Kd.R_drewN | apply Kd.R_drew)); exact HO144.out) hb); have n2_ := zq3 (zq10 (g := gb101) (o := .cells #[.int .u64 a0_0, .int .u64 a0_1] 39 (0, 0)) (by (with_reducible repeat (first | refine zq0 ?_ _ | refine zq2 ?_ | refine zq1 ?_ _)); exact BK101.out) hb); have n3_ := zq3 (zq10 (g := gb102) (o := .cells #[.int .i64 1, .bool false, .int .u64 (Int.tmod a0_0 1099511627777), .int .u64 0, .int .u64 (IntKind.u64.wrap (1 + (Int.tmod a0_1 4294967296))), .int .u64 0] 49 (0, 0)) (by (with_reducible repeat (first | refine zq0 ?_ _ | refine zq2 ?_ | refine zq1 ?_ _)); exact BK102.out) hb); have n4_ := zq3 (zq10 (g := gb112) (o := .cells #[.int .i64 t110, .int .i64 t111] 26 (0, 0)) (by (with_reducible repeat (first | refine zq0 ?_ _ | refine zq2 ?_ | refine zq1 ?_ _)); exact BK112.out) hb); have n5_ := zq3 (zq10 (g := gb122) (o := .cells #[.int .i64 t120, .int .i64 t121] 26 (0, 0)) (by (with_reducible repeat (first | refine zq0 ?_ _ | refine zq2 ?_ | refine zq1 ?_ _)); exact BK122.out) hb); have n6_ := zq3 (below_step (by repeat (first | (with_reducible first | exact HB.out | apply zq9 | apply zq7 | apply zq8 | refine zq6 ?_ GE101.out | refine zq6 ?_ GE102.out | refine zq6 ?_ GE112.out | refine zq6 ?_ GE122.out) | exact HB.out)) hb); clear HO_10; clear HO144; clear BK101; clear BK102; clear BK112; clear BK122; clear HB; have HO_10 := n0_; have HO144 := n1_; have BK101 := n2_; have BK102 := n3_; have BK112 := n4_; have BK122 := n5_; have HB := n6_; clear n0_ n1_ n2_ n3_ n4_ n5_ n6_; (try clear hb); (try clear hb2); (try clear hk); (try clear hi)) | ((with_reducible refine gate_dst (N := 20) rfl ?_); (try (refine gate_guard (by rfl) ?_; dsimp only)); refine box_event ?hg (N := 20) ?hd (cs := #[.int .i64 0, .int .i64 0]) (t := 26) ?hr ?_; (case hd => rfl); (case hg => rfl); (case hr => first | (go_simp; done) | (go_simp; rfl)); intro gb148 hg w169 hbox hb; have n0_ := zq3 (Kd.R_below (by (with_reducible repeat (first | apply Kd.R_alloc | apply Kd.R_drewN | apply Kd.R_drew)); exact HO_10.out) hb); have n1_ := zq3 (Kd.R_below (by (with_reducible repeat (first | apply Kd.R_alloc | apply Kd.R_drewN | apply Kd.R_drew)); exact HO144.out) hb); have n2_ := zq3 (zq10 (g := gb101) (o := .cells #[.int .u64 a0_0, .int .u64 a0_1] 39 (0, 0)) (by (with_reducible repeat (first | refine zq0 ?_ _ | refine zq2 ?_ | refine zq1 ?_ _)); exact BK101.out) hb); have n3_ := zq3 (zq10 (g := gb102) (o := .cells #[.int .i64 1, .bool false, .int .u64 (Int.tmod a0_0 1099511627777), .int .u64 0, .int .u64 (IntKind.u64.wrap (1 + (Int.tmod a0_1 4294967296))), .int .u64 0] 49 (0, 0)) (by (with_reducible repeat (first | refine zq0 ?_ _ | refine zq2 ?_ | refine zq1 ?_ _)); exact BK102.out) hb); have n4_ := zq3 (zq10 (g := gb112) (o := .cells #[.int .i64 t110, .int .i64 t111] 26 (0, 0)) (by (with_reducible repeat (first | refine zq0 ?_ _ | refine zq2 ?_ | refine zq1 ?_ _)); exact BK112.out) hb); have n5_ := zq3 (zq10 (g := gb122) (o := .cells #[.int .i64 t120, .int .i64 t121] 26 (0, 0)) (by (with_reducible repeat (first | refine zq0 ?_ _ | refine zq2 ?_ | refine zq1 ?_ _)); exact BK122.out) hb); have n6_ := zq3 (below_step (by repeat (first | (with_reducible first | exact HB.out | apply zq9 | apply zq7 | apply zq8 | refine zq6 ?_ GE101.out | refine zq6 ?_ GE102.out | refine zq6 ?_ GE112.out | refine zq6 ?_ GE122.out) | exact HB.out)) hb); have n7_ := zq3 (hbox); have n8_ := zq3 ((by rw [hg]; exact (below_size (by repeat (first | (with_reducible first | exact HB.out | apply zq9 | apply zq7 | apply zq8 | refine zq6 ?_ GE101.out | refine zq6 ?_ GE102.out | refine zq6 ?_ GE112.out | refine zq6 ?_ GE122.out) | exact HB.out))) : w.heap.size ≤ gb148)); have n9_ := zq3 ((by rw [hg]; exact (below_size (by repeat (first | (with_reducible first | exact HB.out | apply zq9 | apply zq7 | apply zq8 | refine zq6 ?_ GE101.out | refine zq6 ?_ GE102.out | refine zq6 ?_ GE112.out | refine zq6 ?_ GE122.out) | exact HB.out))) : w.heap.size ≤ gb148)); have n10_ := zq3 ((by rw [hg]; exact Nat.ne_of_lt (blk_lt (g := gb101) (o := .cells #[.int .u64 a0_0, .int .u64 a0_1] 39 (0, 0)) (by (with_reducible repeat (first | refine zq0 ?_ _ | refine zq2 ?_ | refine zq1 ?_ _)); exact BK101.out)) : gb101 ≠ gb148)); have n11_ := zq3 ((by rw [hg]; exact Nat.ne_of_gt (blk_lt (g := gb101) (o := .cells #[.int .u64 a0_0, .int .u64 a0_1] 39 (0, 0)) (by (with_reducible repeat (first | refine zq0 ?_ _ | refine zq2 ?_ | refine zq1 ?_ _)); exact BK101.out)) : gb148 ≠ gb101)); have n12_ := zq3 ((by rw [hg]; exact Nat.ne_of_lt (blk_lt (g := gb102) (o := .cells #[.int .i64 1, .bool false, .int .u64 (Int.tmod a0_0 1099511627777), .int .u64 0, .int .u64 (IntKind.u64.wrap (1 + (Int.tmod a0_1 4294967296))), .int .u64 0] 49 (0, 0)) (by (with_reducible repeat (first | refine zq0 ?_ _ | refine zq2 ?_ | refine zq1 ?_ _)); exact BK102.out)) : gb102 ≠ gb148)); have n13_ := zq3 ((by rw [hg]; exact Nat.ne_of_gt (blk_lt (g := gb102) (o := .cells #[.int .i64 1, .bool false, .int .u64 (Int.tmod a0_0 1099511627777), .int .u64 0, .int .u64 (IntKind.u64.wrap (1 + (Int.tmod a0_1 4294967296))), .int .u64 0] 49 (0, 0)) (by (with_reducible repeat (first | refine zq0 ?_ _ | refine zq2 ?_ | refine zq1 ?_ _)); exact BK102.out)) : gb148 ≠ gb102)); have n14_ := zq3 ((by rw [hg]; exact Nat.ne_of_lt (blk_lt (g := gb112) (o := .cells #[.int .i64 t110, .int .i64 t111] 26 (0, 0)) (by (with_reducible repeat (first | refine zq0 ?_ _ | refine zq2 ?_ | refine zq1 ?_ _)); exact BK112.out)) : gb112 ≠ gb148)); have n15_ := zq3 ((by rw [hg]; exact Nat.ne_of_gt (blk_lt (g := gb112) (o := .cells #[.int .i64 t110, .int .i64 t111] 26 (0, 0)) (by (with_reducible repeat (first | refine zq0 ?_ _ | refine zq2 ?_ | refine zq1 ?_ _)); exact BK112.out)) : gb148 ≠ gb112)); have n16_ := zq3 ((by rw [hg]; exact Nat.ne_of_lt (blk_lt (g := gb122) (o := .cells #[.int .i64 t120, .int .i64 t121] 26 (0, 0)) (by (with_reducible repeat (first | refine zq0 ?_ _ | refine zq2 ?_ | refine zq1 ?_ _)); exact BK122.out)) : gb122 ≠ gb148)); have n17_ := zq3 ((by rw [hg]; exact Nat.ne_of_gt (blk_lt (g := gb122) (o := .cells #[.int .i64 t120, .int .i64 t121] 26 (0, 0)) (by (with_reducible repeat (first | refine zq0 ?_ _ | refine zq2 ?_ | refine zq1 ?_ _)); exact BK122.out)) : gb148 ≠ gb122)); clear HO_10; clear HO144; clear BK101; clear BK102; clear BK112; clear BK122; clear HB; have HO_10 := n0_; have HO144 := n1_; have BK101 := n2_; have BK102 := n3_; have BK112 := n4_; have BK122 := n5_; have HB := n6_; have BK148 := n7_; have GW148 := n8_; have GE148 := n9_; have NB101_148 := n10_; have NB148_101 := n11_; have NB102_148 := n12_; have NB148_102 := n13_; have NB112_148 := n14_; have NB148_112 := n15_; have NB122_148 := n16_; have NB148_122 := n17_; clear n0_ n1_ n2_ n3_ n4_ n5_ n6_ n7_ n8_ n9_ n10_ n11_ n12_ n13_ n14_ n15_ n16_ n17_; clear hb hbox hg; have hnb170 := NB148_101.out; have hnc170 := NB101_148.out; have hnb171 := NB148_102.out; have hnc171 := NB102_148.out; have hnb172 := NB148_112.out; have hnc172 := NB112_148.out; have hnb173 := NB148_122.out; have hnc173 := NB122_148.out; have hcz174_0 : w169.cell? ⟨gb148, 0, none⟩ = some (.int .i64 0) := (zq5 BK148.out 0).trans rfl; have hcz174_1 : w169.cell? ⟨gb148, 1, none⟩ = some (.int .i64 0) := (zq5 BK148.out 1).trans rfl; have hfz174_0 := zq4 BK148.out 0; have hfz174_1 := zq4 BK148.out 1; have hnb175 := NB102_101.out; have hnc175 := NB101_102.out; have hnb176 := NB102_112.out; have hnc176 := NB112_102.out; have hnb177 := NB102_122.out; have hnc177 := NB122_102.out; have hcz178_0 : w169.cell? ⟨gb102, 0, none⟩ = some (.int .i64 1) := (zq5 BK102.out 0).trans rfl; have hcz178_1 : w169.cell? ⟨gb102, 1, none⟩ = some (.bool false) := (zq5 BK102.out 1).trans rfl; have hcz178_2 : w169.cell? ⟨gb102, 2, none⟩ = some (.int .u64 (Int.tmod a0_0 1099511627777)) := (zq5 BK102.out 2).trans rfl; have hcz178_3 : w169.cell? ⟨gb102, 3, none⟩ = some (.int .u64 0) := (zq5 BK102.out 3).trans rfl; have hcz178_4 : w169.cell? ⟨gb102, 4, none⟩ = some (.int .u64 (IntKind.u64.wrap (1 + (Int.tmod a0_1 4294967296)))) := (zq5 BK102.out 4).trans rfl; have hcz178_5 : w169.cell? ⟨gb102, 5, none⟩ = some (.int .u64 0) := (zq5 BK102.out 5).trans rfl; have hfz178_0 := zq4 BK102.out 0; have hfz178_1 := zq4 BK102.out 1; have hfz178_2 := zq4 BK102.out 2; have hfz178_3 := zq4 BK102.out 3; have hfz178_4 := zq4 BK102.out 4; have hfz178_5 := zq4 BK102.out 5) | ((with_reducible refine gate_callee (f := 28) rfl ?_); refine goesL_ (some 157) rfl rfl Try.func28 (by kernel_rfl) rfl #[.agg #[.int .i64 1, .bool false, .int .u64 (Int.tmod a0_0 1099511627777), .int .u64 0, .int .u64 (IntKind.u64.wrap (1 + (Int.tmod a0_1 4294967296))), .int .u64 0], .agg #[.int .u64 0, .int .u64 0, .int .u64 0, .bool true]] rfl (by (try simp only [List.map_toArray, List.map_cons, List.map_nil]); first | done | rfl | (simp only [List.length_drop, List.length_take]; rfl)) ?_; (with_reducible refine (outlook_Idle.calls 1 false (Int.tmod a0_0 1099511627777) 0 (IntKind.u64.wrap (1 + (Int.tmod a0_1 4294967296))) 0 0 0 0 true t149 false _ A141.out).mono ?_); rintro e w179 ⟨rfl, hb⟩; refine ⟨_, rfl, ?_⟩; have n0_ := zq3 (Kd.R_below (by (with_reducible repeat (first | apply Kd.R_alloc | apply Kd.R_drewN | apply Kd.R_drew)); exact (Kd.R_mono (Kd.R_far (p := ⟨gb148, 1, none⟩) (Kd.R_far (p := ⟨gb148, 0, none⟩) (Kd.R_types HO_10.out BK148.out (by decide)) (fun _ hk => hk.2) (.int .i64 t146)) (fun _ hk => hk.2) (.int .i64 t147)) (fun _ h_ => h_.1))) hb); have n1_ := zq3 (Kd.R_below (by (with_reducible repeat (first | apply Kd.R_alloc | apply Kd.R_drewN | apply Kd.R_drew)); exact (Kd.R_mono (Kd.R_far (p := ⟨gb148, 1, none⟩) (Kd.R_far (p := ⟨gb148, 0, none⟩) (Kd.R_types HO144.out BK148.out (by decide)) (fun _ hk => hk.2) (.int .i64 t146)) (fun _ hk => hk.2) (.int .i64 t147)) (fun _ h_ => h_.1))) hb); have n2_ := zq3 (zq10 (g := gb101) (o := .cells #[.int .u64 a0_0, .int .u64 a0_1] 39 (0, 0)) (by (with_reducible repeat (first | refine zq0 ?_ _ | refine zq2 ?_ | refine zq1 ?_ _)); refine zq11 ?_ NB101_148.out _; (with_reducible repeat (first | refine zq0 ?_ _ | refine zq2 ?_ | refine zq1 ?_ _)); refine zq11 ?_ NB101_148.out _; (with_reducible repeat (first | refine zq0 ?_ _ | refine zq2 ?_ | refine zq1 ?_ _)); exact BK101.out) hb); have n3_ := zq3 (zq10 (g := gb102) (o := .cells #[.int .i64 1, .bool false, .int .u64 (Int.tmod a0_0 1099511627777), .int .u64 0, .int .u64 (IntKind.u64.wrap (1 + (Int.tmod a0_1 4294967296))), .int .u64 0] 49 (0, 0)) (by (with_reducible repeat (first | refine zq0 ?_ _ | refine zq2 ?_ | refine zq1 ?_ _)); refine zq11 ?_ NB102_148.out _; (with_reducible repeat (first | refine zq0 ?_ _ | refine zq2 ?_ | refine zq1 ?_ _)); refine zq11 ?_ NB102_148.out _; (with_reducible repeat (first | refine zq0 ?_ _ | refine zq2 ?_ | refine zq1 ?_ _)); exact BK102.out) hb); have n4_ := zq3 (zq10 (g := gb112) (o := .cells #[.int .i64 t110, .int .i64 t111] 26 (0, 0)) (by (with_reducible repeat (first | refine zq0 ?_ _ | refine zq2 ?_ | refine zq1 ?_ _)); refine zq11 ?_ NB112_148.out _; (with_reducible repeat (first | refine zq0 ?_ _ | refine zq2 ?_ | refine zq1 ?_ _)); refine zq11 ?_ NB112_148.out _; (with_reducible repeat (first | refine zq0 ?_ _ | refine zq2 ?_ | refine zq1 ?_ _)); exact BK112.out) hb); have n5_ := zq3 (zq10 (g := gb122) (o := .cells #[.int .i64 t120, .int .i64 t121] 26 (0, 0)) (by (with_reducible repeat (first | refine zq0 ?_ _ | refine zq2 ?_ | refine zq1 ?_ _)); refine zq11 ?_ NB122_148.out _; (with_reducible repeat (first | refine zq0 ?_ _ | refine zq2 ?_ | refine zq1 ?_ _)); refine zq11 ?_ NB122_148.out _; (with_reducible repeat (first | refine zq0 ?_ _ | refine zq2 ?_ | refine zq1 ?_ _)); exact BK122.out) hb); have n6_ := zq3 (zq10 (g := gb148) (o := .cells #[.int .i64 t146, .int .i64 t147] 26 (0, 0)) (by (with_reducible repeat (first | refine zq0 ?_ _ | refine zq2 ?_ | refine zq1 ?_ _)); refine blk_put (cs := #[.int .i64 t146, .int .i64 0]) ?_ 1 _ rfl; (with_reducible repeat (first | refine zq0 ?_ _ | refine zq2 ?_ | refine zq1 ?_ _)); refine blk_put (cs := #[.int .i64 0, .int .i64 0]) ?_ 0 _ rfl; (with_reducible repeat (first | refine zq0 ?_ _ | refine zq2 ?_ | refine zq1 ?_ _)); exact BK148.out) hb); have n7_ := zq3 (below_step (by repeat (first | (with_reducible first | exact HB.out | apply zq9 | apply zq7 | apply zq8 | refine zq6 ?_ GE101.out | refine zq6 ?_ GE102.out | refine zq6 ?_ GE112.out | refine zq6 ?_ GE122.out | refine zq6 ?_ GE148.out) | exact HB.out)) hb); clear HO_10; clear HO144; clear BK101; clear BK102; clear BK112; clear BK122; clear BK148; clear HB; have HO_10 := n0_; have HO144 := n1_; have BK101 := n2_; have BK102 := n3_; have BK112 := n4_; have BK122 := n5_; have BK148 := n6_; have HB := n7_; clear n0_ n1_ n2_ n3_ n4_ n5_ n6_ n7_; (try clear hb); (try clear hb2); (try clear hk); (try clear hi); have hcz180_0 : w179.cell? ⟨gb102, 0, none⟩ = some (.int .i64 1) := (zq5 BK102.out 0).trans rfl; have hcz180_1 : w179.cell? ⟨gb102, 1, none⟩ = some (.bool false) := (zq5 BK102.out 1).trans rfl; have hcz180_2 : w179.cell? ⟨gb102, 2, none⟩ = some (.int .u64 (Int.tmod a0_0 1099511627777)) := (zq5 BK102.out 2).trans rfl; have hcz180_3 : w179.cell? ⟨gb102, 3, none⟩ = some (.int .u64 0) := (zq5 BK102.out 3).trans rfl; have hcz180_4 : w179.cell? ⟨gb102, 4, none⟩ = some (.int .u64 (IntKind.u64.wrap (1 + (Int.tmod a0_1 4294967296)))) := (zq5 BK102.out 4).trans rfl; have hcz180_5 : w179.cell? ⟨gb102, 5, none⟩ = some (.int .u64 0) := (zq5 BK102.out 5).trans rfl; have hfz180_0 := zq4 BK102.out 0; have hfz180_1 := zq4 BK102.out 1; have hfz180_2 := zq4 BK102.out 2; have hfz180_3 := zq4 BK102.out 3; have hfz180_4 := zq4 BK102.out 4; have hfz180_5 := zq4 BK102.out 5) | (go_at_call 34; (with_reducible refine (meter_Check.calls 1 false (Int.tmod a0_0 1099511627777) 0 (IntKind.u64.wrap (1 + (Int.tmod a0_1 4294967296))) 0 t151 _ A143.out).mono ?_); rintro e w181 ⟨rfl, hb⟩; have n0_ := zq3 (Kd.R_below (by (with_reducible repeat (first | apply Kd.R_alloc | apply Kd.R_drewN | apply Kd.R_drew)); exact HO_10.out) hb); have n1_ := zq3 (Kd.R_below (by (with_reducible repeat (first | apply Kd.R_alloc | apply Kd.R_drewN | apply Kd.R_drew)); exact HO144.out) hb); have n2_ := zq3 (zq10 (g := gb101) (o := .cells #[.int .u64 a0_0, .int .u64 a0_1] 39 (0, 0)) (by (with_reducible repeat (first | refine zq0 ?_ _ | refine zq2 ?_ | refine zq1 ?_ _)); exact BK101.out) hb); have n3_ := zq3 (zq10 (g := gb102) (o := .cells #[.int .i64 1, .bool false, .int .u64 (Int.tmod a0_0 1099511627777), .int .u64 0, .int .u64 (IntKind.u64.wrap (1 + (Int.tmod a0_1 4294967296))), .int .u64 0] 49 (0, 0)) (by (with_reducible repeat (first | refine zq0 ?_ _ | refine zq2 ?_ | refine zq1 ?_ _)); exact BK102.out) hb); have n4_ := zq3 (zq10 (g := gb112) (o := .cells #[.int .i64 t110, .int .i64 t111] 26 (0, 0)) (by (with_reducible repeat (first | refine zq0 ?_ _ | refine zq2 ?_ | refine zq1 ?_ _)); exact BK112.out) hb); have n5_ := zq3 (zq10 (g := gb122) (o := .cells #[.int .i64 t120, .int .i64 t121] 26 (0, 0)) (by (with_reducible repeat (first | refine zq0 ?_ _ | refine zq2 ?_ | refine zq1 ?_ _)); exact BK122.out) hb); have n6_ := zq3 (zq10 (g := gb148) (o := .cells #[.int .i64 t146, .int .i64 t147] 26 (0, 0)) (by (with_reducible repeat (first | refine zq0 ?_ _ | refine zq2 ?_ | refine zq1 ?_ _)); exact BK148.out) hb); have n7_ := zq3 (below_step (by repeat (first | (with_reducible first | exact HB.out | apply zq9 | apply zq7 | apply zq8 | refine zq6 ?_ GE101.out | refine zq6 ?_ GE102.out | refine zq6 ?_ GE112.out | refine zq6 ?_ GE122.out | refine zq6 ?_ GE148.out) | exact HB.out)) hb); clear HO_10; clear HO144; clear BK101; clear BK102; clear BK112; clear BK122; clear BK148; clear HB; have HO_10 := n0_; have HO144 := n1_; have BK101 := n2_; have BK102 := n3_; have BK112 := n4_; have BK122 := n5_; have BK148 := n6_; have HB := n7_; clear n0_ n1_ n2_ n3_ n4_ n5_ n6_ n7_; (try clear hb); (try clear hb2); (try clear hk); (try clear hi); have hcz182_0 : w181.cell? ⟨gb102, 0, none⟩ = some (.int .i64 1) := (zq5 BK102.out 0).trans rfl; have hcz182_1 : w181.cell? ⟨gb102, 1, none⟩ = some (.bool false) := (zq5 BK102.out 1).trans rfl; have hcz182_2 : w181.cell? ⟨gb102, 2, none⟩ = some (.int .u64 (Int.tmod a0_0 1099511627777)) := (zq5 BK102.out 2).trans rfl; have hcz182_3 : w181.cell? ⟨gb102, 3, none⟩ = some (.int .u64 0) := (zq5 BK102.out 3).trans rfl; have hcz182_4 : w181.cell? ⟨gb102, 4, none⟩ = some (.int .u64 (IntKind.u64.wrap (1 + (Int.tmod a0_1 4294967296)))) := (zq5 BK102.out 4).trans rfl; have hcz182_5 : w181.cell? ⟨gb102, 5, none⟩ = some (.int .u64 0) := (zq5 BK102.out 5).trans rfl; have hfz182_0 := zq4 BK102.out 0; have hfz182_1 := zq4 BK102.out 1; have hfz182_2 := zq4 BK102.out 2; have hfz182_3 := zq4 BK102.out 3; have hfz182_4 := zq4 BK102.out 4; have hfz182_5 := zq4 BK102.out 5))
                                go_ret
                                exact ⟨by first | rfl | (simp [errW_none, errW_some] <;> rfl) | (simp [*, errW_none, errW_some] <;> rfl), by repeat (first | (with_reducible first | exact HB.out | apply zq9 | apply zq7 | apply zq8 | refine zq6 ?_ GE101.out | refine zq6 ?_ GE102.out | refine zq6 ?_ GE112.out | refine zq6 ?_ GE122.out | refine zq6 ?_ GE148.out) | exact HB.out)⟩
                            · rw [if_neg c145] at H
                              exact absurd H (by simp)
                          · rw [if_neg c144] at H
                            exact absurd H (by simp)
                        · rw [if_neg c142] at H
                          exact absurd H (by simp)
        · rw [if_neg c26] at H
          exact absurd H (by simp)

end Go.Proofs.Ytiaoaoebghnpkaa.P
