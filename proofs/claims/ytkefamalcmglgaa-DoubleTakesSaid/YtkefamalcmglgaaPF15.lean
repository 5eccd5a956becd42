/- Printed out of the translation: what functions compute, and the proofs that the code computes just this. -/
import Derived.Test.YtkefamalcmglgaaP0
import Derived.Test.YtkefamalcmglgaaPF35
import Derived.Test.YtkefamalcmglgaaPF18
import Derived.Test.YtkefamalcmglgaaPF34
namespace Go.Proofs.Ytkefamalcmglgaa.P
open Go.RowKit Go.Proofs.YtkefamalcmglgaaW.PrintWords Go.Proofs.YtkefamalcmglgaaW.PrintLast Go.Proofs.YtkefamalcmglgaaW.PrintMore
attribute [local go_sem] max2_int min2_int max_two min_two max_three min_three max_four min_four   -- for this text's walks alone
set_option linter.unusedVariables false
set_option linter.unusedSimpArgs false

/-! ### weighbridgeref27_Step: function 15 -/
mutual
def weighbridgeref27_Step.j0 : Nat → Int → Int → Int → Bool → Int → Bool → Int → Int → Int → Int → Int → Int → Int → Bool → Option (Int × Int × Int × Bool × Int)
  | 0, _, _, _, _, _, _, _, _, _, _, _, _, _, _ => none
  | k + 1, x2, x3, x4, x24, x102000, x102001, x102002, x102003, x102004, x102005, x103000, x103001, x103002, x103003 => if x24 = true then (some (x103000, x103001, x103002, x103003, 2)) else ((weighbridgeref27_Later.f x102000 x102001 x102002 x102003 x102004 x102005 x103000 x103001 x103002 x103003 x2).bind fun bt105 => ((weighbridgeref26_Colour.f x102001 x4).bind fun t110 => ((weighbridgeref24_Take.f bt105.2.1 x3).bind fun bt111 => ((weighbridgeref24_Take.f bt105.1 x3).bind fun bt113 => (if t110 = 2 then (weighbridgeref27_Step.j1 k t110 bt111.1 bt113.1 bt113.2 true bt105.1 bt105.2.1 bt105.2.2.1 bt105.2.2.2) else (weighbridgeref27_Step.j1 k t110 bt111.1 bt113.1 bt113.2 (!bt111.2) bt105.1 bt105.2.1 bt105.2.2.1 bt105.2.2.2))))))
def weighbridgeref27_Step.j1 : Nat → Int → Int → Int → Bool → Bool → Int → Int → Int → Bool → Option (Int × Int × Int × Bool × Int)
  | 0, _, _, _, _, _, _, _, _, _ => none
  | k + 1, x13, x14, x16, x17, x53, x110000, x110001, x110002, x110003 => if x53 = true then (some (x110000, x110001, x110002, x110003, 2)) else (if x13 = 1 then (some (x110000, x14, x110002, x110003, 1)) else (if x17 = true then (some (x16, x14, x110002, x110003, 0)) else (some (x110000, x14, x110002, x110003, 1))))
end
def weighbridgeref27_Step.f (k : Nat) (a0_0 : Int) (a0_1 : Bool) (a0_2 : Int) (a0_3 : Int) (a0_4 : Int) (a0_5 : Int) (a1_0 : Int) (a1_1 : Int) (a1_2 : Int) (a1_3 : Bool) (a2 : Int) (a3 : Int) (a4 : Int) : Option (Int × Int × Int × Bool × Int) := (weighbridgeref27_Check.f k a0_0 a0_1 a0_2 a0_3 a0_4 a0_5).bind fun t104 => (if t104 = 0 then (weighbridgeref27_Step.j0 k a2 a3 a4 (decide (a3 < 0)) a0_0 a0_1 a0_2 a0_3 a0_4 a0_5 a1_0 a1_1 a1_2 a1_3) else (weighbridgeref27_Step.j0 k a2 a3 a4 true a0_0 a0_1 a0_2 a0_3 a0_4 a0_5 a1_0 a1_1 a1_2 a1_3))
set_option maxHeartbeats 8000000 in
set_option maxRecDepth 100000 in
theorem weighbridgeref27_Step.calls (k : Nat) (a0_0 : Int) (a0_1 : Bool) (a0_2 : Int) (a0_3 : Int) (a0_4 : Int) (a0_5 : Int) (a1_0 : Int) (a1_1 : Int) (a1_2 : Int) (a1_3 : Bool) (a2 : Int) (a3 : Int) (a4 : Int) (r1 : Int) (r2 : Int) (r3 : Int) (r4 : Bool) (r5 : Int) (w : World) (h : weighbridgeref27_Step.f k a0_0 a0_1 a0_2 a0_3 a0_4 a0_5 a1_0 a1_1 a1_2 a1_3 a2 a3 a4 = some (r1, r2, r3, r4, r5)) :
    Calls Try.prog 15 #[.agg #[.int .i64 a0_0, .bool a0_1, .int .u64 a0_2, .int .u64 a0_3, .int .u64 a0_4, .int .u64 a0_5], .agg #[.int .u64 a1_0, .int .u64 a1_1, .int .u64 a1_2, .bool a1_3], .int .u64 a2, .int .i64 a3, .int .i64 a4] w fun e w' => e = .returned (.tuple #[.agg #[.int .u64 r1, .int .u64 r2, .int .u64 r3, .bool r4], .int .i64 r5]) ∧ Below w.heap.size w w' := by
  have hu24 := Try.underlying24
  have hu26 := Try.underlying26
  have HB := zq3 (Below.refl w.heap.size w)
  have H : ((weighbridgeref27_Check.f k a0_0 a0_1 a0_2 a0_3 a0_4 a0_5).bind fun t104 => (if t104 = 0 then (weighbridgeref27_Step.j0 k a2 a3 a4 (decide (a3 < 0)) a0_0 a0_1 a0_2 a0_3 a0_4 a0_5 a1_0 a1_1 a1_2 a1_3) else (weighbridgeref27_Step.j0 k a2 a3 a4 true a0_0 a0_1 a0_2 a0_3 a0_4 a0_5 a1_0 a1_1 a1_2 a1_3))) = some (r1, r2, r3, r4, r5) := h
  clear h
  have HC6 := zq3 H
  clear H
  go_enter Try.func15, Try.ntmps15
  go_upto_region 1 with (first | ((with_reducible refine gate_dst (N := 5) rfl ?_); refine box_event ?hg (N := 5) ?hd (cs := #[.int .i64 a0_0, .bool a0_1, .int .u64 a0_2, .int .u64 a0_3, .int .u64 a0_4, .int .u64 a0_5]) (t := 24) ?hr ?_; (case hd => rfl); (case hg => rfl); (case hr => first | (go_simp; done) | (go_simp; rfl)); intro gb101 hg w7 hbox hb; have n0_ := zq3 (below_step (by repeat (first | (with_reducible first | exact HB.out | apply zq9 | apply zq7 | apply zq8) | exact HB.out)) hb); have n1_ := zq3 (hbox); have n2_ := zq3 ((by rw [hg]; exact (below_size (by repeat (first | (with_reducible first | exact HB.out | apply zq9 | apply zq7 | apply zq8) | exact HB.out))) : w.heap.size ≤ gb101)); have n3_ := zq3 ((by rw [hg]; exact (below_size (by repeat (first | (with_reducible first | exact HB.out | apply zq9 | apply zq7 | apply zq8) | exact HB.out))) : w.heap.size ≤ gb101)); clear HB; have HB := n0_; have BK101 := n1_; have GW101 := n2_; have GE101 := n3_; clear n0_ n1_ n2_ n3_; clear hb hbox hg) | ((with_reducible refine gate_dst (N := 6) rfl ?_); refine box_event ?hg (N := 6) ?hd (cs := #[.int .u64 a1_0, .int .u64 a1_1, .int .u64 a1_2, .bool a1_3]) (t := 26) ?hr ?_; (case hd => rfl); (case hg => rfl); (case hr => first | (go_simp; done) | (go_simp; rfl)); intro gb102 hg w8 hbox hb; have n0_ := zq3 (zq10 (g := gb101) (o := .cells #[.int .i64 a0_0, .bool a0_1, .int .u64 a0_2, .int .u64 a0_3, .int .u64 a0_4, .int .u64 a0_5] 24 (0, 0)) (by (with_reducible repeat (first | refine zq0 ?_ _ | refine zq2 ?_ | refine zq1 ?_ _)); exact BK101.out) hb); have n1_ := zq3 (below_step (by repeat (first | (with_reducible first | exact HB.out | apply zq9 | apply zq7 | apply zq8 | refine zq6 ?_ GE101.out) | exact HB.out)) hb); have n2_ := zq3 (hbox); have n3_ := zq3 ((by rw [hg]; exact (below_size (by repeat (first | (with_reducible first | exact HB.out | apply zq9 | apply zq7 | apply zq8 | refine zq6 ?_ GE101.out) | exact HB.out))) : w.heap.size ≤ gb102)); have n4_ := zq3 ((by rw [hg]; exact (below_size (by repeat (first | (with_reducible first | exact HB.out | apply zq9 | apply zq7 | apply zq8 | refine zq6 ?_ GE101.out) | exact HB.out))) : w.heap.size ≤ gb102)); have n5_ := zq3 ((by rw [hg]; exact Nat.ne_of_lt (blk_lt (g := gb101) (o := .cells #[.int .i64 a0_0, .bool a0_1, .int .u64 a0_2, .int .u64 a0_3, .int .u64 a0_4, .int .u64 a0_5] 24 (0, 0)) (by (with_reducible repeat (first | refine zq0 ?_ _ | refine zq2 ?_ | refine zq1 ?_ _)); exact BK101.out)) : gb101 ≠ gb102)); have n6_ := zq3 ((by rw [hg]; exact Nat.ne_of_gt (blk_lt (g := gb101) (o := .cells #[.int .i64 a0_0, .bool a0_1, .int .u64 a0_2, .int .u64 a0_3, .int .u64 a0_4, .int .u64 a0_5] 24 (0, 0)) (by (with_reducible repeat (first | refine zq0 ?_ _ | refine zq2 ?_ | refine zq1 ?_ _)); exact BK101.out)) : gb102 ≠ gb101)); clear BK101; clear HB; have BK101 := n0_; have HB := n1_; have BK102 := n2_; have GW102 := n3_; have GE102 := n4_; have NB101_102 := n5_; have NB102_101 := n6_; clear n0_ n1_ n2_ n3_ n4_ n5_ n6_; clear hb hbox hg) | ((with_reducible refine gate_dst (N := 10) rfl ?_); refine box_event ?hg (N := 10) ?hd (cs := #[.int .u64 0, .int .u64 0, .int .u64 0, .bool false]) (t := 26) ?hr ?_; (case hd => rfl); (case hg => rfl); (case hr => first | (go_simp; done) | (go_simp; rfl)); intro gb103 hg w9 hbox hb; have n0_ := zq3 (zq10 (g := gb101) (o := .cells #[.int .i64 a0_0, .bool a0_1, .int .u64 a0_2, .int .u64 a0_3, .int .u64 a0_4, .int .u64 a0_5] 24 (0, 0)) (by (with_reducible repeat (first | refine zq0 ?_ _ | refine zq2 ?_ | refine zq1 ?_ _)); exact BK101.out) hb); have n1_ := zq3 (zq10 (g := gb102) (o := .cells #[.int .u64 a1_0, .int .u64 a1_1, .int .u64 a1_2, .bool a1_3] 26 (0, 0)) (by (with_reducible repeat (first | refine zq0 ?_ _ | refine zq2 ?_ | refine zq1 ?_ _)); exact BK102.out) hb); have n2_ := zq3 (below_step (by repeat (first | (with_reducible first | exact HB.out | apply zq9 | apply zq7 | apply zq8 | refine zq6 ?_ GE101.out | refine zq6 ?_ GE102.out) | exact HB.out)) hb); have n3_ := zq3 (hbox); have n4_ := zq3 ((by rw [hg]; exact (below_size (by repeat (first | (with_reducible first | exact HB.out | apply zq9 | apply zq7 | apply zq8 | refine zq6 ?_ GE101.out | refine zq6 ?_ GE102.out) | exact HB.out))) : w.heap.size ≤ gb103)); have n5_ := zq3 ((by rw [hg]; exact (below_size (by repeat (first | (with_reducible first | exact HB.out | apply zq9 | apply zq7 | apply zq8 | refine zq6 ?_ GE101.out | refine zq6 ?_ GE102.out) | exact HB.out))) : w.heap.size ≤ gb103)); have n6_ := zq3 ((by rw [hg]; exact Nat.ne_of_lt (blk_lt (g := gb101) (o := .cells #[.int .i64 a0_0, .bool a0_1, .int .u64 a0_2, .int .u64 a0_3, .int .u64 a0_4, .int .u64 a0_5] 24 (0, 0)) (by (with_reducible repeat (first | refine zq0 ?_ _ | refine zq2 ?_ | refine zq1 ?_ _)); exact BK101.out)) : gb101 ≠ gb103)); have n7_ := zq3 ((by rw [hg]; exact Nat.ne_of_gt (blk_lt (g := gb101) (o := .cells #[.int .i64 a0_0, .bool a0_1, .int .u64 a0_2, .int .u64 a0_3, .int .u64 a0_4, .int .u64 a0_5] 24 (0, 0)) (by (with_reducible repeat (first | refine zq0 ?_ _ | refine zq2 ?_ | refine zq1 ?_ _)); exact BK101.out)) : gb103 ≠ gb101)); have n8_ := zq3 ((by rw [hg]; exact Nat.ne_of_lt (blk_lt (g := gb102) (o := .cells #[.int .u64 a1_0, .int .u64 a1_1, .int .u64 a1_2, .bool a1_3] 26 (0, 0)) (by (with_reducible repeat (first | refine zq0 ?_ _ | refine zq2 ?_ | refine zq1 ?_ _)); exact BK102.out)) : gb102 ≠ gb103)); have n9_ := zq3 ((by rw [hg]; exact Nat.ne_of_gt (blk_lt (g := gb102) (o := .cells #[.int .u64 a1_0, .int .u64 a1_1, .int .u64 a1_2, .bool a1_3] 26 (0, 0)) (by (with_reducible repeat (first | refine zq0 ?_ _ | refine zq2 ?_ | refine zq1 ?_ _)); exact BK102.out)) : gb103 ≠ gb102)); clear BK101; clear BK102; clear HB; have BK101 := n0_; have BK102 := n1_; have HB := n2_; have BK103 := n3_; have GW103 := n4_; have GE103 := n5_; have NB101_103 := n6_; have NB103_101 := n7_; have NB102_103 := n8_; have NB103_102 := n9_; clear n0_ n1_ n2_ n3_ n4_ n5_ n6_ n7_ n8_ n9_; clear hb hbox hg))
  (try simp only [Act.put, List.setIfInBounds_toArray, List.set_cons_zero, List.set_cons_succ])
  go_cut [24] (fun v24 wc => ∃ (kq : Nat) (x24_5 : Bool), v24 = .bool x24_5 ∧ Aside0 (weighbridgeref27_Step.j0 kq a2 a3 a4 x24_5 a0_0 a0_1 a0_2 a0_3 a0_4 a0_5 a1_0 a1_1 a1_2 a1_3 = some (r1, r2, r3, r4, r5)) ∧ Aside0 (kq ≤ k) ∧ Aside0 (wc.heap[gb101]? = some (.cells #[.int .i64 a0_0, .bool a0_1, .int .u64 a0_2, .int .u64 a0_3, .int .u64 a0_4, .int .u64 a0_5] 24 (0, 0))) ∧ Aside0 (wc.heap[gb102]? = some (.cells #[.int .u64 a1_0, .int .u64 a1_1, .int .u64 a1_2, .bool a1_3] 26 (0, 0))) ∧ Aside0 (wc.heap[gb103]? = some (.cells #[.int .u64 0, .int .u64 0, .int .u64 0, .bool false] 26 (0, 0))) ∧ Aside0 (Below w.heap.size w wc))
  case first =>
    have H := HC6.out
    clear HC6
    replace H := Option.bind_eq_some_iff.mp H
    obtain ⟨t104, A100, H⟩ := H
    replace H : (if t104 = 0 then (weighbridgeref27_Step.j0 k a2 a3 a4 (decide (a3 < 0)) a0_0 a0_1 a0_2 a0_3 a0_4 a0_5 a1_0 a1_1 a1_2 a1_3) else (weighbridgeref27_Step.j0 k a2 a3 a4 true a0_0 a0_1 a0_2 a0_3 a0_4 a0_5 a1_0 a1_1 a1_2 a1_3)) = some (r1, r2, r3, r4, r5) := H
    have A10 := zq3 A100
    clear A100
    by_cases c11 : t104 = 0
    · rw [if_pos c11] at H
      have c11b0 : (t104 == 0) = true := beq_iff_eq.mpr c11
      have c11b1 : (t104 != 0) = false := bne_eq_false_iff_eq.mpr c11
      clear c11
      (first | rw [c11b0] | (simp only [i64_w, i32_w]; rw [c11b0]) | skip)
      have H' := zq3 H
      clear H
      have hnb12 := NB101_102.out
      have hnc12 := NB102_101.out
      have hnb13 := NB101_103.out
      have hnc13 := NB103_101.out
      have hcz14_0 : w9.cell? ⟨gb101, 0, none⟩ = some (.int .i64 a0_0) := (zq5 BK101.out 0).trans rfl
      have hcz14_1 : w9.cell? ⟨gb101, 1, none⟩ = some (.bool a0_1) := (zq5 BK101.out 1).trans rfl
      have hcz14_2 : w9.cell? ⟨gb101, 2, none⟩ = some (.int .u64 a0_2) := (zq5 BK101.out 2).trans rfl
      have hcz14_3 : w9.cell? ⟨gb101, 3, none⟩ = some (.int .u64 a0_3) := (zq5 BK101.out 3).trans rfl
      have hcz14_4 : w9.cell? ⟨gb101, 4, none⟩ = some (.int .u64 a0_4) := (zq5 BK101.out 4).trans rfl
      have hcz14_5 : w9.cell? ⟨gb101, 5, none⟩ = some (.int .u64 a0_5) := (zq5 BK101.out 5).trans rfl
      have hfz14_0 := zq4 BK101.out 0
      have hfz14_1 := zq4 BK101.out 1
      have hfz14_2 := zq4 BK101.out 2
      have hfz14_3 := zq4 BK101.out 3
      have hfz14_4 := zq4 BK101.out 4
      have hfz14_5 := zq4 BK101.out 5
      go_wp2_with (first | ((with_reducible refine gate_callee (f := 18) rfl ?_); refine goesL_ (some 19) rfl rfl Try.func18 (by kernel_rfl) rfl #[.agg #[.int .i64 a0_0, .bool a0_1, .int .u64 a0_2, .int .u64 a0_3, .int .u64 a0_4, .int .u64 a0_5]] rfl (by (try simp only [List.map_toArray, List.map_cons, List.map_nil]); first | done | rfl | (simp only [List.length_drop, List.length_take]; rfl)) ?_; (with_reducible refine (weighbridgeref27_Check.calls k a0_0 a0_1 a0_2 a0_3 a0_4 a0_5 t104 _ A10.out).mono ?_); rintro e w15 ⟨rfl, hb⟩; refine ⟨_, rfl, ?_⟩; have n0_ := zq3 (zq10 (g := gb101) (o := .cells #[.int .i64 a0_0, .bool a0_1, .int .u64 a0_2, .int .u64 a0_3, .int .u64 a0_4, .int .u64 a0_5] 24 (0, 0)) (by (with_reducible repeat (first | refine zq0 ?_ _ | refine zq2 ?_ | refine zq1 ?_ _)); exact BK101.out) hb); have n1_ := zq3 (zq10 (g := gb102) (o := .cells #[.int .u64 a1_0, .int .u64 a1_1, .int .u64 a1_2, .bool a1_3] 26 (0, 0)) (by (with_reducible repeat (first | refine zq0 ?_ _ | refine zq2 ?_ | refine zq1 ?_ _)); exact BK102.out) hb); have n2_ := zq3 (zq10 (g := gb103) (o := .cells #[.int .u64 0, .int .u64 0, .int .u64 0, .bool false] 26 (0, 0)) (by (with_reducible repeat (first | refine zq0 ?_ _ | refine zq2 ?_ | refine zq1 ?_ _)); exact BK103.out) hb); have n3_ := zq3 (below_step (by repeat (first | (with_reducible first | exact HB.out | apply zq9 | apply zq7 | apply zq8 | refine zq6 ?_ GE101.out | refine zq6 ?_ GE102.out | refine zq6 ?_ GE103.out) | exact HB.out)) hb); clear BK101; clear BK102; clear BK103; clear HB; have BK101 := n0_; have BK102 := n1_; have BK103 := n2_; have HB := n3_; clear n0_ n1_ n2_ n3_; (try clear hb); (try clear hb2); (try clear hk); (try clear hi)))
      go_meet
      case rel => exact ⟨_, (decide (a3 < 0)), (by first | rfl | (simp; done) | (simp [*]; done)), H', ⟨by first | omega | exact Nat.le_refl _⟩, ⟨by (with_reducible repeat (first | refine zq0 ?_ _ | refine zq2 ?_ | refine zq1 ?_ _)); exact BK101.out⟩, ⟨by (with_reducible repeat (first | refine zq0 ?_ _ | refine zq2 ?_ | refine zq1 ?_ _)); exact BK102.out⟩, ⟨by (with_reducible repeat (first | refine zq0 ?_ _ | refine zq2 ?_ | refine zq1 ?_ _)); exact BK103.out⟩, ⟨by repeat (first | (with_reducible first | exact HB.out | apply zq9 | apply zq7 | apply zq8 | refine zq6 ?_ GE101.out | refine zq6 ?_ GE102.out | refine zq6 ?_ GE103.out) | exact HB.out)⟩⟩
    · rw [if_neg c11] at H
      have c11b0 : (t104 == 0) = false := beq_eq_false_iff_ne.mpr c11
      have c11b1 : (t104 != 0) = true := bne_iff_ne.mpr c11
      (first | rw [c11b0] | (simp only [i64_w, i32_w]; rw [c11b0]) | skip)
      have H' := zq3 H
      clear H
      have hnb16 := NB101_102.out
      have hnc16 := NB102_101.out
      have hnb17 := NB101_103.out
      have hnc17 := NB103_101.out
      have hcz18_0 : w9.cell? ⟨gb101, 0, none⟩ = some (.int .i64 a0_0) := (zq5 BK101.out 0).trans rfl
      have hcz18_1 : w9.cell? ⟨gb101, 1, none⟩ = some (.bool a0_1) := (zq5 BK101.out 1).trans rfl
      have hcz18_2 : w9.cell? ⟨gb101, 2, none⟩ = some (.int .u64 a0_2) := (zq5 BK101.out 2).trans rfl
      have hcz18_3 : w9.cell? ⟨gb101, 3, none⟩ = some (.int .u64 a0_3) := (zq5 BK101.out 3).trans rfl
      have hcz18_4 : w9.cell? ⟨gb101, 4, none⟩ = some (.int .u64 a0_4) := (zq5 BK101.out 4).trans rfl
      have hcz18_5 : w9.cell? ⟨gb101, 5, none⟩ = some (.int .u64 a0_5) := (zq5 BK101.out 5).trans rfl
      have hfz18_0 := zq4 BK101.out 0
      have hfz18_1 := zq4 BK101.out 1
      have hfz18_2 := zq4 BK101.out 2
      have hfz18_3 := zq4 BK101.out 3
      have hfz18_4 := zq4 BK101.out 4
      have hfz18_5 := zq4 BK101.out 5
      go_wp2_with (first | ((with_reducible refine gate_callee (f := 18) rfl ?_); refine goesL_ (some 19) rfl rfl Try.func18 (by kernel_rfl) rfl #[.agg #[.int .i64 a0_0, .bool a0_1, .int .u64 a0_2, .int .u64 a0_3, .int .u64 a0_4, .int .u64 a0_5]] rfl (by (try simp only [List.map_toArray, List.map_cons, List.map_nil]); first | done | rfl | (simp only [List.length_drop, List.length_take]; rfl)) ?_; (with_reducible refine (weighbridgeref27_Check.calls k a0_0 a0_1 a0_2 a0_3 a0_4 a0_5 t104 _ A10.out).mono ?_); rintro e w19 ⟨rfl, hb⟩; refine ⟨_, rfl, ?_⟩; have n0_ := zq3 (zq10 (g := gb101) (o := .cells #[.int .i64 a0_0, .bool a0_1, .int .u64 a0_2, .int .u64 a0_3, .int .u64 a0_4, .int .u64 a0_5] 24 (0, 0)) (by (with_reducible repeat (first | refine zq0 ?_ _ | refine zq2 ?_ | refine zq1 ?_ _)); exact BK101.out) hb); have n1_ := zq3 (zq10 (g := gb102) (o := .cells #[.int .u64 a1_0, .int .u64 a1_1, .int .u64 a1_2, .bool a1_3] 26 (0, 0)) (by (with_reducible repeat (first | refine zq0 ?_ _ | refine zq2 ?_ | refine zq1 ?_ _)); exact BK102.out) hb); have n2_ := zq3 (zq10 (g := gb103) (o := .cells #[.int .u64 0, .int .u64 0, .int .u64 0, .bool false] 26 (0, 0)) (by (with_reducible repeat (first | refine zq0 ?_ _ | refine zq2 ?_ | refine zq1 ?_ _)); exact BK103.out) hb); have n3_ := zq3 (below_step (by repeat (first | (with_reducible first | exact HB.out | apply zq9 | apply zq7 | apply zq8 | refine zq6 ?_ GE101.out | refine zq6 ?_ GE102.out | refine zq6 ?_ GE103.out) | exact HB.out)) hb); clear BK101; clear BK102; clear BK103; clear HB; have BK101 := n0_; have BK102 := n1_; have BK103 := n2_; have HB := n3_; clear n0_ n1_ n2_ n3_; (try clear hb); (try clear hb2); (try clear hk); (try clear hi)))
      go_meet
      case rel => exact ⟨_, (true), (by first | rfl | (simp; done) | (simp [*]; done)), H', ⟨by first | omega | exact Nat.le_refl _⟩, ⟨by (with_reducible repeat (first | refine zq0 ?_ _ | refine zq2 ?_ | refine zq1 ?_ _)); exact BK101.out⟩, ⟨by (with_reducible repeat (first | refine zq0 ?_ _ | refine zq2 ?_ | refine zq1 ?_ _)); exact BK102.out⟩, ⟨by (with_reducible repeat (first | refine zq0 ?_ _ | refine zq2 ?_ | refine zq1 ?_ _)); exact BK103.out⟩, ⟨by repeat (first | (with_reducible first | exact HB.out | apply zq9 | apply zq7 | apply zq8 | refine zq6 ?_ GE101.out | refine zq6 ?_ GE102.out | refine zq6 ?_ GE103.out) | exact HB.out)⟩⟩
  case rest =>
    clear HC6
    try clear c1
    try clear p2
    try clear c11
    try clear c11b0
    try clear c11b1
    try clear c12
    try clear c13
    try clear c15
    try clear c16
    try clear c17
    try clear c18
    try clear hcz14_0
    try clear hcz14_1
    try clear hcz14_2
    try clear hcz14_3
    try clear hcz14_4
    try clear hcz14_5
    try clear hcz18_0
    try clear hcz18_1
    try clear hcz18_2
    try clear hcz18_3
    try clear hcz18_4
    try clear hcz18_5
    try clear hfz14_0
    try clear hfz14_1
    try clear hfz14_2
    try clear hfz14_3
    try clear hfz14_4
    try clear hfz14_5
    try clear hfz18_0
    try clear hfz18_1
    try clear hfz18_2
    try clear hfz18_3
    try clear hfz18_4
    try clear hfz18_5
    obtain ⟨kq, x24_5, rfl, HA, HJ5, BK101, BK102, BK103, HB⟩ := hcut
    cases kq with
    | zero => exact absurd HA.out (by simp [weighbridgeref27_Step.j0])
    | succ kj5 =>
      have H := HA.out
      clear HA
      simp only [weighbridgeref27_Step.j0] at H
      by_cases c20 : x24_5 = true
      · subst c20
        have H1 : (some (a1_0, a1_1, a1_2, a1_3, 2)) = some (r1, r2, r3, r4, r5) := by rw [if_pos rfl] at H; exact H
        clear H
        have H := H1
        clear H1
        simp only [Option.some.injEq, Prod.mk.injEq] at H
        obtain ⟨rfl, rfl, rfl, rfl, rfl⟩ := H
        have hnb21 := NB102_101.out
        have hnc21 := NB101_102.out
        have hnb22 := NB102_103.out
        have hnc22 := NB103_102.out
        have hcz23_0 : wc.cell? ⟨gb102, 0, none⟩ = some (.int .u64 a1_0) := (zq5 BK102.out 0).trans rfl
        have hcz23_1 : wc.cell? ⟨gb102, 1, none⟩ = some (.int .u64 a1_1) := (zq5 BK102.out 1).trans rfl
        have hcz23_2 : wc.cell? ⟨gb102, 2, none⟩ = some (.int .u64 a1_2) := (zq5 BK102.out 2).trans rfl
        have hcz23_3 : wc.cell? ⟨gb102, 3, none⟩ = some (.bool a1_3) := (zq5 BK102.out 3).trans rfl
        have hfz23_0 := zq4 BK102.out 0
        have hfz23_1 := zq4 BK102.out 1
        have hfz23_2 := zq4 BK102.out 2
        have hfz23_3 := zq4 BK102.out 3
        have hnb24 := NB103_101.out
        have hnc24 := NB101_103.out
        have hcz25_0 : wc.cell? ⟨gb103, 0, none⟩ = some (.int .u64 0) := (zq5 BK103.out 0).trans rfl
        have hcz25_1 : wc.cell? ⟨gb103, 1, none⟩ = some (.int .u64 0) := (zq5 BK103.out 1).trans rfl
        have hcz25_2 : wc.cell? ⟨gb103, 2, none⟩ = some (.int .u64 0) := (zq5 BK103.out 2).trans rfl
        have hcz25_3 : wc.cell? ⟨gb103, 3, none⟩ = some (.bool false) := (zq5 BK103.out 3).trans rfl
        have hfz25_0 := zq4 BK103.out 0
        have hfz25_1 := zq4 BK103.out 1
        have hfz25_2 := zq4 BK103.out 2
        have hfz25_3 := zq4 BK103.out 3
        go_wp2
        refine bodyPost_ret (results_ct rfl _ _ gb103 26 #[.int .u64 a1_0, .int .u64 a1_1, .int .u64 a1_2, .bool a1_3] (0, 0) _ rfl (by (with_reducible repeat (first | refine zq0 ?_ _ | refine zq2 ?_ | refine zq1 ?_ _)); refine blk_put (cs := #[.int .u64 a1_0, .int .u64 a1_1, .int .u64 a1_2, .bool false]) ?_ 3 _ rfl; (with_reducible repeat (first | refine zq0 ?_ _ | refine zq2 ?_ | refine zq1 ?_ _)); refine blk_put (cs := #[.int .u64 a1_0, .int .u64 a1_1, .int .u64 0, .bool false]) ?_ 2 _ rfl; (with_reducible repeat (first | refine zq0 ?_ _ | refine zq2 ?_ | refine zq1 ?_ _)); refine blk_put (cs := #[.int .u64 a1_0, .int .u64 0, .int .u64 0, .bool false]) ?_ 1 _ rfl; (with_reducible repeat (first | refine zq0 ?_ _ | refine zq2 ?_ | refine zq1 ?_ _)); refine blk_put (cs := #[.int .u64 0, .int .u64 0, .int .u64 0, .bool false]) ?_ 0 _ rfl; (with_reducible repeat (first | refine zq0 ?_ _ | refine zq2 ?_ | refine zq1 ?_ _)); exact BK103.out) Try.underlying26 rfl (by kernel_rfl)) rfl ?_
        exact ⟨by first | rfl | (simp [errW_none, errW_some] <;> rfl) | (simp [*, errW_none, errW_some] <;> rfl), by repeat (first | (with_reducible first | exact HB.out | apply zq9 | apply zq7 | apply zq8 | refine zq6 ?_ GE101.out | refine zq6 ?_ GE102.out | refine zq6 ?_ GE103.out) | exact HB.out)⟩
      · replace c20 := Bool.eq_false_iff.mpr c20
        subst c20
        have H1 : ((weighbridgeref27_Later.f a0_0 a0_1 a0_2 a0_3 a0_4 a0_5 a1_0 a1_1 a1_2 a1_3 a2).bind fun bt105 => ((weighbridgeref26_Colour.f a0_1 a4).bind fun t110 => ((weighbridgeref24_Take.f bt105.2.1 a3).bind fun bt111 => ((weighbridgeref24_Take.f bt105.1 a3).bind fun bt113 => (if t110 = 2 then (weighbridgeref27_Step.j1 kj5 t110 bt111.1 bt113.1 bt113.2 true bt105.1 bt105.2.1 bt105.2.2.1 bt105.2.2.2) else (weighbridgeref27_Step.j1 kj5 t110 bt111.1 bt113.1 bt113.2 (!bt111.2) bt105.1 bt105.2.1 bt105.2.2.1 bt105.2.2.2)))))) = some (r1, r2, r3, r4, r5) := by rw [if_neg (show ¬ (false = true) by decide)] at H; exact H
        clear H
        have H := H1
        clear H1
        replace H := Option.bind_eq_some_iff.mp H
        obtain ⟨⟨t105, t106, t107, t108⟩, A260, H⟩ := H
        replace H : ((weighbridgeref26_Colour.f a0_1 a4).bind fun t110 => ((weighbridgeref24_Take.f t106 a3).bind fun bt111 => ((weighbridgeref24_Take.f t105 a3).bind fun bt113 => (if t110 = 2 then (weighbridgeref27_Step.j1 kj5 t110 bt111.1 bt113.1 bt113.2 true t105 t106 t107 t108) else (weighbridgeref27_Step.j1 kj5 t110 bt111.1 bt113.1 bt113.2 (!bt111.2) t105 t106 t107 t108))))) = some (r1, r2, r3, r4, r5) := H
        have A26 := zq3 A260
        clear A260
        replace H := Option.bind_eq_some_iff.mp H
        obtain ⟨t110, A270, H⟩ := H
        replace H : ((weighbridgeref24_Take.f t106 a3).bind fun bt111 => ((weighbridgeref24_Take.f t105 a3).bind fun bt113 => (if t110 = 2 then (weighbridgeref27_Step.j1 kj5 t110 bt111.1 bt113.1 bt113.2 true t105 t106 t107 t108) else (weighbridgeref27_Step.j1 kj5 t110 bt111.1 bt113.1 bt113.2 (!bt111.2) t105 t106 t107 t108)))) = some (r1, r2, r3, r4, r5) := H
        have A27 := zq3 A270
        clear A270
        replace H := Option.bind_eq_some_iff.mp H
        obtain ⟨⟨t111, t112⟩, A280, H⟩ := H
        replace H : ((weighbridgeref24_Take.f t105 a3).bind fun bt113 => (if t110 = 2 then (weighbridgeref27_Step.j1 kj5 t110 t111 bt113.1 bt113.2 true t105 t106 t107 t108) else (weighbridgeref27_Step.j1 kj5 t110 t111 bt113.1 bt113.2 (!t112) t105 t106 t107 t108))) = some (r1, r2, r3, r4, r5) := H
        have A28 := zq3 A280
        clear A280
        replace H := Option.bind_eq_some_iff.mp H
        obtain ⟨⟨t113, t114⟩, A290, H⟩ := H
        replace H : (if t110 = 2 then (weighbridgeref27_Step.j1 kj5 t110 t111 t113 t114 true t105 t106 t107 t108) else (weighbridgeref27_Step.j1 kj5 t110 t111 t113 t114 (!t112) t105 t106 t107 t108)) = some (r1, r2, r3, r4, r5) := H
        have A29 := zq3 A290
        clear A290
        have HC30 := zq3 H
        clear H
        have hnb31 := NB101_102.out
        have hnc31 := NB102_101.out
        have hnb32 := NB101_103.out
        have hnc32 := NB103_101.out
        have hcz33_0 : wc.cell? ⟨gb101, 0, none⟩ = some (.int .i64 a0_0) := (zq5 BK101.out 0).trans rfl
        have hcz33_1 : wc.cell? ⟨gb101, 1, none⟩ = some (.bool a0_1) := (zq5 BK101.out 1).trans rfl
        have hcz33_2 : wc.cell? ⟨gb101, 2, none⟩ = some (.int .u64 a0_2) := (zq5 BK101.out 2).trans rfl
        have hcz33_3 : wc.cell? ⟨gb101, 3, none⟩ = some (.int .u64 a0_3) := (zq5 BK101.out 3).trans rfl
        have hcz33_4 : wc.cell? ⟨gb101, 4, none⟩ = some (.int .u64 a0_4) := (zq5 BK101.out 4).trans rfl
        have hcz33_5 : wc.cell? ⟨gb101, 5, none⟩ = some (.int .u64 a0_5) := (zq5 BK101.out 5).trans rfl
        have hfz33_0 := zq4 BK101.out 0
        have hfz33_1 := zq4 BK101.out 1
        have hfz33_2 := zq4 BK101.out 2
        have hfz33_3 := zq4 BK101.out 3
        have hfz33_4 := zq4 BK101.out 4
        have hfz33_5 := zq4 BK101.out 5
        have hnb34 := NB102_103.out
        have hnc34 := NB103_102.out
        have hcz35_0 : wc.cell? ⟨gb102, 0, none⟩ = some (.int .u64 a1_0) := (zq5 BK102.out 0).trans rfl
        have hcz35_1 : wc.cell? ⟨gb102, 1, none⟩ = some (.int .u64 a1_1) := (zq5 BK102.out 1).trans rfl
        have hcz35_2 : wc.cell? ⟨gb102, 2, none⟩ = some (.int .u64 a1_2) := (zq5 BK102.out 2).trans rfl
        have hcz35_3 : wc.cell? ⟨gb102, 3, none⟩ = some (.bool a1_3) := (zq5 BK102.out 3).trans rfl
        have hfz35_0 := zq4 BK102.out 0
        have hfz35_1 := zq4 BK102.out 1
        have hfz35_2 := zq4 BK102.out 2
        have hfz35_3 := zq4 BK102.out 3
        go_upto_region 7 with (first | ((with_reducible refine gate_callee (f := 34) rfl ?_); refine goesL_ (some 29) rfl rfl Try.func34 (by kernel_rfl) rfl #[.agg #[.int .i64 a0_0, .bool a0_1, .int .u64 a0_2, .int .u64 a0_3, .int .u64 a0_4, .int .u64 a0_5], .agg #[.int .u64 a1_0, .int .u64 a1_1, .int .u64 a1_2, .bool a1_3], .int .u64 a2] rfl (by (try simp only [List.map_toArray, List.map_cons, List.map_nil]); first | done | rfl | (simp only [List.length_drop, List.length_take]; rfl)) ?_; (with_reducible refine (weighbridgeref27_Later.calls a0_0 a0_1 a0_2 a0_3 a0_4 a0_5 a1_0 a1_1 a1_2 a1_3 a2 t105 t106 t107 t108 _ A26.out).mono ?_); rintro e w36 ⟨rfl, hb⟩; refine ⟨_, rfl, ?_⟩; have n0_ := zq3 (zq10 (g := gb101) (o := .cells #[.int .i64 a0_0, .bool a0_1, .int .u64 a0_2, .int .u64 a0_3, .int .u64 a0_4, .int .u64 a0_5] 24 (0, 0)) (by (with_reducible repeat (first | refine zq0 ?_ _ | refine zq2 ?_ | refine zq1 ?_ _)); exact BK101.out) hb); have n1_ := zq3 (zq10 (g := gb102) (o := .cells #[.int .u64 a1_0, .int .u64 a1_1, .int .u64 a1_2, .bool a1_3] 26 (0, 0)) (by (with_reducible repeat (first | refine zq0 ?_ _ | refine zq2 ?_ | refine zq1 ?_ _)); exact BK102.out) hb); have n2_ := zq3 (zq10 (g := gb103) (o := .cells #[.int .u64 0, .int .u64 0, .int .u64 0, .bool false] 26 (0, 0)) (by (with_reducible repeat (first | refine zq0 ?_ _ | refine zq2 ?_ | refine zq1 ?_ _)); exact BK103.out) hb); have n3_ := zq3 (below_step (by repeat (first | (with_reducible first | exact HB.out | apply zq9 | apply zq7 | apply zq8 | refine zq6 ?_ GE101.out | refine zq6 ?_ GE102.out | refine zq6 ?_ GE103.out) | exact HB.out)) hb); clear BK101; clear BK102; clear BK103; clear HB; have BK101 := n0_; have BK102 := n1_; have BK103 := n2_; have HB := n3_; clear n0_ n1_ n2_ n3_; (try clear hb); (try clear hb2); (try clear hk); (try clear hi)) | ((with_reducible refine gate_dst (N := 12) rfl ?_); refine box_event ?hg (N := 12) ?hd (cs := #[.int .u64 0, .int .u64 0, .int .u64 0, .bool false]) (t := 26) ?hr ?_; (case hd => rfl); (case hg => rfl); (case hr => first | (go_simp; done) | (go_simp; rfl)); intro gb109 hg w37 hbox hb; have n0_ := zq3 (zq10 (g := gb101) (o := .cells #[.int .i64 a0_0, .bool a0_1, .int .u64 a0_2, .int .u64 a0_3, .int .u64 a0_4, .int .u64 a0_5] 24 (0, 0)) (by (with_reducible repeat (first | refine zq0 ?_ _ | refine zq2 ?_ | refine zq1 ?_ _)); exact BK101.out) hb); have n1_ := zq3 (zq10 (g := gb102) (o := .cells #[.int .u64 a1_0, .int .u64 a1_1, .int .u64 a1_2, .bool a1_3] 26 (0, 0)) (by (with_reducible repeat (first | refine zq0 ?_ _ | refine zq2 ?_ | refine zq1 ?_ _)); exact BK102.out) hb); have n2_ := zq3 (zq10 (g := gb103) (o := .cells #[.int .u64 0, .int .u64 0, .int .u64 0, .bool false] 26 (0, 0)) (by (with_reducible repeat (first | refine zq0 ?_ _ | refine zq2 ?_ | refine zq1 ?_ _)); exact BK103.out) hb); have n3_ := zq3 (below_step (by repeat (first | (with_reducible first | exact HB.out | apply zq9 | apply zq7 | apply zq8 | refine zq6 ?_ GE101.out | refine zq6 ?_ GE102.out | refine zq6 ?_ GE103.out) | exact HB.out)) hb); have n4_ := zq3 (hbox); have n5_ := zq3 ((by rw [hg]; exact (below_size (by repeat (first | (with_reducible first | exact HB.out | apply zq9 | apply zq7 | apply zq8 | refine zq6 ?_ GE101.out | refine zq6 ?_ GE102.out | refine zq6 ?_ GE103.out) | exact HB.out))) : w.heap.size ≤ gb109)); have n6_ := zq3 ((by rw [hg]; exact (below_size (by repeat (first | (with_reducible first | exact HB.out | apply zq9 | apply zq7 | apply zq8 | refine zq6 ?_ GE101.out | refine zq6 ?_ GE102.out | refine zq6 ?_ GE103.out) | exact HB.out))) : w.heap.size ≤ gb109)); have n7_ := zq3 ((by rw [hg]; exact Nat.ne_of_lt (blk_lt (g := gb101) (o := .cells #[.int .i64 a0_0, .bool a0_1, .int .u64 a0_2, .int .u64 a0_3, .int .u64 a0_4, .int .u64 a0_5] 24 (0, 0)) (by (with_reducible repeat (first | refine zq0 ?_ _ | refine zq2 ?_ | refine zq1 ?_ _)); exact BK101.out)) : gb101 ≠ gb109)); have n8_ := zq3 ((by rw [hg]; exact Nat.ne_of_gt (blk_lt (g := gb101) (o := .cells #[.int .i64 a0_0, .bool a0_1, .int .u64 a0_2, .int .u64 a0_3, .int .u64 a0_4, .int .u64 a0_5] 24 (0, 0)) (by (with_reducible repeat (first | refine zq0 ?_ _ | refine zq2 ?_ | refine zq1 ?_ _)); exact BK101.out)) : gb109 ≠ gb101)); have n9_ := zq3 ((by rw [hg]; exact Nat.ne_of_lt (blk_lt (g := gb102) (o := .cells #[.int .u64 a1_0, .int .u64 a1_1, .int .u64 a1_2, .bool a1_3] 26 (0, 0)) (by (with_reducible repeat (first | refine zq0 ?_ _ | refine zq2 ?_ | refine zq1 ?_ _)); exact BK102.out)) : gb102 ≠ gb109)); have n10_ := zq3 ((by rw [hg]; exact Nat.ne_of_gt (blk_lt (g := gb102) (o := .cells #[.int .u64 a1_0, .int .u64 a1_1, .int .u64 a1_2, .bool a1_3] 26 (0, 0)) (by (with_reducible repeat (first | refine zq0 ?_ _ | refine zq2 ?_ | refine zq1 ?_ _)); exact BK102.out)) : gb109 ≠ gb102)); have n11_ := zq3 ((by rw [hg]; exact Nat.ne_of_lt (blk_lt (g := gb103) (o := .cells #[.int .u64 0, .int .u64 0, .int .u64 0, .bool false] 26 (0, 0)) (by (with_reducible repeat (first | refine zq0 ?_ _ | refine zq2 ?_ | refine zq1 ?_ _)); exact BK103.out)) : gb103 ≠ gb109)); have n12_ := zq3 ((by rw [hg]; exact Nat.ne_of_gt (blk_lt (g := gb103) (o := .cells #[.int .u64 0, .int .u64 0, .int .u64 0, .bool false] 26 (0, 0)) (by (with_reducible repeat (first | refine zq0 ?_ _ | refine zq2 ?_ | refine zq1 ?_ _)); exact BK103.out)) : gb109 ≠ gb103)); clear BK101; clear BK102; clear BK103; clear HB; have BK101 := n0_; have BK102 := n1_; have BK103 := n2_; have HB := n3_; have BK109 := n4_; have GW109 := n5_; have GE109 := n6_; have NB101_109 := n7_; have NB109_101 := n8_; have NB102_109 := n9_; have NB109_102 := n10_; have NB103_109 := n11_; have NB109_103 := n12_; clear n0_ n1_ n2_ n3_ n4_ n5_ n6_ n7_ n8_ n9_ n10_ n11_ n12_; clear hb hbox hg; have hnb38 := NB109_101.out; have hnc38 := NB101_109.out; have hnb39 := NB109_102.out; have hnc39 := NB102_109.out; have hnb40 := NB109_103.out; have hnc40 := NB103_109.out; have hcz41_0 : w37.cell? ⟨gb109, 0, none⟩ = some (.int .u64 0) := (zq5 BK109.out 0).trans rfl; have hcz41_1 : w37.cell? ⟨gb109, 1, none⟩ = some (.int .u64 0) := (zq5 BK109.out 1).trans rfl; have hcz41_2 : w37.cell? ⟨gb109, 2, none⟩ = some (.int .u64 0) := (zq5 BK109.out 2).trans rfl; have hcz41_3 : w37.cell? ⟨gb109, 3, none⟩ = some (.bool false) := (zq5 BK109.out 3).trans rfl; have hfz41_0 := zq4 BK109.out 0; have hfz41_1 := zq4 BK109.out 1; have hfz41_2 := zq4 BK109.out 2; have hfz41_3 := zq4 BK109.out 3; have hcz42_0 : w37.cell? ⟨gb101, 0, none⟩ = some (.int .i64 a0_0) := (zq5 BK101.out 0).trans rfl; have hcz42_1 : w37.cell? ⟨gb101, 1, none⟩ = some (.bool a0_1) := (zq5 BK101.out 1).trans rfl; have hcz42_2 : w37.cell? ⟨gb101, 2, none⟩ = some (.int .u64 a0_2) := (zq5 BK101.out 2).trans rfl; have hcz42_3 : w37.cell? ⟨gb101, 3, none⟩ = some (.int .u64 a0_3) := (zq5 BK101.out 3).trans rfl; have hcz42_4 : w37.cell? ⟨gb101, 4, none⟩ = some (.int .u64 a0_4) := (zq5 BK101.out 4).trans rfl; have hcz42_5 : w37.cell? ⟨gb101, 5, none⟩ = some (.int .u64 a0_5) := (zq5 BK101.out 5).trans rfl; have hfz42_0 := zq4 BK101.out 0; have hfz42_1 := zq4 BK101.out 1; have hfz42_2 := zq4 BK101.out 2; have hfz42_3 := zq4 BK101.out 3; have hfz42_4 := zq4 BK101.out 4; have hfz42_5 := zq4 BK101.out 5) | ((with_reducible refine gate_callee (f := 35) rfl ?_); refine goesL_ (some 33) rfl rfl Try.func35 (by kernel_rfl) rfl #[.bool a0_1, .int .i64 a4] rfl (by (try simp only [List.map_toArray, List.map_cons, List.map_nil]); first | done | rfl | (simp only [List.length_drop, List.length_take]; rfl)) ?_; (with_reducible refine (weighbridgeref26_Colour.calls a0_1 a4 t110 _ A27.out).mono ?_); rintro e w43 ⟨rfl, hb⟩; refine ⟨_, rfl, ?_⟩; have n0_ := zq3 (zq10 (g := gb101) (o := .cells #[.int .i64 a0_0, .bool a0_1, .int .u64 a0_2, .int .u64 a0_3, .int .u64 a0_4, .int .u64 a0_5] 24 (0, 0)) (by (with_reducible repeat (first | refine zq0 ?_ _ | refine zq2 ?_ | refine zq1 ?_ _)); refine zq11 ?_ NB101_109.out _; (with_reducible repeat (first | refine zq0 ?_ _ | refine zq2 ?_ | refine zq1 ?_ _)); refine zq11 ?_ NB101_109.out _; (with_reducible repeat (first | refine zq0 ?_ _ | refine zq2 ?_ | refine zq1 ?_ _)); refine zq11 ?_ NB101_109.out _; (with_reducible repeat (first | refine zq0 ?_ _ | refine zq2 ?_ | refine zq1 ?_ _)); refine zq11 ?_ NB101_109.out _; (with_reducible repeat (first | refine zq0 ?_ _ | refine zq2 ?_ | refine zq1 ?_ _)); exact BK101.out) hb); have n1_ := zq3 (zq10 (g := gb102) (o := .cells #[.int .u64 a1_0, .int .u64 a1_1, .int .u64 a1_2, .bool a1_3] 26 (0, 0)) (by (with_reducible repeat (first | refine zq0 ?_ _ | refine zq2 ?_ | refine zq1 ?_ _)); refine zq11 ?_ NB102_109.out _; (with_reducible repeat (first | refine zq0 ?_ _ | refine zq2 ?_ | refine zq1 ?_ _)); refine zq11 ?_ NB102_109.out _; (with_reducible repeat (first | refine zq0 ?_ _ | refine zq2 ?_ | refine zq1 ?_ _)); refine zq11 ?_ NB102_109.out _; (with_reducible repeat (first | refine zq0 ?_ _ | refine zq2 ?_ | refine zq1 ?_ _)); refine zq11 ?_ NB102_109.out _; (with_reducible repeat (first | refine zq0 ?_ _ | refine zq2 ?_ | refine zq1 ?_ _)); exact BK102.out) hb); have n2_ := zq3 (zq10 (g := gb103) (o := .cells #[.int .u64 0, .int .u64 0, .int .u64 0, .bool false] 26 (0, 0)) (by (with_reducible repeat (first | refine zq0 ?_ _ | refine zq2 ?_ | refine zq1 ?_ _)); refine zq11 ?_ NB103_109.out _; (with_reducible repeat (first | refine zq0 ?_ _ | refine zq2 ?_ | refine zq1 ?_ _)); refine zq11 ?_ NB103_109.out _; (with_reducible repeat (first | refine zq0 ?_ _ | refine zq2 ?_ | refine zq1 ?_ _)); refine zq11 ?_ NB103_109.out _; (with_reducible repeat (first | refine zq0 ?_ _ | refine zq2 ?_ | refine zq1 ?_ _)); refine zq11 ?_ NB103_109.out _; (with_reducible repeat (first | refine zq0 ?_ _ | refine zq2 ?_ | refine zq1 ?_ _)); exact BK103.out) hb); have n3_ := zq3 (zq10 (g := gb109) (o := .cells #[.int .u64 t105, .int .u64 t106, .int .u64 t107, .bool t108] 26 (0, 0)) (by (with_reducible repeat (first | refine zq0 ?_ _ | refine zq2 ?_ | refine zq1 ?_ _)); refine blk_put (cs := #[.int .u64 t105, .int .u64 t106, .int .u64 t107, .bool false]) ?_ 3 _ rfl; (with_reducible repeat (first | refine zq0 ?_ _ | refine zq2 ?_ | refine zq1 ?_ _)); refine blk_put (cs := #[.int .u64 t105, .int .u64 t106, .int .u64 0, .bool false]) ?_ 2 _ rfl; (with_reducible repeat (first | refine zq0 ?_ _ | refine zq2 ?_ | refine zq1 ?_ _)); refine blk_put (cs := #[.int .u64 t105, .int .u64 0, .int .u64 0, .bool false]) ?_ 1 _ rfl; (with_reducible repeat (first | refine zq0 ?_ _ | refine zq2 ?_ | refine zq1 ?_ _)); refine blk_put (cs := #[.int .u64 0, .int .u64 0, .int .u64 0, .bool false]) ?_ 0 _ rfl; (with_reducible repeat (first | refine zq0 ?_ _ | refine zq2 ?_ | refine zq1 ?_ _)); exact BK109.out) hb); have n4_ := zq3 (below_step (by repeat (first | (with_reducible first | exact HB.out | apply zq9 | apply zq7 | apply zq8 | refine zq6 ?_ GE101.out | refine zq6 ?_ GE102.out | refine zq6 ?_ GE103.out | refine zq6 ?_ GE109.out) | exact HB.out)) hb); clear BK101; clear BK102; clear BK103; clear BK109; clear HB; have BK101 := n0_; have BK102 := n1_; have BK103 := n2_; have BK109 := n3_; have HB := n4_; clear n0_ n1_ n2_ n3_ n4_; (try clear hb); (try clear hb2); (try clear hk); (try clear hi); have hcz44_0 : w43.cell? ⟨gb109, 0, none⟩ = some (.int .u64 t105) := (zq5 BK109.out 0).trans rfl; have hcz44_1 : w43.cell? ⟨gb109, 1, none⟩ = some (.int .u64 t106) := (zq5 BK109.out 1).trans rfl; have hcz44_2 : w43.cell? ⟨gb109, 2, none⟩ = some (.int .u64 t107) := (zq5 BK109.out 2).trans rfl; have hcz44_3 : w43.cell? ⟨gb109, 3, none⟩ = some (.bool t108) := (zq5 BK109.out 3).trans rfl; have hfz44_0 := zq4 BK109.out 0; have hfz44_1 := zq4 BK109.out 1; have hfz44_2 := zq4 BK109.out 2; have hfz44_3 := zq4 BK109.out 3) | ((with_reducible refine gate_callee (f := 36) rfl ?_); refine goesL_ (some 38) rfl rfl Try.func36 (by kernel_rfl) rfl #[.int .u64 t106, .int .i64 a3] rfl (by (try simp only [List.map_toArray, List.map_cons, List.map_nil]); first | done | rfl | (simp only [List.length_drop, List.length_take]; rfl)) ?_; (with_reducible refine (weighbridgeref24_Take.calls t106 a3 t111 t112 _ A28.out).mono ?_); rintro e w45 ⟨rfl, hb⟩; refine ⟨_, rfl, ?_⟩; have n0_ := zq3 (zq10 (g := gb101) (o := .cells #[.int .i64 a0_0, .bool a0_1, .int .u64 a0_2, .int .u64 a0_3, .int .u64 a0_4, .int .u64 a0_5] 24 (0, 0)) (by (with_reducible repeat (first | refine zq0 ?_ _ | refine zq2 ?_ | refine zq1 ?_ _)); exact BK101.out) hb); have n1_ := zq3 (zq10 (g := gb102) (o := .cells #[.int .u64 a1_0, .int .u64 a1_1, .int .u64 a1_2, .bool a1_3] 26 (0, 0)) (by (with_reducible repeat (first | refine zq0 ?_ _ | refine zq2 ?_ | refine zq1 ?_ _)); exact BK102.out) hb); have n2_ := zq3 (zq10 (g := gb103) (o := .cells #[.int .u64 0, .int .u64 0, .int .u64 0, .bool false] 26 (0, 0)) (by (with_reducible repeat (first | refine zq0 ?_ _ | refine zq2 ?_ | refine zq1 ?_ _)); exact BK103.out) hb); have n3_ := zq3 (zq10 (g := gb109) (o := .cells #[.int .u64 t105, .int .u64 t106, .int .u64 t107, .bool t108] 26 (0, 0)) (by (with_reducible repeat (first | refine zq0 ?_ _ | refine zq2 ?_ | refine zq1 ?_ _)); exact BK109.out) hb); have n4_ := zq3 (below_step (by repeat (first | (with_reducible first | exact HB.out | apply zq9 | apply zq7 | apply zq8 | refine zq6 ?_ GE101.out | refine zq6 ?_ GE102.out | refine zq6 ?_ GE103.out | refine zq6 ?_ GE109.out) | exact HB.out)) hb); clear BK101; clear BK102; clear BK103; clear BK109; clear HB; have BK101 := n0_; have BK102 := n1_; have BK103 := n2_; have BK109 := n3_; have HB := n4_; clear n0_ n1_ n2_ n3_ n4_; (try clear hb); (try clear hb2); (try clear hk); (try clear hi); have hcz46_0 : w45.cell? ⟨gb109, 0, none⟩ = some (.int .u64 t105) := (zq5 BK109.out 0).trans rfl; have hcz46_1 : w45.cell? ⟨gb109, 1, none⟩ = some (.int .u64 t106) := (zq5 BK109.out 1).trans rfl; have hcz46_2 : w45.cell? ⟨gb109, 2, none⟩ = some (.int .u64 t107) := (zq5 BK109.out 2).trans rfl; have hcz46_3 : w45.cell? ⟨gb109, 3, none⟩ = some (.bool t108) := (zq5 BK109.out 3).trans rfl; have hfz46_0 := zq4 BK109.out 0; have hfz46_1 := zq4 BK109.out 1; have hfz46_2 := zq4 BK109.out 2; have hfz46_3 := zq4 BK109.out 3) | ((with_reducible refine gate_callee (f := 36) rfl ?_); refine goesL_ (some 45) rfl rfl Try.func36 (by kernel_rfl) rfl #[.int .u64 t105, .int .i64 a3] rfl (by (try simp only [List.map_toArray, List.map_cons, List.map_nil]); first | done | rfl | (simp only [List.length_drop, List.length_take]; rfl)) ?_; (with_reducible refine (weighbridgeref24_Take.calls t105 a3 t113 t114 _ A29.out).mono ?_); rintro e w47 ⟨rfl, hb⟩; refine ⟨_, rfl, ?_⟩; have n0_ := zq3 (zq10 (g := gb101) (o := .cells #[.int .i64 a0_0, .bool a0_1, .int .u64 a0_2, .int .u64 a0_3, .int .u64 a0_4, .int .u64 a0_5] 24 (0, 0)) (by (with_reducible repeat (first | refine zq0 ?_ _ | refine zq2 ?_ | refine zq1 ?_ _)); exact BK101.out) hb); have n1_ := zq3 (zq10 (g := gb102) (o := .cells #[.int .u64 a1_0, .int .u64 a1_1, .int .u64 a1_2, .bool a1_3] 26 (0, 0)) (by (with_reducible repeat (first | refine zq0 ?_ _ | refine zq2 ?_ | refine zq1 ?_ _)); exact BK102.out) hb); have n2_ := zq3 (zq10 (g := gb103) (o := .cells #[.int .u64 0, .int .u64 0, .int .u64 0, .bool false] 26 (0, 0)) (by (with_reducible repeat (first | refine zq0 ?_ _ | refine zq2 ?_ | refine zq1 ?_ _)); exact BK103.out) hb); have n3_ := zq3 (zq10 (g := gb109) (o := .cells #[.int .u64 t105, .int .u64 t106, .int .u64 t107, .bool t108] 26 (0, 0)) (by (with_reducible repeat (first | refine zq0 ?_ _ | refine zq2 ?_ | refine zq1 ?_ _)); exact BK109.out) hb); have n4_ := zq3 (below_step (by repeat (first | (with_reducible first | exact HB.out | apply zq9 | apply zq7 | apply zq8 | refine zq6 ?_ GE101.out | refine zq6 ?_ GE102.out | refine zq6 ?_ GE103.out | refine zq6 ?_ GE109.out) | exact HB.out)) hb); clear BK101; clear BK102; clear BK103; clear BK109; clear HB; have BK101 := n0_; have BK102 := n1_; have BK103 := n2_; have BK109 := n3_; have HB := n4_; clear n0_ n1_ n2_ n3_ n4_; (try clear hb); (try clear hb2); (try clear hk); (try clear hi)))
        (try simp only [Act.put, List.setIfInBounds_toArray, List.set_cons_zero, List.set_cons_succ])
        go_cut [53] (fun v53 wc => ∃ (kq : Nat) (x53_29 : Bool), v53 = .bool x53_29 ∧ Aside0 (weighbridgeref27_Step.j1 kq t110 t111 t113 t114 x53_29 t105 t106 t107 t108 = some (r1, r2, r3, r4, r5)) ∧ Aside0 (kq ≤ kj5) ∧ Aside0 (wc.heap[gb101]? = some (.cells #[.int .i64 a0_0, .bool a0_1, .int .u64 a0_2, .int .u64 a0_3, .int .u64 a0_4, .int .u64 a0_5] 24 (0, 0))) ∧ Aside0 (wc.heap[gb102]? = some (.cells #[.int .u64 a1_0, .int .u64 a1_1, .int .u64 a1_2, .bool a1_3] 26 (0, 0))) ∧ Aside0 (wc.heap[gb103]? = some (.cells #[.int .u64 0, .int .u64 0, .int .u64 0, .bool false] 26 (0, 0))) ∧ Aside0 (wc.heap[gb109]? = some (.cells #[.int .u64 t105, .int .u64 t106, .int .u64 t107, .bool t108] 26 (0, 0))) ∧ Aside0 (Below w.heap.size w wc))
        case first =>
          have H := HC30.out
          clear HC30
          by_cases c48 : t110 = 2
          · rw [if_pos c48] at H
            have c48b0 : (t110 == 2) = true := beq_iff_eq.mpr c48
            have c48b1 : (t110 != 2) = false := bne_eq_false_iff_eq.mpr c48
            clear c48
            (first | rw [c48b0] | (simp only [i64_w, i32_w]; rw [c48b0]) | skip)
            have H' := zq3 H
            clear H
            go_wp2
            go_meet
            case rel => exact ⟨_, (true), (by first | rfl | (simp; done) | (simp [*]; done)), H', ⟨by have := HJ5.out; first | omega | exact Nat.le_refl _⟩, ⟨by (with_reducible repeat (first | refine zq0 ?_ _ | refine zq2 ?_ | refine zq1 ?_ _)); exact BK101.out⟩, ⟨by (with_reducible repeat (first | refine zq0 ?_ _ | refine zq2 ?_ | refine zq1 ?_ _)); exact BK102.out⟩, ⟨by (with_reducible repeat (first | refine zq0 ?_ _ | refine zq2 ?_ | refine zq1 ?_ _)); exact BK103.out⟩, ⟨by (with_reducible repeat (first | refine zq0 ?_ _ | refine zq2 ?_ | refine zq1 ?_ _)); exact BK109.out⟩, ⟨by repeat (first | (with_reducible first | exact HB.out | apply zq9 | apply zq7 | apply zq8 | refine zq6 ?_ GE101.out | refine zq6 ?_ GE102.out | refine zq6 ?_ GE103.out | refine zq6 ?_ GE109.out) | exact HB.out)⟩⟩
          · rw [if_neg c48] at H
            have c48b0 : (t110 == 2) = false := beq_eq_false_iff_ne.mpr c48
            have c48b1 : (t110 != 2) = true := bne_iff_ne.mpr c48
            (first | rw [c48b0] | (simp only [i64_w, i32_w]; rw [c48b0]) | skip)
            have H' := zq3 H
            clear H
            go_wp2
            go_meet
            case rel => exact ⟨_, (!t112), (by first | rfl | (simp; done) | (simp [*]; done)), H', ⟨by have := HJ5.out; first | omega | exact Nat.le_refl _⟩, ⟨by (with_reducible repeat (first | refine zq0 ?_ _ | refine zq2 ?_ | refine zq1 ?_ _)); exact BK101.out⟩, ⟨by (with_reducible repeat (first | refine zq0 ?_ _ | refine zq2 ?_ | refine zq1 ?_ _)); exact BK102.out⟩, ⟨by (with_reducible repeat (first | refine zq0 ?_ _ | refine zq2 ?_ | refine zq1 ?_ _)); exact BK103.out⟩, ⟨by (with_reducible repeat (first | refine zq0 ?_ _ | refine zq2 ?_ | refine zq1 ?_ _)); exact BK109.out⟩, ⟨by repeat (first | (with_reducible first | exact HB.out | apply zq9 | apply zq7 | apply zq8 | refine zq6 ?_ GE101.out | refine zq6 ?_ GE102.out | refine zq6 ?_ GE103.out | refine zq6 ?_ GE109.out) | exact HB.out)⟩⟩
        case rest =>
          clear HC30
          try clear c1
          try clear c2
          try clear p2
          try clear c3
          try clear c4
          try clear c11
          try clear c11b0
          try clear c11b1
          try clear c12
          try clear c13
          try clear c15
          try clear c16
          try clear c17
          try clear c18
          try clear c20
          try clear c21
          try clear c22
          try clear c24
          try clear c31
          try clear c32
          try clear c34
          try clear c35
          try clear c36
          try clear c38
          try clear c39
          try clear c40
          try clear c48
          try clear c48b0
          try clear c48b1
          try clear hcz14_0
          try clear hcz14_1
          try clear hcz14_2
          try clear hcz14_3
          try clear hcz14_4
          try clear hcz14_5
          try clear hcz18_0
          try clear hcz18_1
          try clear hcz18_2
          try clear hcz18_3
          try clear hcz18_4
          try clear hcz18_5
          try clear hcz23_0
          try clear hcz23_1
          try clear hcz23_2
          try clear hcz23_3
          try clear hcz25_0
          try clear hcz25_1
          try clear hcz25_2
          try clear hcz25_3
          try clear hcz33_0
          try clear hcz33_1
          try clear hcz33_2
          try clear hcz33_3
          try clear hcz33_4
          try clear hcz33_5
          try clear hcz35_0
          try clear hcz35_1
          try clear hcz35_2
          try clear hcz35_3
          try clear hcz41_0
          try clear hcz41_1
          try clear hcz41_2
          try clear hcz41_3
          try clear hcz42_0
          try clear hcz42_1
          try clear hcz42_2
          try clear hcz42_3
          try clear hcz42_4
          try clear hcz42_5
          try clear hcz44_0
          try clear hcz44_1
          try clear hcz44_2
          try clear hcz44_3
          try clear hcz46_0
          try clear hcz46_1
          try clear hcz46_2
          try clear hcz46_3
          try clear hfz14_0
          try clear hfz14_1
          try clear hfz14_2
          try clear hfz14_3
          try clear hfz14_4
          try clear hfz14_5
          try clear hfz18_0
          try clear hfz18_1
          try clear hfz18_2
          try clear hfz18_3
          try clear hfz18_4
          try clear hfz18_5
          try clear hfz23_0
          try clear hfz23_1
          try clear hfz23_2
          try clear hfz23_3
          try clear hfz25_0
          try clear hfz25_1
          try clear hfz25_2
          try clear hfz25_3
          try clear hfz33_0
          try clear hfz33_1
          try clear hfz33_2
          try clear hfz33_3
          try clear hfz33_4
          try clear hfz33_5
          try clear hfz35_0
          try clear hfz35_1
          try clear hfz35_2
          try clear hfz35_3
          try clear hfz41_0
          try clear hfz41_1
          try clear hfz41_2
          try clear hfz41_3
          try clear hfz42_0
          try clear hfz42_1
          try clear hfz42_2
          try clear hfz42_3
          try clear hfz42_4
          try clear hfz42_5
          try clear hfz44_0
          try clear hfz44_1
          try clear hfz44_2
          try clear hfz44_3
          try clear hfz46_0
          try clear hfz46_1
          try clear hfz46_2
          try clear hfz46_3
          try clear p2
          obtain ⟨kq, x53_29, rfl, HA, HJ29, BK101, BK102, BK103, BK109, HB⟩ := hcut
          cases kq with
          | zero => exact absurd HA.out (by simp [weighbridgeref27_Step.j1])
          | succ kj29 =>
            have H := HA.out
            clear HA
            simp only [weighbridgeref27_Step.j1] at H
            by_cases c49 : x53_29 = true
            · subst c49
              have H1 : (some (t105, t106, t107, t108, 2)) = some (r1, r2, r3, r4, r5) := by rw [if_pos rfl] at H; exact H
              clear H
              have H := H1
              clear H1
              simp only [Option.some.injEq, Prod.mk.injEq] at H
              obtain ⟨rfl, rfl, rfl, rfl, rfl⟩ := H
              have hnb50 := NB109_101.out
              have hnc50 := NB101_109.out
              have hnb51 := NB109_102.out
              have hnc51 := NB102_109.out
              have hnb52 := NB109_103.out
              have hnc52 := NB103_109.out
              have hcz53_0 : wc.cell? ⟨gb109, 0, none⟩ = some (.int .u64 t105) := (zq5 BK109.out 0).trans rfl
              have hcz53_1 : wc.cell? ⟨gb109, 1, none⟩ = some (.int .u64 t106) := (zq5 BK109.out 1).trans rfl
              have hcz53_2 : wc.cell? ⟨gb109, 2, none⟩ = some (.int .u64 t107) := (zq5 BK109.out 2).trans rfl
              have hcz53_3 : wc.cell? ⟨gb109, 3, none⟩ = some (.bool t108) := (zq5 BK109.out 3).trans rfl
              have hfz53_0 := zq4 BK109.out 0
              have hfz53_1 := zq4 BK109.out 1
              have hfz53_2 := zq4 BK109.out 2
              have hfz53_3 := zq4 BK109.out 3
              have hnb54 := NB103_101.out
              have hnc54 := NB101_103.out
              have hnb55 := NB103_102.out
              have hnc55 := NB102_103.out
              have hcz56_0 : wc.cell? ⟨gb103, 0, none⟩ = some (.int .u64 0) := (zq5 BK103.out 0).trans rfl
              have hcz56_1 : wc.cell? ⟨gb103, 1, none⟩ = some (.int .u64 0) := (zq5 BK103.out 1).trans rfl
              have hcz56_2 : wc.cell? ⟨gb103, 2, none⟩ = some (.int .u64 0) := (zq5 BK103.out 2).trans rfl
              have hcz56_3 : wc.cell? ⟨gb103, 3, none⟩ = some (.bool false) := (zq5 BK103.out 3).trans rfl
              have hfz56_0 := zq4 BK103.out 0
              have hfz56_1 := zq4 BK103.out 1
              have hfz56_2 := zq4 BK103.out 2
              have hfz56_3 := zq4 BK103.out 3
              go_wp2
              refine bodyPost_ret (results_ct rfl _ _ gb103 26 #[.int .u64 t105, .int .u64 t106, .int .u64 t107, .bool t108] (0, 0) _ rfl (by (with_reducible repeat (first | refine zq0 ?_ _ | refine zq2 ?_ | refine zq1 ?_ _)); refine blk_put (cs := #[.int .u64 t105, .int .u64 t106, .int .u64 t107, .bool false]) ?_ 3 _ rfl; (with_reducible repeat (first | refine zq0 ?_ _ | refine zq2 ?_ | refine zq1 ?_ _)); refine blk_put (cs := #[.int .u64 t105, .int .u64 t106, .int .u64 0, .bool false]) ?_ 2 _ rfl; (with_reducible repeat (first | refine zq0 ?_ _ | refine zq2 ?_ | refine zq1 ?_ _)); refine blk_put (cs := #[.int .u64 t105, .int .u64 0, .int .u64 0, .bool false]) ?_ 1 _ rfl; (with_reducible repeat (first | refine zq0 ?_ _ | refine zq2 ?_ | refine zq1 ?_ _)); refine blk_put (cs := #[.int .u64 0, .int .u64 0, .int .u64 0, .bool false]) ?_ 0 _ rfl; (with_reducible repeat (first | refine zq0 ?_ _ | refine zq2 ?_ | refine zq1 ?_ _)); exact BK103.out) Try.underlying26 rfl (by kernel_rfl)) rfl ?_
              exact ⟨by first | rfl | (simp [errW_none, errW_some] <;> rfl) | (simp [*, errW_none, errW_some] <;> rfl), by repeat (first | (with_reducible first | exact HB.out | apply zq9 | apply zq7 | apply zq8 | refine zq6 ?_ GE101.out | refine zq6 ?_ GE102.out | refine zq6 ?_ GE103.out | refine zq6 ?_ GE109.out) | exact HB.out)⟩
            · replace c49 := Bool.eq_false_iff.mpr c49
              subst c49
              have H1 : (if t110 = 1 then (some (t105, t111, t107, t108, 1)) else (if t114 = true then (some (t113, t111, t107, t108, 0)) else (some (t105, t111, t107, t108, 1)))) = some (r1, r2, r3, r4, r5) := by rw [if_neg (show ¬ (false = true) by decide)] at H; exact H
              clear H
              have H := H1
              clear H1
              by_cases c57 : t110 = 1
              · rw [if_pos c57] at H
                have c57b0 : (t110 == 1) = true := beq_iff_eq.mpr c57
                have c57b1 : (t110 != 1) = false := bne_eq_false_iff_eq.mpr c57
                clear c57
                simp only [Option.some.injEq, Prod.mk.injEq] at H
                obtain ⟨rfl, rfl, rfl, rfl, rfl⟩ := H
                have hnb58 := NB109_101.out
                have hnc58 := NB101_109.out
                have hnb59 := NB109_102.out
                have hnc59 := NB102_109.out
                have hnb60 := NB109_103.out
                have hnc60 := NB103_109.out
                have hcz61_0 : wc.cell? ⟨gb109, 0, none⟩ = some (.int .u64 t105) := (zq5 BK109.out 0).trans rfl
                have hcz61_1 : wc.cell? ⟨gb109, 1, none⟩ = some (.int .u64 t106) := (zq5 BK109.out 1).trans rfl
                have hcz61_2 : wc.cell? ⟨gb109, 2, none⟩ = some (.int .u64 t107) := (zq5 BK109.out 2).trans rfl
                have hcz61_3 : wc.cell? ⟨gb109, 3, none⟩ = some (.bool t108) := (zq5 BK109.out 3).trans rfl
                have hfz61_0 := zq4 BK109.out 0
                have hfz61_1 := zq4 BK109.out 1
                have hfz61_2 := zq4 BK109.out 2
                have hfz61_3 := zq4 BK109.out 3
                have hnb62 := NB103_101.out
                have hnc62 := NB101_103.out
                have hnb63 := NB103_102.out
                have hnc63 := NB102_103.out
                have hcz64_0 : wc.cell? ⟨gb103, 0, none⟩ = some (.int .u64 0) := (zq5 BK103.out 0).trans rfl
                have hcz64_1 : wc.cell? ⟨gb103, 1, none⟩ = some (.int .u64 0) := (zq5 BK103.out 1).trans rfl
                have hcz64_2 : wc.cell? ⟨gb103, 2, none⟩ = some (.int .u64 0) := (zq5 BK103.out 2).trans rfl
                have hcz64_3 : wc.cell? ⟨gb103, 3, none⟩ = some (.bool false) := (zq5 BK103.out 3).trans rfl
                have hfz64_0 := zq4 BK103.out 0
                have hfz64_1 := zq4 BK103.out 1
                have hfz64_2 := zq4 BK103.out 2
                have hfz64_3 := zq4 BK103.out 3
                go_wp2
                refine bodyPost_ret (results_ct rfl _ _ gb103 26 #[.int .u64 t105, .int .u64 t111, .int .u64 t107, .bool t108] (0, 0) _ rfl (by (with_reducible repeat (first | refine zq0 ?_ _ | refine zq2 ?_ | refine zq1 ?_ _)); refine blk_put (cs := #[.int .u64 t105, .int .u64 t111, .int .u64 t107, .bool false]) ?_ 3 _ rfl; (with_reducible repeat (first | refine zq0 ?_ _ | refine zq2 ?_ | refine zq1 ?_ _)); refine blk_put (cs := #[.int .u64 t105, .int .u64 t111, .int .u64 0, .bool false]) ?_ 2 _ rfl; (with_reducible repeat (first | refine zq0 ?_ _ | refine zq2 ?_ | refine zq1 ?_ _)); refine blk_put (cs := #[.int .u64 t105, .int .u64 0, .int .u64 0, .bool false]) ?_ 1 _ rfl; (with_reducible repeat (first | refine zq0 ?_ _ | refine zq2 ?_ | refine zq1 ?_ _)); refine blk_put (cs := #[.int .u64 0, .int .u64 0, .int .u64 0, .bool false]) ?_ 0 _ rfl; (with_reducible repeat (first | refine zq0 ?_ _ | refine zq2 ?_ | refine zq1 ?_ _)); refine zq11 ?_ NB103_109.out _; (with_reducible repeat (first | refine zq0 ?_ _ | refine zq2 ?_ | refine zq1 ?_ _)); exact BK103.out) Try.underlying26 rfl (by kernel_rfl)) rfl ?_
                exact ⟨by first | rfl | (simp [errW_none, errW_some] <;> rfl) | (simp [*, errW_none, errW_some] <;> rfl), by repeat (first | (with_reducible first | exact HB.out | apply zq9 | apply zq7 | apply zq8 | refine zq6 ?_ GE101.out | refine zq6 ?_ GE102.out | refine zq6 ?_ GE103.out | refine zq6 ?_ GE109.out) | exact HB.out)⟩
              · rw [if_neg c57] at H
                have c57b0 : (t110 == 1) = false := beq_eq_false_iff_ne.mpr c57
                have c57b1 : (t110 != 1) = true := bne_iff_ne.mpr c57
                by_cases c65 : t114 = true
                · subst c65
                  have H1 : (some (t113, t111, t107, t108, 0)) = some (r1, r2, r3, r4, r5) := by rw [if_pos rfl] at H; exact H
                  clear H
                  have H := H1
                  clear H1
                  simp only [Option.some.injEq, Prod.mk.injEq] at H
                  obtain ⟨rfl, rfl, rfl, rfl, rfl⟩ := H
                  have hnb66 := NB109_101.out
                  have hnc66 := NB101_109.out
                  have hnb67 := NB109_102.out
                  have hnc67 := NB102_109.out
                  have hnb68 := NB109_103.out
                  have hnc68 := NB103_109.out
                  have hcz69_0 : wc.cell? ⟨gb109, 0, none⟩ = some (.int .u64 t105) := (zq5 BK109.out 0).trans rfl
                  have hcz69_1 : wc.cell? ⟨gb109, 1, none⟩ = some (.int .u64 t106) := (zq5 BK109.out 1).trans rfl
                  have hcz69_2 : wc.cell? ⟨gb109, 2, none⟩ = some (.int .u64 t107) := (zq5 BK109.out 2).trans rfl
                  have hcz69_3 : wc.cell? ⟨gb109, 3, none⟩ = some (.bool t108) := (zq5 BK109.out 3).trans rfl
                  have hfz69_0 := zq4 BK109.out 0
                  have hfz69_1 := zq4 BK109.out 1
                  have hfz69_2 := zq4 BK109.out 2
                  have hfz69_3 := zq4 BK109.out 3
                  have hnb70 := NB103_101.out
                  have hnc70 := NB101_103.out
                  have hnb71 := NB103_102.out
                  have hnc71 := NB102_103.out
                  have hcz72_0 : wc.cell? ⟨gb103, 0, none⟩ = some (.int .u64 0) := (zq5 BK103.out 0).trans rfl
                  have hcz72_1 : wc.cell? ⟨gb103, 1, none⟩ = some (.int .u64 0) := (zq5 BK103.out 1).trans rfl
                  have hcz72_2 : wc.cell? ⟨gb103, 2, none⟩ = some (.int .u64 0) := (zq5 BK103.out 2).trans rfl
                  have hcz72_3 : wc.cell? ⟨gb103, 3, none⟩ = some (.bool false) := (zq5 BK103.out 3).trans rfl
                  have hfz72_0 := zq4 BK103.out 0
                  have hfz72_1 := zq4 BK103.out 1
                  have hfz72_2 := zq4 BK103.out 2
                  have hfz72_3 := zq4 BK103.out 3
                  go_wp2
                  refine bodyPost_ret (results_ct rfl _ _ gb103 26 #[.int .u64 t113, .int .u64 t111, .int .u64 t107, .bool t108] (0, 0) _ rfl (by (with_reducible repeat (first | refine zq0 ?_ _ | refine zq2 ?_ | refine zq1 ?_ _)); refine blk_put (cs := #[.int .u64 t113, .int .u64 t111, .int .u64 t107, .bool false]) ?_ 3 _ rfl; (with_reducible repeat (first | refine zq0 ?_ _ | refine zq2 ?_ | refine zq1 ?_ _)); refine blk_put (cs := #[.int .u64 t113, .int .u64 t111, .int .u64 0, .bool false]) ?_ 2 _ rfl; (with_reducible repeat (first | refine zq0 ?_ _ | refine zq2 ?_ | refine zq1 ?_ _)); refine blk_put (cs := #[.int .u64 t113, .int .u64 0, .int .u64 0, .bool false]) ?_ 1 _ rfl; (with_reducible repeat (first | refine zq0 ?_ _ | refine zq2 ?_ | refine zq1 ?_ _)); refine blk_put (cs := #[.int .u64 0, .int .u64 0, .int .u64 0, .bool false]) ?_ 0 _ rfl; (with_reducible repeat (first | refine zq0 ?_ _ | refine zq2 ?_ | refine zq1 ?_ _)); refine zq11 ?_ NB103_109.out _; (with_reducible repeat (first | refine zq0 ?_ _ | refine zq2 ?_ | refine zq1 ?_ _)); refine zq11 ?_ NB103_109.out _; (with_reducible repeat (first | refine zq0 ?_ _ | refine zq2 ?_ | refine zq1 ?_ _)); exact BK103.out) Try.underlying26 rfl (by kernel_rfl)) rfl ?_
                  exact ⟨by first | rfl | (simp [errW_none, errW_some] <;> rfl) | (simp [*, errW_none, errW_some] <;> rfl), by repeat (first | (with_reducible first | exact HB.out | apply zq9 | apply zq7 | apply zq8 | refine zq6 ?_ GE101.out | refine zq6 ?_ GE102.out | refine zq6 ?_ GE103.out | refine zq6 ?_ GE109.out) | exact HB.out)⟩
                · replace c65 := Bool.eq_false_iff.mpr c65
                  subst c65
                  have H1 : (some (t105, t111, t107, t108, 1)) = some (r1, r2, r3, r4, r5) := by rw [if_neg (show ¬ (false = true) by decide)] at H; exact H
                  clear H
                  have H := H1
                  clear H1
                  simp only [Option.some.injEq, Prod.mk.injEq] at H
                  obtain ⟨rfl, rfl, rfl, rfl, rfl⟩ := H
                  have hnb73 := NB109_101.out
                  have hnc73 := NB101_109.out
                  have hnb74 := NB109_102.out
                  have hnc74 := NB102_109.out
                  have hnb75 := NB109_103.out
                  have hnc75 := NB103_109.out
                  have hcz76_0 : wc.cell? ⟨gb109, 0, none⟩ = some (.int .u64 t105) := (zq5 BK109.out 0).trans rfl
                  have hcz76_1 : wc.cell? ⟨gb109, 1, none⟩ = some (.int .u64 t106) := (zq5 BK109.out 1).trans rfl
                  have hcz76_2 : wc.cell? ⟨gb109, 2, none⟩ = some (.int .u64 t107) := (zq5 BK109.out 2).trans rfl
                  have hcz76_3 : wc.cell? ⟨gb109, 3, none⟩ = some (.bool t108) := (zq5 BK109.out 3).trans rfl
                  have hfz76_0 := zq4 BK109.out 0
                  have hfz76_1 := zq4 BK109.out 1
                  have hfz76_2 := zq4 BK109.out 2
                  have hfz76_3 := zq4 BK109.out 3
                  have hnb77 := NB103_101.out
                  have hnc77 := NB101_103.out
                  have hnb78 := NB103_102.out
                  have hnc78 := NB102_103.out
                  have hcz79_0 : wc.cell? ⟨gb103, 0, none⟩ = some (.int .u64 0) := (zq5 BK103.out 0).trans rfl
                  have hcz79_1 : wc.cell? ⟨gb103, 1, none⟩ = some (.int .u64 0) := (zq5 BK103.out 1).trans rfl
                  have hcz79_2 : wc.cell? ⟨gb103, 2, none⟩ = some (.int .u64 0) := (zq5 BK103.out 2).trans rfl
                  have hcz79_3 : wc.cell? ⟨gb103, 3, none⟩ = some (.bool false) := (zq5 BK103.out 3).trans rfl
                  have hfz79_0 := zq4 BK103.out 0
                  have hfz79_1 := zq4 BK103.out 1
                  have hfz79_2 := zq4 BK103.out 2
                  have hfz79_3 := zq4 BK103.out 3
                  go_wp2
                  refine bodyPost_ret (results_ct rfl _ _ gb103 26 #[.int .u64 t105, .int .u64 t111, .int .u64 t107, .bool t108] (0, 0) _ rfl (by (with_reducible repeat (first | refine zq0 ?_ _ | refine zq2 ?_ | refine zq1 ?_ _)); refine blk_put (cs := #[.int .u64 t105, .int .u64 t111, .int .u64 t107, .bool false]) ?_ 3 _ rfl; (with_reducible repeat (first | refine zq0 ?_ _ | refine zq2 ?_ | refine zq1 ?_ _)); refine blk_put (cs := #[.int .u64 t105, .int .u64 t111, .int .u64 0, .bool false]) ?_ 2 _ rfl; (with_reducible repeat (first | refine zq0 ?_ _ | refine zq2 ?_ | refine zq1 ?_ _)); refine blk_put (cs := #[.int .u64 t105, .int .u64 0, .int .u64 0, .bool false]) ?_ 1 _ rfl; (with_reducible repeat (first | refine zq0 ?_ _ | refine zq2 ?_ | refine zq1 ?_ _)); refine blk_put (cs := #[.int .u64 0, .int .u64 0, .int .u64 0, .bool false]) ?_ 0 _ rfl; (with_reducible repeat (first | refine zq0 ?_ _ | refine zq2 ?_ | refine zq1 ?_ _)); refine zq11 ?_ NB103_109.out _; (with_reducible repeat (first | refine zq0 ?_ _ | refine zq2 ?_ | refine zq1 ?_ _)); exact BK103.out) Try.underlying26 rfl (by kernel_rfl)) rfl ?_
                  exact ⟨by first | rfl | (simp [errW_none, errW_some] <;> rfl) | (simp [*, errW_none, errW_some] <;> rfl), by repeat (first | (with_reducible first | exact HB.out | apply zq9 | apply zq7 | apply zq8 | refine zq6 ?_ GE101.out | refine zq6 ?_ GE102.out | refine zq6 ?_ GE103.out | refine zq6 ?_ GE109.out) | exact HB.out)⟩

end Go.Proofs.Ytkefamalcmglgaa.P
