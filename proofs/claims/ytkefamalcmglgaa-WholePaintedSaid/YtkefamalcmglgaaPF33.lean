/- Printed out of the translation: what functions compute, and the proofs that the code computes just this. -/
import Derived.Test.YtkefamalcmglgaaP0
import Derived.Test.YtkefamalcmglgaaPF49
namespace Go.Proofs.Ytkefamalcmglgaa.P
open Go.RowKit Go.Proofs.YtkefamalcmglgaaW.PrintWords Go.Proofs.YtkefamalcmglgaaW.PrintLast Go.Proofs.YtkefamalcmglgaaW.PrintMore
attribute [local go_sem] max2_int min2_int max_two min_two max_three min_three max_four min_four   -- for this text's walks alone
set_option linter.unusedVariables false
set_option linter.unusedSimpArgs false

/-! ### double_paint: function 33 -/
mutual
def double_paint.j0 : Nat → Int → Int → Int → Int → Int → Int → Int → Int → Option (Int × Int × Int × Int × Int × Int × Int)
  | 0, _, _, _, _, _, _, _, _ => none
  | k + 1, x2, x3, x103000, x103001, x103002, x103003, x103004, x103005 => (double_side_take.f x103003 x103004 x103005 x2).bind fun bt104 => ((double_side_take.f x103000 x103001 x103002 x2).bind fun bt109 => (if x3 = 0 then (double_paint.j1 k x3 bt109.2.2.2 (!bt104.2.2.2) x103000 x103001 x103002 x103003 x103004 x103005 bt104.1 bt104.2.1 bt104.2.2.1 bt109.1 bt109.2.1 bt109.2.2.1) else (if x3 = 1 then (double_paint.j1 k x3 bt109.2.2.2 (!bt104.2.2.2) x103000 x103001 x103002 x103003 x103004 x103005 bt104.1 bt104.2.1 bt104.2.2.1 bt109.1 bt109.2.1 bt109.2.2.1) else (double_paint.j1 k x3 bt109.2.2.2 true x103000 x103001 x103002 x103003 x103004 x103005 bt104.1 bt104.2.1 bt104.2.2.1 bt109.1 bt109.2.1 bt109.2.2.1))))
def double_paint.j1 : Nat → Int → Bool → Bool → Int → Int → Int → Int → Int → Int → Int → Int → Int → Int → Int → Int → Option (Int × Int × Int × Int × Int × Int × Int)
  | 0, _, _, _, _, _, _, _, _, _, _, _, _, _, _, _ => none
  | k + 1, x3, x13, x31, x103000, x103001, x103002, x103003, x103004, x103005, x109000, x109001, x109002, x114000, x114001, x114002 => if x31 = true then (some (x103000, x103001, x103002, x103003, x103004, x103005, 2)) else (if x3 = 1 then (some (x103000, x103001, x103002, x109000, x109001, x109002, 1)) else (if x13 = true then (some (x114000, x114001, x114002, x109000, x109001, x109002, 0)) else (some (x103000, x103001, x103002, x109000, x109001, x109002, 1))))
end
def double_paint.f (k : Nat) (a0_0 : Int) (a0_1 : Bool) (a0_2 : Int) (a0_3 : Int) (a0_4 : Int) (a0_5 : Int) (a1_0 : Int) (a1_1 : Int) (a1_2 : Int) (a1_3 : Int) (a1_4 : Int) (a1_5 : Int) (a2 : Int) (a3 : Int) : Option (Int × Int × Int × Int × Int × Int × Int) := if a0_1 = true then (double_paint.j0 k a2 a3 a1_0 a1_1 a1_2 a1_3 a1_4 a1_5) else (double_paint.j0 k a2 0 a1_0 a1_1 a1_2 a1_3 a1_4 a1_5)
set_option maxHeartbeats 8000000 in
set_option maxRecDepth 100000 in
theorem double_paint.calls (k : Nat) (a0_0 : Int) (a0_1 : Bool) (a0_2 : Int) (a0_3 : Int) (a0_4 : Int) (a0_5 : Int) (a1_0 : Int) (a1_1 : Int) (a1_2 : Int) (a1_3 : Int) (a1_4 : Int) (a1_5 : Int) (a2 : Int) (a3 : Int) (r1 : Int) (r2 : Int) (r3 : Int) (r4 : Int) (r5 : Int) (r6 : Int) (r7 : Int) (w : World) (h : double_paint.f k a0_0 a0_1 a0_2 a0_3 a0_4 a0_5 a1_0 a1_1 a1_2 a1_3 a1_4 a1_5 a2 a3 = some (r1, r2, r3, r4, r5, r6, r7)) :
    Calls Try.prog 33 #[.agg #[.int .i64 a0_0, .bool a0_1, .int .u64 a0_2, .int .u64 a0_3, .int .u64 a0_4, .int .u64 a0_5], .agg #[.int .u64 a1_0, .int .u64 a1_1, .int .u64 a1_2, .int .u64 a1_3, .int .u64 a1_4, .int .u64 a1_5], .int .i64 a2, .int .i64 a3] w fun e w' => e = .returned (.tuple #[.agg #[.int .u64 r1, .int .u64 r2, .int .u64 r3, .int .u64 r4, .int .u64 r5, .int .u64 r6], .int .i64 r7]) ∧ Below w.heap.size w w' := by
  have hu24 := Try.underlying24
  have hu53 := Try.underlying53
  have hu52 := Try.underlying52
  have HB := zq3 (Below.refl w.heap.size w)
  have H : (if a0_1 = true then (double_paint.j0 k a2 a3 a1_0 a1_1 a1_2 a1_3 a1_4 a1_5) else (double_paint.j0 k a2 0 a1_0 a1_1 a1_2 a1_3 a1_4 a1_5)) = some (r1, r2, r3, r4, r5, r6, r7) := h
  clear h
  have HC5 := zq3 H
  clear H
  go_enter Try.func33, Try.ntmps33
  go_upto_if 16 with (first | ((with_reducible refine gate_dst (N := 4) rfl ?_); refine box_event ?hg (N := 4) ?hd (cs := #[.int .i64 a0_0, .bool a0_1, .int .u64 a0_2, .int .u64 a0_3, .int .u64 a0_4, .int .u64 a0_5]) (t := 24) ?hr ?_; (case hd => rfl); (case hg => rfl); (case hr => first | (go_simp; done) | (go_simp; rfl)); intro gb101 hg w6 hbox hb; have n0_ := zq3 (below_step (by repeat (first | (with_reducible first | exact HB.out | apply zq9 | apply zq7 | apply zq8) | exact HB.out)) hb); have n1_ := zq3 (hbox); have n2_ := zq3 ((by rw [hg]; exact (below_size (by repeat (first | (with_reducible first | exact HB.out | apply zq9 | apply zq7 | apply zq8) | exact HB.out))) : w.heap.size ≤ gb101)); have n3_ := zq3 ((by rw [hg]; exact (below_size (by repeat (first | (with_reducible first | exact HB.out | apply zq9 | apply zq7 | apply zq8) | exact HB.out))) : w.heap.size ≤ gb101)); clear HB; have HB := n0_; have BK101 := n1_; have GW101 := n2_; have GE101 := n3_; clear n0_ n1_ n2_ n3_; clear hb hbox hg) | ((with_reducible refine gate_dst (N := 5) rfl ?_); refine box_event ?hg (N := 5) ?hd (cs := #[.int .u64 a1_0, .int .u64 a1_1, .int .u64 a1_2, .int .u64 a1_3, .int .u64 a1_4, .int .u64 a1_5]) (t := 53) ?hr ?_; (case hd => rfl); (case hg => rfl); (case hr => first | (go_simp; done) | (go_simp; rfl)); intro gb102 hg w7 hbox hb; have n0_ := zq3 (zq10 (g := gb101) (o := .cells #[.int .i64 a0_0, .bool a0_1, .int .u64 a0_2, .int .u64 a0_3, .int .u64 a0_4, .int .u64 a0_5] 24 (0, 0)) (by (with_reducible repeat (first | refine zq0 ?_ _ | refine zq2 ?_ | refine zq1 ?_ _)); exact BK101.out) hb); have n1_ := zq3 (below_step (by repeat (first | (with_reducible first | exact HB.out | apply zq9 | apply zq7 | apply zq8 | refine zq6 ?_ GE101.out) | exact HB.out)) hb); have n2_ := zq3 (hbox); have n3_ := zq3 ((by rw [hg]; exact (below_size (by repeat (first | (with_reducible first | exact HB.out | apply zq9 | apply zq7 | apply zq8 | refine zq6 ?_ GE101.out) | exact HB.out))) : w.heap.size ≤ gb102)); have n4_ := zq3 ((by rw [hg]; exact (below_size (by repeat (first | (with_reducible first | exact HB.out | apply zq9 | apply zq7 | apply zq8 | refine zq6 ?_ GE101.out) | exact HB.out))) : w.heap.size ≤ gb102)); have n5_ := zq3 ((by rw [hg]; exact Nat.ne_of_lt (blk_lt (g := gb101) (o := .cells #[.int .i64 a0_0, .bool a0_1, .int .u64 a0_2, .int .u64 a0_3, .int .u64 a0_4, .int .u64 a0_5] 24 (0, 0)) (by (with_reducible repeat (first | refine zq0 ?_ _ | refine zq2 ?_ | refine zq1 ?_ _)); exact BK101.out)) : gb101 ≠ gb102)); have n6_ := zq3 ((by rw [hg]; exact Nat.ne_of_gt (blk_lt (g := gb101) (o := .cells #[.int .i64 a0_0, .bool a0_1, .int .u64 a0_2, .int .u64 a0_3, .int .u64 a0_4, .int .u64 a0_5] 24 (0, 0)) (by (with_reducible repeat (first | refine zq0 ?_ _ | refine zq2 ?_ | refine zq1 ?_ _)); exact BK101.out)) : gb102 ≠ gb101)); clear BK101; clear HB; have BK101 := n0_; have HB := n1_; have BK102 := n2_; have GW102 := n3_; have GE102 := n4_; have NB101_102 := n5_; have NB102_101 := n6_; clear n0_ n1_ n2_ n3_ n4_ n5_ n6_; clear hb hbox hg) | ((with_reducible refine gate_dst (N := 8) rfl ?_); refine box_event ?hg (N := 8) ?hd (cs := #[.int .u64 0, .int .u64 0, .int .u64 0, .int .u64 0, .int .u64 0, .int .u64 0]) (t := 53) ?hr ?_; (case hd => rfl); (case hg => rfl); (case hr => first | (go_simp; done) | (go_simp; rfl)); intro gb103 hg w8 hbox hb; have n0_ := zq3 (zq10 (g := gb101) (o := .cells #[.int .i64 a0_0, .bool a0_1, .int .u64 a0_2, .int .u64 a0_3, .int .u64 a0_4, .int .u64 a0_5] 24 (0, 0)) (by (with_reducible repeat (first | refine zq0 ?_ _ | refine zq2 ?_ | refine zq1 ?_ _)); exact BK101.out) hb); have n1_ := zq3 (zq10 (g := gb102) (o := .cells #[.int .u64 a1_0, .int .u64 a1_1, .int .u64 a1_2, .int .u64 a1_3, .int .u64 a1_4, .int .u64 a1_5] 53 (0, 0)) (by (with_reducible repeat (first | refine zq0 ?_ _ | refine zq2 ?_ | refine zq1 ?_ _)); exact BK102.out) hb); have n2_ := zq3 (below_step (by repeat (first | (with_reducible first | exact HB.out | apply zq9 | apply zq7 | apply zq8 | refine zq6 ?_ GE101.out | refine zq6 ?_ GE102.out) | exact HB.out)) hb); have n3_ := zq3 (hbox); have n4_ := zq3 ((by rw [hg]; exact (below_size (by repeat (first | (with_reducible first | exact HB.out | apply zq9 | apply zq7 | apply zq8 | refine zq6 ?_ GE101.out | refine zq6 ?_ GE102.out) | exact HB.out))) : w.heap.size ≤ gb103)); have n5_ := zq3 ((by rw [hg]; exact (below_size (by repeat (first | (with_reducible first | exact HB.out | apply zq9 | apply zq7 | apply zq8 | refine zq6 ?_ GE101.out | refine zq6 ?_ GE102.out) | exact HB.out))) : w.heap.size ≤ gb103)); have n6_ := zq3 ((by rw [hg]; exact Nat.ne_of_lt (blk_lt (g := gb101) (o := .cells #[.int .i64 a0_0, .bool a0_1, .int .u64 a0_2, .int .u64 a0_3, .int .u64 a0_4, .int .u64 a0_5] 24 (0, 0)) (by (with_reducible repeat (first | refine zq0 ?_ _ | refine zq2 ?_ | refine zq1 ?_ _)); exact BK101.out)) : gb101 ≠ gb103)); have n7_ := zq3 ((by rw [hg]; exact Nat.ne_of_gt (blk_lt (g := gb101) (o := .cells #[.int .i64 a0_0, .bool a0_1, .int .u64 a0_2, .int .u64 a0_3, .int .u64 a0_4, .int .u64 a0_5] 24 (0, 0)) (by (with_reducible repeat (first | refine zq0 ?_ _ | refine zq2 ?_ | refine zq1 ?_ _)); exact BK101.out)) : gb103 ≠ gb101)); have n8_ := zq3 ((by rw [hg]; exact Nat.ne_of_lt (blk_lt (g := gb102) (o := .cells #[.int .u64 a1_0, .int .u64 a1_1, .int .u64 a1_2, .int .u64 a1_3, .int .u64 a1_4, .int .u64 a1_5] 53 (0, 0)) (by (with_reducible repeat (first | refine zq0 ?_ _ | refine zq2 ?_ | refine zq1 ?_ _)); exact BK102.out)) : gb102 ≠ gb103)); have n9_ := zq3 ((by rw [hg]; exact Nat.ne_of_gt (blk_lt (g := gb102) (o := .cells #[.int .u64 a1_0, .int .u64 a1_1, .int .u64 a1_2, .int .u64 a1_3, .int .u64 a1_4, .int .u64 a1_5] 53 (0, 0)) (by (with_reducible repeat (first | refine zq0 ?_ _ | refine zq2 ?_ | refine zq1 ?_ _)); exact BK102.out)) : gb103 ≠ gb102)); clear BK101; clear BK102; clear HB; have BK101 := n0_; have BK102 := n1_; have HB := n2_; have BK103 := n3_; have GW103 := n4_; have GE103 := n5_; have NB101_103 := n6_; have NB103_101 := n7_; have NB102_103 := n8_; have NB103_102 := n9_; clear n0_ n1_ n2_ n3_ n4_ n5_ n6_ n7_ n8_ n9_; clear hb hbox hg; have hnb9 := NB101_102.out; have hnc9 := NB102_101.out; have hnb10 := NB101_103.out; have hnc10 := NB103_101.out; have hcz11_0 : w8.cell? ⟨gb101, 0, none⟩ = some (.int .i64 a0_0) := (zq5 BK101.out 0).trans rfl; have hcz11_1 : w8.cell? ⟨gb101, 1, none⟩ = some (.bool a0_1) := (zq5 BK101.out 1).trans rfl; have hcz11_2 : w8.cell? ⟨gb101, 2, none⟩ = some (.int .u64 a0_2) := (zq5 BK101.out 2).trans rfl; have hcz11_3 : w8.cell? ⟨gb101, 3, none⟩ = some (.int .u64 a0_3) := (zq5 BK101.out 3).trans rfl; have hcz11_4 : w8.cell? ⟨gb101, 4, none⟩ = some (.int .u64 a0_4) := (zq5 BK101.out 4).trans rfl; have hcz11_5 : w8.cell? ⟨gb101, 5, none⟩ = some (.int .u64 a0_5) := (zq5 BK101.out 5).trans rfl; have hfz11_0 := zq4 BK101.out 0; have hfz11_1 := zq4 BK101.out 1; have hfz11_2 := zq4 BK101.out 2; have hfz11_3 := zq4 BK101.out 3; have hfz11_4 := zq4 BK101.out 4; have hfz11_5 := zq4 BK101.out 5))
  (try simp only [Act.put, List.setIfInBounds_toArray, List.set_cons_zero, List.set_cons_succ])
  go_cut [3] (fun v3 wc => ∃ (kq : Nat) (x3_4 : Int), v3 = .int .i64 x3_4 ∧ Aside0 (double_paint.j0 kq a2 x3_4 a1_0 a1_1 a1_2 a1_3 a1_4 a1_5 = some (r1, r2, r3, r4, r5, r6, r7)) ∧ Aside0 (kq ≤ k) ∧ Aside0 (wc.heap[gb101]? = some (.cells #[.int .i64 a0_0, .bool a0_1, .int .u64 a0_2, .int .u64 a0_3, .int .u64 a0_4, .int .u64 a0_5] 24 (0, 0))) ∧ Aside0 (wc.heap[gb102]? = some (.cells #[.int .u64 a1_0, .int .u64 a1_1, .int .u64 a1_2, .int .u64 a1_3, .int .u64 a1_4, .int .u64 a1_5] 53 (0, 0))) ∧ Aside0 (wc.heap[gb103]? = some (.cells #[.int .u64 0, .int .u64 0, .int .u64 0, .int .u64 0, .int .u64 0, .int .u64 0] 53 (0, 0))) ∧ Aside0 (Below w.heap.size w wc))
  case first =>
    have H := HC5.out
    clear HC5
    by_cases c12 : a0_1 = true
    · subst c12
      have H1 : (double_paint.j0 k a2 a3 a1_0 a1_1 a1_2 a1_3 a1_4 a1_5) = some (r1, r2, r3, r4, r5, r6, r7) := by rw [if_pos rfl] at H; exact H
      clear H
      have H := H1
      clear H1
      have H' := zq3 H
      clear H
      go_wp2
      go_meet
      case rel => exact ⟨_, (a3), (by first | rfl | (simp; done) | (simp [*]; done)), H', ⟨by first | omega | exact Nat.le_refl _⟩, ⟨by (with_reducible repeat (first | refine zq0 ?_ _ | refine zq2 ?_ | refine zq1 ?_ _)); exact BK101.out⟩, ⟨by (with_reducible repeat (first | refine zq0 ?_ _ | refine zq2 ?_ | refine zq1 ?_ _)); exact BK102.out⟩, ⟨by (with_reducible repeat (first | refine zq0 ?_ _ | refine zq2 ?_ | refine zq1 ?_ _)); exact BK103.out⟩, ⟨by repeat (first | (with_reducible first | exact HB.out | apply zq9 | apply zq7 | apply zq8 | refine zq6 ?_ GE101.out | refine zq6 ?_ GE102.out | refine zq6 ?_ GE103.out) | exact HB.out)⟩⟩
    · replace c12 := Bool.eq_false_iff.mpr c12
      subst c12
      have H1 : (double_paint.j0 k a2 0 a1_0 a1_1 a1_2 a1_3 a1_4 a1_5) = some (r1, r2, r3, r4, r5, r6, r7) := by rw [if_neg (show ¬ (false = true) by decide)] at H; exact H
      clear H
      have H := H1
      clear H1
      have H' := zq3 H
      clear H
      go_wp2
      go_meet
      case rel => exact ⟨_, (0), (by first | rfl | (simp; done) | (simp [*]; done)), H', ⟨by first | omega | exact Nat.le_refl _⟩, ⟨by (with_reducible repeat (first | refine zq0 ?_ _ | refine zq2 ?_ | refine zq1 ?_ _)); exact BK101.out⟩, ⟨by (with_reducible repeat (first | refine zq0 ?_ _ | refine zq2 ?_ | refine zq1 ?_ _)); exact BK102.out⟩, ⟨by (with_reducible repeat (first | refine zq0 ?_ _ | refine zq2 ?_ | refine zq1 ?_ _)); exact BK103.out⟩, ⟨by repeat (first | (with_reducible first | exact HB.out | apply zq9 | apply zq7 | apply zq8 | refine zq6 ?_ GE101.out | refine zq6 ?_ GE102.out | refine zq6 ?_ GE103.out) | exact HB.out)⟩⟩
  case rest =>
    clear HC5
    try clear c1
    try clear p2
    try clear c3
    try clear c9
    try clear c10
    try clear c12
    try clear hcz11_0
    try clear hcz11_1
    try clear hcz11_2
    try clear hcz11_3
    try clear hcz11_4
    try clear hcz11_5
    try clear hfz11_0
    try clear hfz11_1
    try clear hfz11_2
    try clear hfz11_3
    try clear hfz11_4
    try clear hfz11_5
    obtain ⟨kq, x3_4, rfl, HA, HJ4, BK101, BK102, BK103, HB⟩ := hcut
    cases kq with
    | zero => exact absurd HA.out (by simp [double_paint.j0])
    | succ kj4 =>
      have H := HA.out
      clear HA
      simp only [double_paint.j0] at H
      replace H := Option.bind_eq_some_iff.mp H
      obtain ⟨⟨t104, t105, t106, t107⟩, A130, H⟩ := H
      replace H : ((double_side_take.f a1_0 a1_1 a1_2 a2).bind fun bt109 => (if x3_4 = 0 then (double_paint.j1 kj4 x3_4 bt109.2.2.2 (!t107) a1_0 a1_1 a1_2 a1_3 a1_4 a1_5 t104 t105 t106 bt109.1 bt109.2.1 bt109.2.2.1) else (if x3_4 = 1 then (double_paint.j1 kj4 x3_4 bt109.2.2.2 (!t107) a1_0 a1_1 a1_2 a1_3 a1_4 a1_5 t104 t105 t106 bt109.1 bt109.2.1 bt109.2.2.1) else (double_paint.j1 kj4 x3_4 bt109.2.2.2 true a1_0 a1_1 a1_2 a1_3 a1_4 a1_5 t104 t105 t106 bt109.1 bt109.2.1 bt109.2.2.1)))) = some (r1, r2, r3, r4, r5, r6, r7) := H
      have A13 := zq3 A130
      clear A130
      replace H := Option.bind_eq_some_iff.mp H
      obtain ⟨⟨t109, t110, t111, t112⟩, A140, H⟩ := H
      replace H : (if x3_4 = 0 then (double_paint.j1 kj4 x3_4 t112 (!t107) a1_0 a1_1 a1_2 a1_3 a1_4 a1_5 t104 t105 t106 t109 t110 t111) else (if x3_4 = 1 then (double_paint.j1 kj4 x3_4 t112 (!t107) a1_0 a1_1 a1_2 a1_3 a1_4 a1_5 t104 t105 t106 t109 t110 t111) else (double_paint.j1 kj4 x3_4 t112 true a1_0 a1_1 a1_2 a1_3 a1_4 a1_5 t104 t105 t106 t109 t110 t111))) = some (r1, r2, r3, r4, r5, r6, r7) := H
      have A14 := zq3 A140
      clear A140
      have HC15 := zq3 H
      clear H
      have hnb16 := NB102_101.out
      have hnc16 := NB101_102.out
      have hnb17 := NB102_103.out
      have hnc17 := NB103_102.out
      have hcz18_0 : wc.cell? ⟨gb102, 0, none⟩ = some (.int .u64 a1_0) := (zq5 BK102.out 0).trans rfl
      have hcz18_1 : wc.cell? ⟨gb102, 1, none⟩ = some (.int .u64 a1_1) := (zq5 BK102.out 1).trans rfl
      have hcz18_2 : wc.cell? ⟨gb102, 2, none⟩ = some (.int .u64 a1_2) := (zq5 BK102.out 2).trans rfl
      have hcz18_3 : wc.cell? ⟨gb102, 3, none⟩ = some (.int .u64 a1_3) := (zq5 BK102.out 3).trans rfl
      have hcz18_4 : wc.cell? ⟨gb102, 4, none⟩ = some (.int .u64 a1_4) := (zq5 BK102.out 4).trans rfl
      have hcz18_5 : wc.cell? ⟨gb102, 5, none⟩ = some (.int .u64 a1_5) := (zq5 BK102.out 5).trans rfl
      have hfz18_0 := zq4 BK102.out 0
      have hfz18_1 := zq4 BK102.out 1
      have hfz18_2 := zq4 BK102.out 2
      have hfz18_3 := zq4 BK102.out 3
      have hfz18_4 := zq4 BK102.out 4
      have hfz18_5 := zq4 BK102.out 5
      go_upto_region 5 with (first | ((with_reducible refine gate_callee (f := 49) rfl ?_); refine goesL_ (some 21) rfl rfl Try.func49 (by kernel_rfl) rfl #[.agg #[.int .u64 a1_3, .int .u64 a1_4, .int .u64 a1_5], .int .i64 a2] rfl (by (try simp only [List.map_toArray, List.map_cons, List.map_nil]); first | done | rfl | (simp only [List.length_drop, List.length_take]; rfl)) ?_; (with_reducible refine (double_side_take.calls a1_3 a1_4 a1_5 a2 t104 t105 t106 t107 _ A13.out).mono ?_); rintro e w19 ⟨rfl, hb⟩; refine ⟨_, rfl, ?_⟩; have n0_ := zq3 (zq10 (g := gb101) (o := .cells #[.int .i64 a0_0, .bool a0_1, .int .u64 a0_2, .int .u64 a0_3, .int .u64 a0_4, .int .u64 a0_5] 24 (0, 0)) (by (with_reducible repeat (first | refine zq0 ?_ _ | refine zq2 ?_ | refine zq1 ?_ _)); exact BK101.out) hb); have n1_ := zq3 (zq10 (g := gb102) (o := .cells #[.int .u64 a1_0, .int .u64 a1_1, .int .u64 a1_2, .int .u64 a1_3, .int .u64 a1_4, .int .u64 a1_5] 53 (0, 0)) (by (with_reducible repeat (first | refine zq0 ?_ _ | refine zq2 ?_ | refine zq1 ?_ _)); exact BK102.out) hb); have n2_ := zq3 (zq10 (g := gb103) (o := .cells #[.int .u64 0, .int .u64 0, .int .u64 0, .int .u64 0, .int .u64 0, .int .u64 0] 53 (0, 0)) (by (with_reducible repeat (first | refine zq0 ?_ _ | refine zq2 ?_ | refine zq1 ?_ _)); exact BK103.out) hb); have n3_ := zq3 (below_step (by repeat (first | (with_reducible first | exact HB.out | apply zq9 | apply zq7 | apply zq8 | refine zq6 ?_ GE101.out | refine zq6 ?_ GE102.out | refine zq6 ?_ GE103.out) | exact HB.out)) hb); clear BK101; clear BK102; clear BK103; clear HB; have BK101 := n0_; have BK102 := n1_; have BK103 := n2_; have HB := n3_; clear n0_ n1_ n2_ n3_; (try clear hb); (try clear hb2); (try clear hk); (try clear hi)) | ((with_reducible refine gate_dst (N := 10) rfl ?_); refine box_event ?hg (N := 10) ?hd (cs := #[.int .u64 0, .int .u64 0, .int .u64 0]) (t := 52) ?hr ?_; (case hd => rfl); (case hg => rfl); (case hr => first | (go_simp; done) | (go_simp; rfl)); intro gb108 hg w20 hbox hb; have n0_ := zq3 (zq10 (g := gb101) (o := .cells #[.int .i64 a0_0, .bool a0_1, .int .u64 a0_2, .int .u64 a0_3, .int .u64 a0_4, .int .u64 a0_5] 24 (0, 0)) (by (with_reducible repeat (first | refine zq0 ?_ _ | refine zq2 ?_ | refine zq1 ?_ _)); exact BK101.out) hb); have n1_ := zq3 (zq10 (g := gb102) (o := .cells #[.int .u64 a1_0, .int .u64 a1_1, .int .u64 a1_2, .int .u64 a1_3, .int .u64 a1_4, .int .u64 a1_5] 53 (0, 0)) (by (with_reducible repeat (first | refine zq0 ?_ _ | refine zq2 ?_ | refine zq1 ?_ _)); exact BK102.out) hb); have n2_ := zq3 (zq10 (g := gb103) (o := .cells #[.int .u64 0, .int .u64 0, .int .u64 0, .int .u64 0, .int .u64 0, .int .u64 0] 53 (0, 0)) (by (with_reducible repeat (first | refine zq0 ?_ _ | refine zq2 ?_ | refine zq1 ?_ _)); exact BK103.out) hb); have n3_ := zq3 (below_step (by repeat (first | (with_reducible first | exact HB.out | apply zq9 | apply zq7 | apply zq8 | refine zq6 ?_ GE101.out | refine zq6 ?_ GE102.out | refine zq6 ?_ GE103.out) | exact HB.out)) hb); have n4_ := zq3 (hbox); have n5_ := zq3 ((by rw [hg]; exact (below_size (by repeat (first | (with_reducible first | exact HB.out | apply zq9 | apply zq7 | apply zq8 | refine zq6 ?_ GE101.out | refine zq6 ?_ GE102.out | refine zq6 ?_ GE103.out) | exact HB.out))) : w.heap.size ≤ gb108)); have n6_ := zq3 ((by rw [hg]; exact (below_size (by repeat (first | (with_reducible first | exact HB.out | apply zq9 | apply zq7 | apply zq8 | refine zq6 ?_ GE101.out | refine zq6 ?_ GE102.out | refine zq6 ?_ GE103.out) | exact HB.out))) : w.heap.size ≤ gb108)); have n7_ := zq3 ((by rw [hg]; exact Nat.ne_of_lt (blk_lt (g := gb101) (o := .cells #[.int .i64 a0_0, .bool a0_1, .int .u64 a0_2, .int .u64 a0_3, .int .u64 a0_4, .int .u64 a0_5] 24 (0, 0)) (by (with_reducible repeat (first | refine zq0 ?_ _ | refine zq2 ?_ | refine zq1 ?_ _)); exact BK101.out)) : gb101 ≠ gb108)); have n8_ := zq3 ((by rw [hg]; exact Nat.ne_of_gt (blk_lt (g := gb101) (o := .cells #[.int .i64 a0_0, .bool a0_1, .int .u64 a0_2, .int .u64 a0_3, .int .u64 a0_4, .int .u64 a0_5] 24 (0, 0)) (by (with_reducible repeat (first | refine zq0 ?_ _ | refine zq2 ?_ | refine zq1 ?_ _)); exact BK101.out)) : gb108 ≠ gb101)); have n9_ := zq3 ((by rw [hg]; exact Nat.ne_of_lt (blk_lt (g := gb102) (o := .cells #[.int .u64 a1_0, .int .u64 a1_1, .int .u64 a1_2, .int .u64 a1_3, .int .u64 a1_4, .int .u64 a1_5] 53 (0, 0)) (by (with_reducible repeat (first | refine zq0 ?_ _ | refine zq2 ?_ | refine zq1 ?_ _)); exact BK102.out)) : gb102 ≠ gb108)); have n10_ := zq3 ((by rw [hg]; exact Nat.ne_of_gt (blk_lt (g := gb102) (o := .cells #[.int .u64 a1_0, .int .u64 a1_1, .int .u64 a1_2, .int .u64 a1_3, .int .u64 a1_4, .int .u64 a1_5] 53 (0, 0)) (by (with_reducible repeat (first | refine zq0 ?_ _ | refine zq2 ?_ | refine zq1 ?_ _)); exact BK102.out)) : gb108 ≠ gb102)); have n11_ := zq3 ((by rw [hg]; exact Nat.ne_of_lt (blk_lt (g := gb103) (o := .cells #[.int .u64 0, .int .u64 0, .int .u64 0, .int .u64 0, .int .u64 0, .int .u64 0] 53 (0, 0)) (by (with_reducible repeat (first | refine zq0 ?_ _ | refine zq2 ?_ | refine zq1 ?_ _)); exact BK103.out)) : gb103 ≠ gb108)); have n12_ := zq3 ((by rw [hg]; exact Nat.ne_of_gt (blk_lt (g := gb103) (o := .cells #[.int .u64 0, .int .u64 0, .int .u64 0, .int .u64 0, .int .u64 0, .int .u64 0] 53 (0, 0)) (by (with_reducible repeat (first | refine zq0 ?_ _ | refine zq2 ?_ | refine zq1 ?_ _)); exact BK103.out)) : gb108 ≠ gb103)); clear BK101; clear BK102; clear BK103; clear HB; have BK101 := n0_; have BK102 := n1_; have BK103 := n2_; have HB := n3_; have BK108 := n4_; have GW108 := n5_; have GE108 := n6_; have NB101_108 := n7_; have NB108_101 := n8_; have NB102_108 := n9_; have NB108_102 := n10_; have NB103_108 := n11_; have NB108_103 := n12_; clear n0_ n1_ n2_ n3_ n4_ n5_ n6_ n7_ n8_ n9_ n10_ n11_ n12_; clear hb hbox hg; have hnb21 := NB108_101.out; have hnc21 := NB101_108.out; have hnb22 := NB108_102.out; have hnc22 := NB102_108.out; have hnb23 := NB108_103.out; have hnc23 := NB103_108.out; have hcz24_0 : w20.cell? ⟨gb108, 0, none⟩ = some (.int .u64 0) := (zq5 BK108.out 0).trans rfl; have hcz24_1 : w20.cell? ⟨gb108, 1, none⟩ = some (.int .u64 0) := (zq5 BK108.out 1).trans rfl; have hcz24_2 : w20.cell? ⟨gb108, 2, none⟩ = some (.int .u64 0) := (zq5 BK108.out 2).trans rfl; have hfz24_0 := zq4 BK108.out 0; have hfz24_1 := zq4 BK108.out 1; have hfz24_2 := zq4 BK108.out 2; have hcz25_0 : w20.cell? ⟨gb102, 0, none⟩ = some (.int .u64 a1_0) := (zq5 BK102.out 0).trans rfl; have hcz25_1 : w20.cell? ⟨gb102, 1, none⟩ = some (.int .u64 a1_1) := (zq5 BK102.out 1).trans rfl; have hcz25_2 : w20.cell? ⟨gb102, 2, none⟩ = some (.int .u64 a1_2) := (zq5 BK102.out 2).trans rfl; have hcz25_3 : w20.cell? ⟨gb102, 3, none⟩ = some (.int .u64 a1_3) := (zq5 BK102.out 3).trans rfl; have hcz25_4 : w20.cell? ⟨gb102, 4, none⟩ = some (.int .u64 a1_4) := (zq5 BK102.out 4).trans rfl; have hcz25_5 : w20.cell? ⟨gb102, 5, none⟩ = some (.int .u64 a1_5) := (zq5 BK102.out 5).trans rfl; have hfz25_0 := zq4 BK102.out 0; have hfz25_1 := zq4 BK102.out 1; have hfz25_2 := zq4 BK102.out 2; have hfz25_3 := zq4 BK102.out 3; have hfz25_4 := zq4 BK102.out 4; have hfz25_5 := zq4 BK102.out 5) | ((with_reducible refine gate_callee (f := 49) rfl ?_); refine goesL_ (some 28) rfl rfl Try.func49 (by kernel_rfl) rfl #[.agg #[.int .u64 a1_0, .int .u64 a1_1, .int .u64 a1_2], .int .i64 a2] rfl (by (try simp only [List.map_toArray, List.map_cons, List.map_nil]); first | done | rfl | (simp only [List.length_drop, List.length_take]; rfl)) ?_; (with_reducible refine (double_side_take.calls a1_0 a1_1 a1_2 a2 t109 t110 t111 t112 _ A14.out).mono ?_); rintro e w26 ⟨rfl, hb⟩; refine ⟨_, rfl, ?_⟩; have n0_ := zq3 (zq10 (g := gb101) (o := .cells #[.int .i64 a0_0, .bool a0_1, .int .u64 a0_2, .int .u64 a0_3, .int .u64 a0_4, .int .u64 a0_5] 24 (0, 0)) (by (with_reducible repeat (first | refine zq0 ?_ _ | refine zq2 ?_ | refine zq1 ?_ _)); refine zq11 ?_ NB101_108.out _; (with_reducible repeat (first | refine zq0 ?_ _ | refine zq2 ?_ | refine zq1 ?_ _)); refine zq11 ?_ NB101_108.out _; (with_reducible repeat (first | refine zq0 ?_ _ | refine zq2 ?_ | refine zq1 ?_ _)); refine zq11 ?_ NB101_108.out _; (with_reducible repeat (first | refine zq0 ?_ _ | refine zq2 ?_ | refine zq1 ?_ _)); exact BK101.out) hb); have n1_ := zq3 (zq10 (g := gb102) (o := .cells #[.int .u64 a1_0, .int .u64 a1_1, .int .u64 a1_2, .int .u64 a1_3, .int .u64 a1_4, .int .u64 a1_5] 53 (0, 0)) (by (with_reducible repeat (first | refine zq0 ?_ _ | refine zq2 ?_ | refine zq1 ?_ _)); refine zq11 ?_ NB102_108.out _; (with_reducible repeat (first | refine zq0 ?_ _ | refine zq2 ?_ | refine zq1 ?_ _)); refine zq11 ?_ NB102_108.out _; (with_reducible repeat (first | refine zq0 ?_ _ | refine zq2 ?_ | refine zq1 ?_ _)); refine zq11 ?_ NB102_108.out _; (with_reducible repeat (first | refine zq0 ?_ _ | refine zq2 ?_ | refine zq1 ?_ _)); exact BK102.out) hb); have n2_ := zq3 (zq10 (g := gb103) (o := .cells #[.int .u64 0, .int .u64 0, .int .u64 0, .int .u64 0, .int .u64 0, .int .u64 0] 53 (0, 0)) (by (with_reducible repeat (first | refine zq0 ?_ _ | refine zq2 ?_ | refine zq1 ?_ _)); refine zq11 ?_ NB103_108.out _; (with_reducible repeat (first | refine zq0 ?_ _ | refine zq2 ?_ | refine zq1 ?_ _)); refine zq11 ?_ NB103_108.out _; (with_reducible repeat (first | refine zq0 ?_ _ | refine zq2 ?_ | refine zq1 ?_ _)); refine zq11 ?_ NB103_108.out _; (with_reducible repeat (first | refine zq0 ?_ _ | refine zq2 ?_ | refine zq1 ?_ _)); exact BK103.out) hb); have n3_ := zq3 (zq10 (g := gb108) (o := .cells #[.int .u64 t104, .int .u64 t105, .int .u64 t106] 52 (0, 0)) (by (with_reducible repeat (first | refine zq0 ?_ _ | refine zq2 ?_ | refine zq1 ?_ _)); refine blk_put (cs := #[.int .u64 t104, .int .u64 t105, .int .u64 0]) ?_ 2 _ rfl; (with_reducible repeat (first | refine zq0 ?_ _ | refine zq2 ?_ | refine zq1 ?_ _)); refine blk_put (cs := #[.int .u64 t104, .int .u64 0, .int .u64 0]) ?_ 1 _ rfl; (with_reducible repeat (first | refine zq0 ?_ _ | refine zq2 ?_ | refine zq1 ?_ _)); refine blk_put (cs := #[.int .u64 0, .int .u64 0, .int .u64 0]) ?_ 0 _ rfl; (with_reducible repeat (first | refine zq0 ?_ _ | refine zq2 ?_ | refine zq1 ?_ _)); exact BK108.out) hb); have n4_ := zq3 (below_step (by repeat (first | (with_reducible first | exact HB.out | apply zq9 | apply zq7 | apply zq8 | refine zq6 ?_ GE101.out | refine zq6 ?_ GE102.out | refine zq6 ?_ GE103.out | refine zq6 ?_ GE108.out) | exact HB.out)) hb); clear BK101; clear BK102; clear BK103; clear BK108; clear HB; have BK101 := n0_; have BK102 := n1_; have BK103 := n2_; have BK108 := n3_; have HB := n4_; clear n0_ n1_ n2_ n3_ n4_; (try clear hb); (try clear hb2); (try clear hk); (try clear hi)) | ((with_reducible refine gate_dst (N := 12) rfl ?_); refine box_event ?hg (N := 12) ?hd (cs := #[.int .u64 0, .int .u64 0, .int .u64 0]) (t := 52) ?hr ?_; (case hd => rfl); (case hg => rfl); (case hr => first | (go_simp; done) | (go_simp; rfl)); intro gb113 hg w27 hbox hb; have n0_ := zq3 (zq10 (g := gb101) (o := .cells #[.int .i64 a0_0, .bool a0_1, .int .u64 a0_2, .int .u64 a0_3, .int .u64 a0_4, .int .u64 a0_5] 24 (0, 0)) (by (with_reducible repeat (first | refine zq0 ?_ _ | refine zq2 ?_ | refine zq1 ?_ _)); exact BK101.out) hb); have n1_ := zq3 (zq10 (g := gb102) (o := .cells #[.int .u64 a1_0, .int .u64 a1_1, .int .u64 a1_2, .int .u64 a1_3, .int .u64 a1_4, .int .u64 a1_5] 53 (0, 0)) (by (with_reducible repeat (first | refine zq0 ?_ _ | refine zq2 ?_ | refine zq1 ?_ _)); exact BK102.out) hb); have n2_ := zq3 (zq10 (g := gb103) (o := .cells #[.int .u64 0, .int .u64 0, .int .u64 0, .int .u64 0, .int .u64 0, .int .u64 0] 53 (0, 0)) (by (with_reducible repeat (first | refine zq0 ?_ _ | refine zq2 ?_ | refine zq1 ?_ _)); exact BK103.out) hb); have n3_ := zq3 (zq10 (g := gb108) (o := .cells #[.int .u64 t104, .int .u64 t105, .int .u64 t106] 52 (0, 0)) (by (with_reducible repeat (first | refine zq0 ?_ _ | refine zq2 ?_ | refine zq1 ?_ _)); exact BK108.out) hb); have n4_ := zq3 (below_step (by repeat (first | (with_reducible first | exact HB.out | apply zq9 | apply zq7 | apply zq8 | refine zq6 ?_ GE101.out | refine zq6 ?_ GE102.out | refine zq6 ?_ GE103.out | refine zq6 ?_ GE108.out) | exact HB.out)) hb); have n5_ := zq3 (hbox); have n6_ := zq3 ((by rw [hg]; exact (below_size (by repeat (first | (with_reducible first | exact HB.out | apply zq9 | apply zq7 | apply zq8 | refine zq6 ?_ GE101.out | refine zq6 ?_ GE102.out | refine zq6 ?_ GE103.out | refine zq6 ?_ GE108.out) | exact HB.out))) : w.heap.size ≤ gb113)); have n7_ := zq3 ((by rw [hg]; exact (below_size (by repeat (first | (with_reducible first | exact HB.out | apply zq9 | apply zq7 | apply zq8 | refine zq6 ?_ GE101.out | refine zq6 ?_ GE102.out | refine zq6 ?_ GE103.out | refine zq6 ?_ GE108.out) | exact HB.out))) : w.heap.size ≤ gb113)); have n8_ := zq3 ((by rw [hg]; exact Nat.ne_of_lt (blk_lt (g := gb101) (o := .cells #[.int .i64 a0_0, .bool a0_1, .int .u64 a0_2, .int .u64 a0_3, .int .u64 a0_4, .int .u64 a0_5] 24 (0, 0)) (by (with_reducible repeat (first | refine zq0 ?_ _ | refine zq2 ?_ | refine zq1 ?_ _)); exact BK101.out)) : gb101 ≠ gb113)); have n9_ := zq3 ((by rw [hg]; exact Nat.ne_of_gt (blk_lt (g := gb101) (o := .cells #[.int .i64 a0_0, .bool a0_1, .int .u64 a0_2, .int .u64 a0_3, .int .u64 a0_4, .int .u64 a0_5] 24 (0, 0)) (by (with_reducible repeat (first | refine zq0 ?_ _ | refine zq2 ?_ | refine zq1 ?_ _)); exact BK101.out)) : gb113 ≠ gb101)); have n10_ := zq3 ((by rw [hg]; exact Nat.ne_of_lt (blk_lt (g := gb102) (o := .cells #[.int .u64 a1_0, .int .u64 a1_1, .int .u64 a1_2, .int .u64 a1_3, .int .u64 a1_4, .int .u64 a1_5] 53 (0, 0)) (by (with_reducible repeat (first | refine zq0 ?_ _ | refine zq2 ?_ | refine zq1 ?_ _)); exact BK102.out)) : gb102 ≠ gb113)); have n11_ := zq3 ((by rw [hg]; exact Nat.ne_of_gt (blk_lt (g := gb102) (o := .cells #[.int .u64 a1_0, .int .u64 a1_1, .int .u64 a1_2, .int .u64 a1_3, .int .u64 a1_4, .int .u64 a1_5] 53 (0, 0)) (by (with_reducible repeat (first | refine zq0 ?_ _ | refine zq2 ?_ | refine zq1 ?_ _)); exact BK102.out)) : gb113 ≠ gb102)); have n12_ := zq3 ((by rw [hg]; exact Nat.ne_of_lt (blk_lt (g := gb103) (o := .cells #[.int .u64 0, .int .u64 0, .int .u64 0, .int .u64 0, .int .u64 0, .int .u64 0] 53 (0, 0)) (by (with_reducible repeat (first | refine zq0 ?_ _ | refine zq2 ?_ | refine zq1 ?_ _)); exact BK103.out)) : gb103 ≠ gb113)); have n13_ := zq3 ((by rw [hg]; exact Nat.ne_of_gt (blk_lt (g := gb103) (o := .cells #[.int .u64 0, .int .u64 0, .int .u64 0, .int .u64 0, .int .u64 0, .int .u64 0] 53 (0, 0)) (by (with_reducible repeat (first | refine zq0 ?_ _ | refine zq2 ?_ | refine zq1 ?_ _)); exact BK103.out)) : gb113 ≠ gb103)); have n14_ := zq3 ((by rw [hg]; exact Nat.ne_of_lt (blk_lt (g := gb108) (o := .cells #[.int .u64 t104, .int .u64 t105, .int .u64 t106] 52 (0, 0)) (by (with_reducible repeat (first | refine zq0 ?_ _ | refine zq2 ?_ | refine zq1 ?_ _)); exact BK108.out)) : gb108 ≠ gb113)); have n15_ := zq3 ((by rw [hg]; exact Nat.ne_of_gt (blk_lt (g := gb108) (o := .cells #[.int .u64 t104, .int .u64 t105, .int .u64 t106] 52 (0, 0)) (by (with_reducible repeat (first | refine zq0 ?_ _ | refine zq2 ?_ | refine zq1 ?_ _)); exact BK108.out)) : gb113 ≠ gb108)); clear BK101; clear BK102; clear BK103; clear BK108; clear HB; have BK101 := n0_; have BK102 := n1_; have BK103 := n2_; have BK108 := n3_; have HB := n4_; have BK113 := n5_; have GW113 := n6_; have GE113 := n7_; have NB101_113 := n8_; have NB113_101 := n9_; have NB102_113 := n10_; have NB113_102 := n11_; have NB103_113 := n12_; have NB113_103 := n13_; have NB108_113 := n14_; have NB113_108 := n15_; clear n0_ n1_ n2_ n3_ n4_ n5_ n6_ n7_ n8_ n9_ n10_ n11_ n12_ n13_ n14_ n15_; clear hb hbox hg; have hnb28 := NB113_101.out; have hnc28 := NB101_113.out; have hnb29 := NB113_102.out; have hnc29 := NB102_113.out; have hnb30 := NB113_103.out; have hnc30 := NB103_113.out; have hnb31 := NB113_108.out; have hnc31 := NB108_113.out; have hcz32_0 : w27.cell? ⟨gb113, 0, none⟩ = some (.int .u64 0) := (zq5 BK113.out 0).trans rfl; have hcz32_1 : w27.cell? ⟨gb113, 1, none⟩ = some (.int .u64 0) := (zq5 BK113.out 1).trans rfl; have hcz32_2 : w27.cell? ⟨gb113, 2, none⟩ = some (.int .u64 0) := (zq5 BK113.out 2).trans rfl; have hfz32_0 := zq4 BK113.out 0; have hfz32_1 := zq4 BK113.out 1; have hfz32_2 := zq4 BK113.out 2))
      (try simp only [Act.put, List.setIfInBounds_toArray, List.set_cons_zero, List.set_cons_succ])
      go_cut [31] (fun v31 wc => ∃ (kq : Nat) (x31_14 : Bool), v31 = .bool x31_14 ∧ Aside0 (double_paint.j1 kq x3_4 t112 x31_14 a1_0 a1_1 a1_2 a1_3 a1_4 a1_5 t104 t105 t106 t109 t110 t111 = some (r1, r2, r3, r4, r5, r6, r7)) ∧ Aside0 (kq ≤ kj4) ∧ Aside0 (wc.heap[gb101]? = some (.cells #[.int .i64 a0_0, .bool a0_1, .int .u64 a0_2, .int .u64 a0_3, .int .u64 a0_4, .int .u64 a0_5] 24 (0, 0))) ∧ Aside0 (wc.heap[gb102]? = some (.cells #[.int .u64 a1_0, .int .u64 a1_1, .int .u64 a1_2, .int .u64 a1_3, .int .u64 a1_4, .int .u64 a1_5] 53 (0, 0))) ∧ Aside0 (wc.heap[gb103]? = some (.cells #[.int .u64 0, .int .u64 0, .int .u64 0, .int .u64 0, .int .u64 0, .int .u64 0] 53 (0, 0))) ∧ Aside0 (wc.heap[gb108]? = some (.cells #[.int .u64 t104, .int .u64 t105, .int .u64 t106] 52 (0, 0))) ∧ Aside0 (wc.heap[gb113]? = some (.cells #[.int .u64 t109, .int .u64 t110, .int .u64 t111] 52 (0, 0))) ∧ Aside0 (Below w.heap.size w wc))
      case first =>
        have H := HC15.out
        clear HC15
        by_cases c33 : x3_4 = 0
        · rw [if_pos c33] at H
          have c33b0 : (x3_4 == 0) = true := beq_iff_eq.mpr c33
          have c33b1 : (x3_4 != 0) = false := bne_eq_false_iff_eq.mpr c33
          clear c33
          (first | rw [c33b0] | (simp only [i64_w, i32_w]; rw [c33b0]) | skip)
          have H' := zq3 H
          clear H
          go_wp2
          go_meet
          case rel => exact ⟨_, (!t107), (by first | rfl | (simp; done) | (simp [*]; done)), H', ⟨by have := HJ4.out; first | omega | exact Nat.le_refl _⟩, ⟨by (with_reducible repeat (first | refine zq0 ?_ _ | refine zq2 ?_ | refine zq1 ?_ _)); refine zq11 ?_ NB101_113.out _; (with_reducible repeat (first | refine zq0 ?_ _ | refine zq2 ?_ | refine zq1 ?_ _)); refine zq11 ?_ NB101_113.out _; (with_reducible repeat (first | refine zq0 ?_ _ | refine zq2 ?_ | refine zq1 ?_ _)); refine zq11 ?_ NB101_113.out _; (with_reducible repeat (first | refine zq0 ?_ _ | refine zq2 ?_ | refine zq1 ?_ _)); exact BK101.out⟩, ⟨by (with_reducible repeat (first | refine zq0 ?_ _ | refine zq2 ?_ | refine zq1 ?_ _)); refine zq11 ?_ NB102_113.out _; (with_reducible repeat (first | refine zq0 ?_ _ | refine zq2 ?_ | refine zq1 ?_ _)); refine zq11 ?_ NB102_113.out _; (with_reducible repeat (first | refine zq0 ?_ _ | refine zq2 ?_ | refine zq1 ?_ _)); refine zq11 ?_ NB102_113.out _; (with_reducible repeat (first | refine zq0 ?_ _ | refine zq2 ?_ | refine zq1 ?_ _)); exact BK102.out⟩, ⟨by (with_reducible repeat (first | refine zq0 ?_ _ | refine zq2 ?_ | refine zq1 ?_ _)); refine zq11 ?_ NB103_113.out _; (with_reducible repeat (first | refine zq0 ?_ _ | refine zq2 ?_ | refine zq1 ?_ _)); refine zq11 ?_ NB103_113.out _; (with_reducible repeat (first | refine zq0 ?_ _ | refine zq2 ?_ | refine zq1 ?_ _)); refine zq11 ?_ NB103_113.out _; (with_reducible repeat (first | refine zq0 ?_ _ | refine zq2 ?_ | refine zq1 ?_ _)); exact BK103.out⟩, ⟨by (with_reducible repeat (first | refine zq0 ?_ _ | refine zq2 ?_ | refine zq1 ?_ _)); refine zq11 ?_ NB108_113.out _; (with_reducible repeat (first | refine zq0 ?_ _ | refine zq2 ?_ | refine zq1 ?_ _)); refine zq11 ?_ NB108_113.out _; (with_reducible repeat (first | refine zq0 ?_ _ | refine zq2 ?_ | refine zq1 ?_ _)); refine zq11 ?_ NB108_113.out _; (with_reducible repeat (first | refine zq0 ?_ _ | refine zq2 ?_ | refine zq1 ?_ _)); exact BK108.out⟩, ⟨by (with_reducible repeat (first | refine zq0 ?_ _ | refine zq2 ?_ | refine zq1 ?_ _)); refine blk_put (cs := #[.int .u64 t109, .int .u64 t110, .int .u64 0]) ?_ 2 _ rfl; (with_reducible repeat (first | refine zq0 ?_ _ | refine zq2 ?_ | refine zq1 ?_ _)); refine blk_put (cs := #[.int .u64 t109, .int .u64 0, .int .u64 0]) ?_ 1 _ rfl; (with_reducible repeat (first | refine zq0 ?_ _ | refine zq2 ?_ | refine zq1 ?_ _)); refine blk_put (cs := #[.int .u64 0, .int .u64 0, .int .u64 0]) ?_ 0 _ rfl; (with_reducible repeat (first | refine zq0 ?_ _ | refine zq2 ?_ | refine zq1 ?_ _)); exact BK113.out⟩, ⟨by repeat (first | (with_reducible first | exact HB.out | apply zq9 | apply zq7 | apply zq8 | refine zq6 ?_ GE101.out | refine zq6 ?_ GE102.out | refine zq6 ?_ GE103.out | refine zq6 ?_ GE108.out | refine zq6 ?_ GE113.out) | exact HB.out)⟩⟩
        · rw [if_neg c33] at H
          have c33b0 : (x3_4 == 0) = false := beq_eq_false_iff_ne.mpr c33
          have c33b1 : (x3_4 != 0) = true := bne_iff_ne.mpr c33
          (first | rw [c33b0] | (simp only [i64_w, i32_w]; rw [c33b0]) | skip)
          by_cases c34 : x3_4 = 1
          · rw [if_pos c34] at H
            have c34b0 : (x3_4 == 1) = true := beq_iff_eq.mpr c34
            have c34b1 : (x3_4 != 1) = false := bne_eq_false_iff_eq.mpr c34
            clear c34
            have H' := zq3 H
            clear H
            go_wp2
            go_meet
            case rel => exact ⟨_, (!t107), (by first | rfl | (simp; done) | (simp [*]; done)), H', ⟨by have := HJ4.out; first | omega | exact Nat.le_refl _⟩, ⟨by (with_reducible repeat (first | refine zq0 ?_ _ | refine zq2 ?_ | refine zq1 ?_ _)); refine zq11 ?_ NB101_113.out _; (with_reducible repeat (first | refine zq0 ?_ _ | refine zq2 ?_ | refine zq1 ?_ _)); refine zq11 ?_ NB101_113.out _; (with_reducible repeat (first | refine zq0 ?_ _ | refine zq2 ?_ | refine zq1 ?_ _)); refine zq11 ?_ NB101_113.out _; (with_reducible repeat (first | refine zq0 ?_ _ | refine zq2 ?_ | refine zq1 ?_ _)); exact BK101.out⟩, ⟨by (with_reducible repeat (first | refine zq0 ?_ _ | refine zq2 ?_ | refine zq1 ?_ _)); refine zq11 ?_ NB102_113.out _; (with_reducible repeat (first | refine zq0 ?_ _ | refine zq2 ?_ | refine zq1 ?_ _)); refine zq11 ?_ NB102_113.out _; (with_reducible repeat (first | refine zq0 ?_ _ | refine zq2 ?_ | refine zq1 ?_ _)); refine zq11 ?_ NB102_113.out _; (with_reducible repeat (first | refine zq0 ?_ _ | refine zq2 ?_ | refine zq1 ?_ _)); exact BK102.out⟩, ⟨by (with_reducible repeat (first | refine zq0 ?_ _ | refine zq2 ?_ | refine zq1 ?_ _)); refine zq11 ?_ NB103_113.out _; (with_reducible repeat (first | refine zq0 ?_ _ | refine zq2 ?_ | refine zq1 ?_ _)); refine zq11 ?_ NB103_113.out _; (with_reducible repeat (first | refine zq0 ?_ _ | refine zq2 ?_ | refine zq1 ?_ _)); refine zq11 ?_ NB103_113.out _; (with_reducible repeat (first | refine zq0 ?_ _ | refine zq2 ?_ | refine zq1 ?_ _)); exact BK103.out⟩, ⟨by (with_reducible repeat (first | refine zq0 ?_ _ | refine zq2 ?_ | refine zq1 ?_ _)); refine zq11 ?_ NB108_113.out _; (with_reducible repeat (first | refine zq0 ?_ _ | refine zq2 ?_ | refine zq1 ?_ _)); refine zq11 ?_ NB108_113.out _; (with_reducible repeat (first | refine zq0 ?_ _ | refine zq2 ?_ | refine zq1 ?_ _)); refine zq11 ?_ NB108_113.out _; (with_reducible repeat (first | refine zq0 ?_ _ | refine zq2 ?_ | refine zq1 ?_ _)); exact BK108.out⟩, ⟨by (with_reducible repeat (first | refine zq0 ?_ _ | refine zq2 ?_ | refine zq1 ?_ _)); refine blk_put (cs := #[.int .u64 t109, .int .u64 t110, .int .u64 0]) ?_ 2 _ rfl; (with_reducible repeat (first | refine zq0 ?_ _ | refine zq2 ?_ | refine zq1 ?_ _)); refine blk_put (cs := #[.int .u64 t109, .int .u64 0, .int .u64 0]) ?_ 1 _ rfl; (with_reducible repeat (first | refine zq0 ?_ _ | refine zq2 ?_ | refine zq1 ?_ _)); refine blk_put (cs := #[.int .u64 0, .int .u64 0, .int .u64 0]) ?_ 0 _ rfl; (with_reducible repeat (first | refine zq0 ?_ _ | refine zq2 ?_ | refine zq1 ?_ _)); exact BK113.out⟩, ⟨by repeat (first | (with_reducible first | exact HB.out | apply zq9 | apply zq7 | apply zq8 | refine zq6 ?_ GE101.out | refine zq6 ?_ GE102.out | refine zq6 ?_ GE103.out | refine zq6 ?_ GE108.out | refine zq6 ?_ GE113.out) | exact HB.out)⟩⟩
          · rw [if_neg c34] at H
            have c34b0 : (x3_4 == 1) = false := beq_eq_false_iff_ne.mpr c34
            have c34b1 : (x3_4 != 1) = true := bne_iff_ne.mpr c34
            have H' := zq3 H
            clear H
            go_wp2
            go_meet
            case rel => exact ⟨_, (true), (by first | rfl | (simp; done) | (simp [*]; done)), H', ⟨by have := HJ4.out; first | omega | exact Nat.le_refl _⟩, ⟨by (with_reducible repeat (first | refine zq0 ?_ _ | refine zq2 ?_ | refine zq1 ?_ _)); refine zq11 ?_ NB101_113.out _; (with_reducible repeat (first | refine zq0 ?_ _ | refine zq2 ?_ | refine zq1 ?_ _)); refine zq11 ?_ NB101_113.out _; (with_reducible repeat (first | refine zq0 ?_ _ | refine zq2 ?_ | refine zq1 ?_ _)); refine zq11 ?_ NB101_113.out _; (with_reducible repeat (first | refine zq0 ?_ _ | refine zq2 ?_ | refine zq1 ?_ _)); exact BK101.out⟩, ⟨by (with_reducible repeat (first | refine zq0 ?_ _ | refine zq2 ?_ | refine zq1 ?_ _)); refine zq11 ?_ NB102_113.out _; (with_reducible repeat (first | refine zq0 ?_ _ | refine zq2 ?_ | refine zq1 ?_ _)); refine zq11 ?_ NB102_113.out _; (with_reducible repeat (first | refine zq0 ?_ _ | refine zq2 ?_ | refine zq1 ?_ _)); refine zq11 ?_ NB102_113.out _; (with_reducible repeat (first | refine zq0 ?_ _ | refine zq2 ?_ | refine zq1 ?_ _)); exact BK102.out⟩, ⟨by (with_reducible repeat (first | refine zq0 ?_ _ | refine zq2 ?_ | refine zq1 ?_ _)); refine zq11 ?_ NB103_113.out _; (with_reducible repeat (first | refine zq0 ?_ _ | refine zq2 ?_ | refine zq1 ?_ _)); refine zq11 ?_ NB103_113.out _; (with_reducible repeat (first | refine zq0 ?_ _ | refine zq2 ?_ | refine zq1 ?_ _)); refine zq11 ?_ NB103_113.out _; (with_reducible repeat (first | refine zq0 ?_ _ | refine zq2 ?_ | refine zq1 ?_ _)); exact BK103.out⟩, ⟨by (with_reducible repeat (first | refine zq0 ?_ _ | refine zq2 ?_ | refine zq1 ?_ _)); refine zq11 ?_ NB108_113.out _; (with_reducible repeat (first | refine zq0 ?_ _ | refine zq2 ?_ | refine zq1 ?_ _)); refine zq11 ?_ NB108_113.out _; (with_reducible repeat (first | refine zq0 ?_ _ | refine zq2 ?_ | refine zq1 ?_ _)); refine zq11 ?_ NB108_113.out _; (with_reducible repeat (first | refine zq0 ?_ _ | refine zq2 ?_ | refine zq1 ?_ _)); exact BK108.out⟩, ⟨by (with_reducible repeat (first | refine zq0 ?_ _ | refine zq2 ?_ | refine zq1 ?_ _)); refine blk_put (cs := #[.int .u64 t109, .int .u64 t110, .int .u64 0]) ?_ 2 _ rfl; (with_reducible repeat (first | refine zq0 ?_ _ | refine zq2 ?_ | refine zq1 ?_ _)); refine blk_put (cs := #[.int .u64 t109, .int .u64 0, .int .u64 0]) ?_ 1 _ rfl; (with_reducible repeat (first | refine zq0 ?_ _ | refine zq2 ?_ | refine zq1 ?_ _)); refine blk_put (cs := #[.int .u64 0, .int .u64 0, .int .u64 0]) ?_ 0 _ rfl; (with_reducible repeat (first | refine zq0 ?_ _ | refine zq2 ?_ | refine zq1 ?_ _)); exact BK113.out⟩, ⟨by repeat (first | (with_reducible first | exact HB.out | apply zq9 | apply zq7 | apply zq8 | refine zq6 ?_ GE101.out | refine zq6 ?_ GE102.out | refine zq6 ?_ GE103.out | refine zq6 ?_ GE108.out | refine zq6 ?_ GE113.out) | exact HB.out)⟩⟩
      case rest =>
        clear HC15
        try clear c1
        try clear c2
        try clear p2
        try clear c3
        try clear c4
        try clear c9
        try clear c10
        try clear c12
        try clear c16
        try clear c17
        try clear c21
        try clear c22
        try clear c23
        try clear c28
        try clear c29
        try clear c30
        try clear c31
        try clear c33
        try clear c33b0
        try clear c33b1
        try clear c34
        try clear c34b0
        try clear c34b1
        try clear hcz11_0
        try clear hcz11_1
        try clear hcz11_2
        try clear hcz11_3
        try clear hcz11_4
        try clear hcz11_5
        try clear hcz18_0
        try clear hcz18_1
        try clear hcz18_2
        try clear hcz18_3
        try clear hcz18_4
        try clear hcz18_5
        try clear hcz24_0
        try clear hcz24_1
        try clear hcz24_2
        try clear hcz25_0
        try clear hcz25_1
        try clear hcz25_2
        try clear hcz25_3
        try clear hcz25_4
        try clear hcz25_5
        try clear hcz32_0
        try clear hcz32_1
        try clear hcz32_2
        try clear hfz11_0
        try clear hfz11_1
        try clear hfz11_2
        try clear hfz11_3
        try clear hfz11_4
        try clear hfz11_5
        try clear hfz18_0
        try clear hfz18_1
        try clear hfz18_2
        try clear hfz18_3
        try clear hfz18_4
        try clear hfz18_5
        try clear hfz24_0
        try clear hfz24_1
        try clear hfz24_2
        try clear hfz25_0
        try clear hfz25_1
        try clear hfz25_2
        try clear hfz25_3
        try clear hfz25_4
        try clear hfz25_5
        try clear hfz32_0
        try clear hfz32_1
        try clear hfz32_2
        try clear p2
        obtain ⟨kq, x31_14, rfl, HA, HJ14, BK101, BK102, BK103, BK108, BK113, HB⟩ := hcut
        cases kq with
        | zero => exact absurd HA.out (by simp [double_paint.j1])
        | succ kj14 =>
          have H := HA.out
          clear HA
          simp only [double_paint.j1] at H
          by_cases c35 : x31_14 = true
          · subst c35
            have H1 : (some (a1_0, a1_1, a1_2, a1_3, a1_4, a1_5, 2)) = some (r1, r2, r3, r4, r5, r6, r7) := by rw [if_pos rfl] at H; exact H
            clear H
            have H := H1
            clear H1
            simp only [Option.some.injEq, Prod.mk.injEq] at H
            obtain ⟨rfl, rfl, rfl, rfl, rfl, rfl, rfl⟩ := H
            have hnb36 := NB102_101.out
            have hnc36 := NB101_102.out
            have hnb37 := NB102_103.out
            have hnc37 := NB103_102.out
            have hnb38 := NB102_108.out
            have hnc38 := NB108_102.out
            have hnb39 := NB102_113.out
            have hnc39 := NB113_102.out
            have hcz40_0 : wc.cell? ⟨gb102, 0, none⟩ = some (.int .u64 a1_0) := (zq5 BK102.out 0).trans rfl
            have hcz40_1 : wc.cell? ⟨gb102, 1, none⟩ = some (.int .u64 a1_1) := (zq5 BK102.out 1).trans rfl
            have hcz40_2 : wc.cell? ⟨gb102, 2, none⟩ = some (.int .u64 a1_2) := (zq5 BK102.out 2).trans rfl
            have hcz40_3 : wc.cell? ⟨gb102, 3, none⟩ = some (.int .u64 a1_3) := (zq5 BK102.out 3).trans rfl
            have hcz40_4 : wc.cell? ⟨gb102, 4, none⟩ = some (.int .u64 a1_4) := (zq5 BK102.out 4).trans rfl
            have hcz40_5 : wc.cell? ⟨gb102, 5, none⟩ = some (.int .u64 a1_5) := (zq5 BK102.out 5).trans rfl
            have hfz40_0 := zq4 BK102.out 0
            have hfz40_1 := zq4 BK102.out 1
            have hfz40_2 := zq4 BK102.out 2
            have hfz40_3 := zq4 BK102.out 3
            have hfz40_4 := zq4 BK102.out 4
            have hfz40_5 := zq4 BK102.out 5
            have hnb41 := NB103_101.out
            have hnc41 := NB101_103.out
            have hnb42 := NB103_108.out
            have hnc42 := NB108_103.out
            have hnb43 := NB103_113.out
            have hnc43 := NB113_103.out
            have hcz44_0 : wc.cell? ⟨gb103, 0, none⟩ = some (.int .u64 0) := (zq5 BK103.out 0).trans rfl
            have hcz44_1 : wc.cell? ⟨gb103, 1, none⟩ = some (.int .u64 0) := (zq5 BK103.out 1).trans rfl
            have hcz44_2 : wc.cell? ⟨gb103, 2, none⟩ = some (.int .u64 0) := (zq5 BK103.out 2).trans rfl
            have hcz44_3 : wc.cell? ⟨gb103, 3, none⟩ = some (.int .u64 0) := (zq5 BK103.out 3).trans rfl
            have hcz44_4 : wc.cell? ⟨gb103, 4, none⟩ = some (.int .u64 0) := (zq5 BK103.out 4).trans rfl
            have hcz44_5 : wc.cell? ⟨gb103, 5, none⟩ = some (.int .u64 0) := (zq5 BK103.out 5).trans rfl
            have hfz44_0 := zq4 BK103.out 0
            have hfz44_1 := zq4 BK103.out 1
            have hfz44_2 := zq4 BK103.out 2
            have hfz44_3 := zq4 BK103.out 3
            have hfz44_4 := zq4 BK103.out 4
            have hfz44_5 := zq4 BK103.out 5
            go_wp2
            refine bodyPost_ret (results_ct rfl _ _ gb103 53 #[.int .u64 a1_0, .int .u64 a1_1, .int .u64 a1_2, .int .u64 a1_3, .int .u64 a1_4, .int .u64 a1_5] (0, 0) _ rfl (by (with_reducible repeat (first | refine zq0 ?_ _ | refine zq2 ?_ | refine zq1 ?_ _)); refine blk_put (cs := #[.int .u64 a1_0, .int .u64 a1_1, .int .u64 a1_2, .int .u64 a1_3, .int .u64 a1_4, .int .u64 0]) ?_ 5 _ rfl; (with_reducible repeat (first | refine zq0 ?_ _ | refine zq2 ?_ | refine zq1 ?_ _)); refine blk_put (cs := #[.int .u64 a1_0, .int .u64 a1_1, .int .u64 a1_2, .int .u64 a1_3, .int .u64 0, .int .u64 0]) ?_ 4 _ rfl; (with_reducible repeat (first | refine zq0 ?_ _ | refine zq2 ?_ | refine zq1 ?_ _)); refine blk_put (cs := #[.int .u64 a1_0, .int .u64 a1_1, .int .u64 a1_2, .int .u64 0, .int .u64 0, .int .u64 0]) ?_ 3 _ rfl; (with_reducible repeat (first | refine zq0 ?_ _ | refine zq2 ?_ | refine zq1 ?_ _)); refine blk_put (cs := #[.int .u64 a1_0, .int .u64 a1_1, .int .u64 0, .int .u64 0, .int .u64 0, .int .u64 0]) ?_ 2 _ rfl; (with_reducible repeat (first | refine zq0 ?_ _ | refine zq2 ?_ | refine zq1 ?_ _)); refine blk_put (cs := #[.int .u64 a1_0, .int .u64 0, .int .u64 0, .int .u64 0, .int .u64 0, .int .u64 0]) ?_ 1 _ rfl; (with_reducible repeat (first | refine zq0 ?_ _ | refine zq2 ?_ | refine zq1 ?_ _)); refine blk_put (cs := #[.int .u64 0, .int .u64 0, .int .u64 0, .int .u64 0, .int .u64 0, .int .u64 0]) ?_ 0 _ rfl; (with_reducible repeat (first | refine zq0 ?_ _ | refine zq2 ?_ | refine zq1 ?_ _)); exact BK103.out) Try.underlying53 rfl (by kernel_rfl)) rfl ?_
            exact ⟨by first | rfl | (simp [errW_none, errW_some] <;> rfl) | (simp [*, errW_none, errW_some] <;> rfl), by repeat (first | (with_reducible first | exact HB.out | apply zq9 | apply zq7 | apply zq8 | refine zq6 ?_ GE101.out | refine zq6 ?_ GE102.out | refine zq6 ?_ GE103.out | refine zq6 ?_ GE108.out | refine zq6 ?_ GE113.out) | exact HB.out)⟩
          · replace c35 := Bool.eq_false_iff.mpr c35
            subst c35
            have H1 : (if x3_4 = 1 then (some (a1_0, a1_1, a1_2, t104, t105, t106, 1)) else (if t112 = true then (some (t109, t110, t111, t104, t105, t106, 0)) else (some (a1_0, a1_1, a1_2, t104, t105, t106, 1)))) = some (r1, r2, r3, r4, r5, r6, r7) := by rw [if_neg (show ¬ (false = true) by decide)] at H; exact H
            clear H
            have H := H1
            clear H1
            by_cases c45 : x3_4 = 1
            · rw [if_pos c45] at H
              have c45b0 : (x3_4 == 1) = true := beq_iff_eq.mpr c45
              have c45b1 : (x3_4 != 1) = false := bne_eq_false_iff_eq.mpr c45
              clear c45
              simp only [Option.some.injEq, Prod.mk.injEq] at H
              obtain ⟨rfl, rfl, rfl, rfl, rfl, rfl, rfl⟩ := H
              have hnb46 := NB102_101.out
              have hnc46 := NB101_102.out
              have hnb47 := NB102_103.out
              have hnc47 := NB103_102.out
              have hnb48 := NB102_108.out
              have hnc48 := NB108_102.out
              have hnb49 := NB102_113.out
              have hnc49 := NB113_102.out
              have hcz50_0 : wc.cell? ⟨gb102, 0, none⟩ = some (.int .u64 a1_0) := (zq5 BK102.out 0).trans rfl
              have hcz50_1 : wc.cell? ⟨gb102, 1, none⟩ = some (.int .u64 a1_1) := (zq5 BK102.out 1).trans rfl
              have hcz50_2 : wc.cell? ⟨gb102, 2, none⟩ = some (.int .u64 a1_2) := (zq5 BK102.out 2).trans rfl
              have hcz50_3 : wc.cell? ⟨gb102, 3, none⟩ = some (.int .u64 a1_3) := (zq5 BK102.out 3).trans rfl
              have hcz50_4 : wc.cell? ⟨gb102, 4, none⟩ = some (.int .u64 a1_4) := (zq5 BK102.out 4).trans rfl
              have hcz50_5 : wc.cell? ⟨gb102, 5, none⟩ = some (.int .u64 a1_5) := (zq5 BK102.out 5).trans rfl
              have hfz50_0 := zq4 BK102.out 0
              have hfz50_1 := zq4 BK102.out 1
              have hfz50_2 := zq4 BK102.out 2
              have hfz50_3 := zq4 BK102.out 3
              have hfz50_4 := zq4 BK102.out 4
              have hfz50_5 := zq4 BK102.out 5
              have hnb51 := NB108_101.out
              have hnc51 := NB101_108.out
              have hnb52 := NB108_103.out
              have hnc52 := NB103_108.out
              have hnb53 := NB108_113.out
              have hnc53 := NB113_108.out
              have hcz54_0 : wc.cell? ⟨gb108, 0, none⟩ = some (.int .u64 t104) := (zq5 BK108.out 0).trans rfl
              have hcz54_1 : wc.cell? ⟨gb108, 1, none⟩ = some (.int .u64 t105) := (zq5 BK108.out 1).trans rfl
              have hcz54_2 : wc.cell? ⟨gb108, 2, none⟩ = some (.int .u64 t106) := (zq5 BK108.out 2).trans rfl
              have hfz54_0 := zq4 BK108.out 0
              have hfz54_1 := zq4 BK108.out 1
              have hfz54_2 := zq4 BK108.out 2
              have hnb55 := NB103_101.out
              have hnc55 := NB101_103.out
              have hnb56 := NB103_113.out
              have hnc56 := NB113_103.out
              have hcz57_0 : wc.cell? ⟨gb103, 0, none⟩ = some (.int .u64 0) := (zq5 BK103.out 0).trans rfl
              have hcz57_1 : wc.cell? ⟨gb103, 1, none⟩ = some (.int .u64 0) := (zq5 BK103.out 1).trans rfl
              have hcz57_2 : wc.cell? ⟨gb103, 2, none⟩ = some (.int .u64 0) := (zq5 BK103.out 2).trans rfl
              have hcz57_3 : wc.cell? ⟨gb103, 3, none⟩ = some (.int .u64 0) := (zq5 BK103.out 3).trans rfl
              have hcz57_4 : wc.cell? ⟨gb103, 4, none⟩ = some (.int .u64 0) := (zq5 BK103.out 4).trans rfl
              have hcz57_5 : wc.cell? ⟨gb103, 5, none⟩ = some (.int .u64 0) := (zq5 BK103.out 5).trans rfl
              have hfz57_0 := zq4 BK103.out 0
              have hfz57_1 := zq4 BK103.out 1
              have hfz57_2 := zq4 BK103.out 2
              have hfz57_3 := zq4 BK103.out 3
              have hfz57_4 := zq4 BK103.out 4
              have hfz57_5 := zq4 BK103.out 5
              go_wp2
              refine bodyPost_ret (results_ct rfl _ _ gb103 53 #[.int .u64 a1_0, .int .u64 a1_1, .int .u64 a1_2, .int .u64 t104, .int .u64 t105, .int .u64 t106] (0, 0) _ rfl (by (with_reducible repeat (first | refine zq0 ?_ _ | refine zq2 ?_ | refine zq1 ?_ _)); refine blk_put (cs := #[.int .u64 a1_0, .int .u64 a1_1, .int .u64 a1_2, .int .u64 t104, .int .u64 t105, .int .u64 0]) ?_ 5 _ rfl; (with_reducible repeat (first | refine zq0 ?_ _ | refine zq2 ?_ | refine zq1 ?_ _)); refine blk_put (cs := #[.int .u64 a1_0, .int .u64 a1_1, .int .u64 a1_2, .int .u64 t104, .int .u64 0, .int .u64 0]) ?_ 4 _ rfl; (with_reducible repeat (first | refine zq0 ?_ _ | refine zq2 ?_ | refine zq1 ?_ _)); refine blk_put (cs := #[.int .u64 a1_0, .int .u64 a1_1, .int .u64 a1_2, .int .u64 0, .int .u64 0, .int .u64 0]) ?_ 3 _ rfl; (with_reducible repeat (first | refine zq0 ?_ _ | refine zq2 ?_ | refine zq1 ?_ _)); refine blk_put (cs := #[.int .u64 a1_0, .int .u64 a1_1, .int .u64 0, .int .u64 0, .int .u64 0, .int .u64 0]) ?_ 2 _ rfl; (with_reducible repeat (first | refine zq0 ?_ _ | refine zq2 ?_ | refine zq1 ?_ _)); refine blk_put (cs := #[.int .u64 a1_0, .int .u64 0, .int .u64 0, .int .u64 0, .int .u64 0, .int .u64 0]) ?_ 1 _ rfl; (with_reducible repeat (first | refine zq0 ?_ _ | refine zq2 ?_ | refine zq1 ?_ _)); refine blk_put (cs := #[.int .u64 0, .int .u64 0, .int .u64 0, .int .u64 0, .int .u64 0, .int .u64 0]) ?_ 0 _ rfl; (with_reducible repeat (first | refine zq0 ?_ _ | refine zq2 ?_ | refine zq1 ?_ _)); exact BK103.out) Try.underlying53 rfl (by kernel_rfl)) rfl ?_
              exact ⟨by first | rfl | (simp [errW_none, errW_some] <;> rfl) | (simp [*, errW_none, errW_some] <;> rfl), by repeat (first | (with_reducible first | exact HB.out | apply zq9 | apply zq7 | apply zq8 | refine zq6 ?_ GE101.out | refine zq6 ?_ GE102.out | refine zq6 ?_ GE103.out | refine zq6 ?_ GE108.out | refine zq6 ?_ GE113.out) | exact HB.out)⟩
            · rw [if_neg c45] at H
              have c45b0 : (x3_4 == 1) = false := beq_eq_false_iff_ne.mpr c45
              have c45b1 : (x3_4 != 1) = true := bne_iff_ne.mpr c45
              by_cases c58 : t112 = true
              · subst c58
                have H1 : (some (t109, t110, t111, t104, t105, t106, 0)) = some (r1, r2, r3, r4, r5, r6, r7) := by rw [if_pos rfl] at H; exact H
                clear H
                have H := H1
                clear H1
                simp only [Option.some.injEq, Prod.mk.injEq] at H
                obtain ⟨rfl, rfl, rfl, rfl, rfl, rfl, rfl⟩ := H
                have hnb59 := NB113_101.out
                have hnc59 := NB101_113.out
                have hnb60 := NB113_102.out
                have hnc60 := NB102_113.out
                have hnb61 := NB113_103.out
                have hnc61 := NB103_113.out
                have hnb62 := NB113_108.out
                have hnc62 := NB108_113.out
                have hcz63_0 : wc.cell? ⟨gb113, 0, none⟩ = some (.int .u64 t109) := (zq5 BK113.out 0).trans rfl
                have hcz63_1 : wc.cell? ⟨gb113, 1, none⟩ = some (.int .u64 t110) := (zq5 BK113.out 1).trans rfl
                have hcz63_2 : wc.cell? ⟨gb113, 2, none⟩ = some (.int .u64 t111) := (zq5 BK113.out 2).trans rfl
                have hfz63_0 := zq4 BK113.out 0
                have hfz63_1 := zq4 BK113.out 1
                have hfz63_2 := zq4 BK113.out 2
                have hnb64 := NB108_101.out
                have hnc64 := NB101_108.out
                have hnb65 := NB108_102.out
                have hnc65 := NB102_108.out
                have hnb66 := NB108_103.out
                have hnc66 := NB103_108.out
                have hcz67_0 : wc.cell? ⟨gb108, 0, none⟩ = some (.int .u64 t104) := (zq5 BK108.out 0).trans rfl
                have hcz67_1 : wc.cell? ⟨gb108, 1, none⟩ = some (.int .u64 t105) := (zq5 BK108.out 1).trans rfl
                have hcz67_2 : wc.cell? ⟨gb108, 2, none⟩ = some (.int .u64 t106) := (zq5 BK108.out 2).trans rfl
                have hfz67_0 := zq4 BK108.out 0
                have hfz67_1 := zq4 BK108.out 1
                have hfz67_2 := zq4 BK108.out 2
                have hnb68 := NB103_101.out
                have hnc68 := NB101_103.out
                have hnb69 := NB103_102.out
                have hnc69 := NB102_103.out
                have hcz70_0 : wc.cell? ⟨gb103, 0, none⟩ = some (.int .u64 0) := (zq5 BK103.out 0).trans rfl
                have hcz70_1 : wc.cell? ⟨gb103, 1, none⟩ = some (.int .u64 0) := (zq5 BK103.out 1).trans rfl
                have hcz70_2 : wc.cell? ⟨gb103, 2, none⟩ = some (.int .u64 0) := (zq5 BK103.out 2).trans rfl
                have hcz70_3 : wc.cell? ⟨gb103, 3, none⟩ = some (.int .u64 0) := (zq5 BK103.out 3).trans rfl
                have hcz70_4 : wc.cell? ⟨gb103, 4, none⟩ = some (.int .u64 0) := (zq5 BK103.out 4).trans rfl
                have hcz70_5 : wc.cell? ⟨gb103, 5, none⟩ = some (.int .u64 0) := (zq5 BK103.out 5).trans rfl
                have hfz70_0 := zq4 BK103.out 0
                have hfz70_1 := zq4 BK103.out 1
                have hfz70_2 := zq4 BK103.out 2
                have hfz70_3 := zq4 BK103.out 3
                have hfz70_4 := zq4 BK103.out 4
                have hfz70_5 := zq4 BK103.out 5
                go_wp2
                refine bodyPost_ret (results_ct rfl _ _ gb103 53 #[.int .u64 t109, .int .u64 t110, .int .u64 t111, .int .u64 t104, .int .u64 t105, .int .u64 t106] (0, 0) _ rfl (by (with_reducible repeat (first | refine zq0 ?_ _ | refine zq2 ?_ | refine zq1 ?_ _)); refine blk_put (cs := #[.int .u64 t109, .int .u64 t110, .int .u64 t111, .int .u64 t104, .int .u64 t105, .int .u64 0]) ?_ 5 _ rfl; (with_reducible repeat (first | refine zq0 ?_ _ | refine zq2 ?_ | refine zq1 ?_ _)); refine blk_put (cs := #[.int .u64 t109, .int .u64 t110, .int .u64 t111, .int .u64 t104, .int .u64 0, .int .u64 0]) ?_ 4 _ rfl; (with_reducible repeat (first | refine zq0 ?_ _ | refine zq2 ?_ | refine zq1 ?_ _)); refine blk_put (cs := #[.int .u64 t109, .int .u64 t110, .int .u64 t111, .int .u64 0, .int .u64 0, .int .u64 0]) ?_ 3 _ rfl; (with_reducible repeat (first | refine zq0 ?_ _ | refine zq2 ?_ | refine zq1 ?_ _)); refine blk_put (cs := #[.int .u64 t109, .int .u64 t110, .int .u64 0, .int .u64 0, .int .u64 0, .int .u64 0]) ?_ 2 _ rfl; (with_reducible repeat (first | refine zq0 ?_ _ | refine zq2 ?_ | refine zq1 ?_ _)); refine blk_put (cs := #[.int .u64 t109, .int .u64 0, .int .u64 0, .int .u64 0, .int .u64 0, .int .u64 0]) ?_ 1 _ rfl; (with_reducible repeat (first | refine zq0 ?_ _ | refine zq2 ?_ | refine zq1 ?_ _)); refine blk_put (cs := #[.int .u64 0, .int .u64 0, .int .u64 0, .int .u64 0, .int .u64 0, .int .u64 0]) ?_ 0 _ rfl; (with_reducible repeat (first | refine zq0 ?_ _ | refine zq2 ?_ | refine zq1 ?_ _)); exact BK103.out) Try.underlying53 rfl (by kernel_rfl)) rfl ?_
                exact ⟨by first | rfl | (simp [errW_none, errW_some] <;> rfl) | (simp [*, errW_none, errW_some] <;> rfl), by repeat (first | (with_reducible first | exact HB.out | apply zq9 | apply zq7 | apply zq8 | refine zq6 ?_ GE101.out | refine zq6 ?_ GE102.out | refine zq6 ?_ GE103.out | refine zq6 ?_ GE108.out | refine zq6 ?_ GE113.out) | exact HB.out)⟩
              · replace c58 := Bool.eq_false_iff.mpr c58
                subst c58
                have H1 : (some (a1_0, a1_1, a1_2, t104, t105, t106, 1)) = some (r1, r2, r3, r4, r5, r6, r7) := by rw [if_neg (show ¬ (false = true) by decide)] at H; exact H
                clear H
                have H := H1
                clear H1
                simp only [Option.some.injEq, Prod.mk.injEq] at H
                obtain ⟨rfl, rfl, rfl, rfl, rfl, rfl, rfl⟩ := H
                have hnb71 := NB102_101.out
                have hnc71 := NB101_102.out
                have hnb72 := NB102_103.out
                have hnc72 := NB103_102.out
                have hnb73 := NB102_108.out
                have hnc73 := NB108_102.out
                have hnb74 := NB102_113.out
                have hnc74 := NB113_102.out
                have hcz75_0 : wc.cell? ⟨gb102, 0, none⟩ = some (.int .u64 a1_0) := (zq5 BK102.out 0).trans rfl
                have hcz75_1 : wc.cell? ⟨gb102, 1, none⟩ = some (.int .u64 a1_1) := (zq5 BK102.out 1).trans rfl
                have hcz75_2 : wc.cell? ⟨gb102, 2, none⟩ = some (.int .u64 a1_2) := (zq5 BK102.out 2).trans rfl
                have hcz75_3 : wc.cell? ⟨gb102, 3, none⟩ = some (.int .u64 a1_3) := (zq5 BK102.out 3).trans rfl
                have hcz75_4 : wc.cell? ⟨gb102, 4, none⟩ = some (.int .u64 a1_4) := (zq5 BK102.out 4).trans rfl
                have hcz75_5 : wc.cell? ⟨gb102, 5, none⟩ = some (.int .u64 a1_5) := (zq5 BK102.out 5).trans rfl
                have hfz75_0 := zq4 BK102.out 0
                have hfz75_1 := zq4 BK102.out 1
                have hfz75_2 := zq4 BK102.out 2
                have hfz75_3 := zq4 BK102.out 3
                have hfz75_4 := zq4 BK102.out 4
                have hfz75_5 := zq4 BK102.out 5
                have hnb76 := NB108_101.out
                have hnc76 := NB101_108.out
                have hnb77 := NB108_103.out
                have hnc77 := NB103_108.out
                have hnb78 := NB108_113.out
                have hnc78 := NB113_108.out
                have hcz79_0 : wc.cell? ⟨gb108, 0, none⟩ = some (.int .u64 t104) := (zq5 BK108.out 0).trans rfl
                have hcz79_1 : wc.cell? ⟨gb108, 1, none⟩ = some (.int .u64 t105) := (zq5 BK108.out 1).trans rfl
                have hcz79_2 : wc.cell? ⟨gb108, 2, none⟩ = some (.int .u64 t106) := (zq5 BK108.out 2).trans rfl
                have hfz79_0 := zq4 BK108.out 0
                have hfz79_1 := zq4 BK108.out 1
                have hfz79_2 := zq4 BK108.out 2
                have hnb80 := NB103_101.out
                have hnc80 := NB101_103.out
                have hnb81 := NB103_113.out
                have hnc81 := NB113_103.out
                have hcz82_0 : wc.cell? ⟨gb103, 0, none⟩ = some (.int .u64 0) := (zq5 BK103.out 0).trans rfl
                have hcz82_1 : wc.cell? ⟨gb103, 1, none⟩ = some (.int .u64 0) := (zq5 BK103.out 1).trans rfl
                have hcz82_2 : wc.cell? ⟨gb103, 2, none⟩ = some (.int .u64 0) := (zq5 BK103.out 2).trans rfl
                have hcz82_3 : wc.cell? ⟨gb103, 3, none⟩ = some (.int .u64 0) := (zq5 BK103.out 3).trans rfl
                have hcz82_4 : wc.cell? ⟨gb103, 4, none⟩ = some (.int .u64 0) := (zq5 BK103.out 4).trans rfl
                have hcz82_5 : wc.cell? ⟨gb103, 5, none⟩ = some (.int .u64 0) := (zq5 BK103.out 5).trans rfl
                have hfz82_0 := zq4 BK103.out 0
                have hfz82_1 := zq4 BK103.out 1
                have hfz82_2 := zq4 BK103.out 2
                have hfz82_3 := zq4 BK103.out 3
                have hfz82_4 := zq4 BK103.out 4
                have hfz82_5 := zq4 BK103.out 5
                go_wp2
                refine bodyPost_ret (results_ct rfl _ _ gb103 53 #[.int .u64 a1_0, .int .u64 a1_1, .int .u64 a1_2, .int .u64 t104, .int .u64 t105, .int .u64 t106] (0, 0) _ rfl (by (with_reducible repeat (first | refine zq0 ?_ _ | refine zq2 ?_ | refine zq1 ?_ _)); refine blk_put (cs := #[.int .u64 a1_0, .int .u64 a1_1, .int .u64 a1_2, .int .u64 t104, .int .u64 t105, .int .u64 0]) ?_ 5 _ rfl; (with_reducible repeat (first | refine zq0 ?_ _ | refine zq2 ?_ | refine zq1 ?_ _)); refine blk_put (cs := #[.int .u64 a1_0, .int .u64 a1_1, .int .u64 a1_2, .int .u64 t104, .int .u64 0, .int .u64 0]) ?_ 4 _ rfl; (with_reducible repeat (first | refine zq0 ?_ _ | refine zq2 ?_ | refine zq1 ?_ _)); refine blk_put (cs := #[.int .u64 a1_0, .int .u64 a1_1, .int .u64 a1_2, .int .u64 0, .int .u64 0, .int .u64 0]) ?_ 3 _ rfl; (with_reducible repeat (first | refine zq0 ?_ _ | refine zq2 ?_ | refine zq1 ?_ _)); refine blk_put (cs := #[.int .u64 a1_0, .int .u64 a1_1, .int .u64 0, .int .u64 0, .int .u64 0, .int .u64 0]) ?_ 2 _ rfl; (with_reducible repeat (first | refine zq0 ?_ _ | refine zq2 ?_ | refine zq1 ?_ _)); refine blk_put (cs := #[.int .u64 a1_0, .int .u64 0, .int .u64 0, .int .u64 0, .int .u64 0, .int .u64 0]) ?_ 1 _ rfl; (with_reducible repeat (first | refine zq0 ?_ _ | refine zq2 ?_ | refine zq1 ?_ _)); refine blk_put (cs := #[.int .u64 0, .int .u64 0, .int .u64 0, .int .u64 0, .int .u64 0, .int .u64 0]) ?_ 0 _ rfl; (with_reducible repeat (first | refine zq0 ?_ _ | refine zq2 ?_ | refine zq1 ?_ _)); exact BK103.out) Try.underlying53 rfl (by kernel_rfl)) rfl ?_
                exact ⟨by first | rfl | (simp [errW_none, errW_some] <;> rfl) | (simp [*, errW_none, errW_some] <;> rfl), by repeat (first | (with_reducible first | exact HB.out | apply zq9 | apply zq7 | apply zq8 | refine zq6 ?_ GE101.out | refine zq6 ?_ GE102.out | refine zq6 ?_ GE103.out | refine zq6 ?_ GE108.out | refine zq6 ?_ GE113.out) | exact HB.out)⟩

end Go.Proofs.Ytkefamalcmglgaa.P
