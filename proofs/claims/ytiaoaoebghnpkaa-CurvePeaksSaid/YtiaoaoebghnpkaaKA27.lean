/- Parts of the proof, in one text. -/
import Derived.Test.YtiaoaoebghnpkaaKA18
import Derived.Test.YtiaoaoebghnpkaaKA25
section
namespace Go.Proofs.Ytiaoaoebghnpkaa.P
open Go.RowKit Go.Proofs.YtiaoaoebghnpkaaW.PrintWords Go.Proofs.YtiaoaoebghnpkaaW.PrintLast Go.Proofs.YtiaoaoebghnpkaaW.PrintMore
attribute [local go_sem] max2_int min2_int max_two min_two max_three min_three max_four min_four   -- for this text's walks alone
set_option linter.unusedVariables false
set_option linter.unusedSimpArgs false

/-! ### curve_check: function 37 -/
def curve_check.l0 : Nat → List (S68) → Int → Int → Option (Int × Int)
 | 0, _, _, _ => none
 | k + 1, x5, x6, x7 => if x7 < x6 then (if 0 ≤ x7 then (if x7 < (x5.length : Int) then (if ((rd_T68 x5 x7).f1) < 0 then (some (1, x7)) else (if ((rd_T68 x5 x7).f1) > 65575 then (some (1, x7)) else (curve_check.l0 k x5 x6 (wrap64 (x7 + 1))))) else (none)) else (none)) else (some (0, 0))
def curve_check.f (k : Nat) (l0 : List (S68)) : Option (Int × Int) := curve_check.l0 k l0 (l0.length : Int) 0
set_option maxHeartbeats 8000000 in
set_option maxRecDepth 100000 in
theorem curve_check.calls (k : Nat) (A0 : Option Addr) (c0 : Nat) (l0 : List (S68)) (r1 : Int) (r2 : Int) (w : World) (hr0 : Kd.C k68 w A0 l0.length l0) (hc0 : l0.length ≤ c0) (h : curve_check.f k l0 = some (r1, r2)) :
  Calls Try.prog 37 #[.slice A0 l0.length c0] w fun e w' => e = .returned (.agg #[.int .i64 r1, .int .i64 r2]) ∧ Below w.heap.size w w' := by
 have hu26 := Try.underlying26
 have hu68 := Try.underlying68
 have HR0 := zq3 hr0
 have HC0 := zq3 hc0
 clear hr0 hc0
 have HB := zq3 (Below.refl w.heap.size w)
 have H : (curve_check.l0 k l0 (l0.length : Int) 0) = some (r1, r2) := h
 clear h
 have H' := zq3 H
 clear H
 go_enter Try.func37, Try.ntmps37
 go_wp2_with (first | ((with_reducible refine zd 2 rfl ?_); refine zb 2 #[.int .i64 0, .int .i64 0] 26 ?_; intro gb101 hg w2 hbox hb; have BK101 := zq3 (hbox); have GW101 := ze hg HB; have GE101 := GW101; replace HB := zt HB hb; clear hb hbox hg))
 go_loopg [7] k (fun kq v7 w' => ∃ (x7_1 : Int) (x102000_1 : Int) (x102001_1 : Int), v7 = .int .i64 x7_1 ∧ Aside0 (curve_check.l0 kq l0 (l0.length : Int) x7_1 = some (r1, r2)) ∧ Aside0 (kq ≤ k) ∧ Aside0 (w'.heap[gb101]? = some (.cells #[.int .i64 x102000_1, .int .i64 x102001_1] 26 (0, 0))) ∧ Aside0 (Below w.heap.size w w'))
 case atStart => exact ⟨(0), (0), (0), (by first | rfl | (simp; done) | (simp [*]; done)), H', ⟨Nat.le_refl _⟩, ⟨zw BK101⟩, ⟨zh HB⟩⟩
 case round =>
  clear H'
  (try clear p2)
  obtain ⟨x7_1, x102000_1, x102001_1, rfl, HA, HK1, BK101, HB⟩ := hrel
  cases gk with
  | zero => exact absurd HA.out (by simp [curve_check.l0])
  | succ k1 =>
   have H := HA.out
   clear HA
   simp only [curve_check.l0] at H
   by_cases c3 : x7_1 < (l0.length : Int)
   ·
    rw [if_pos c3] at H
    have c3b0 : decide (x7_1 < (l0.length : Int)) = true := decide_eq_true c3
    clear c3
    by_cases c4 : 0 ≤ x7_1
    ·
     rw [if_pos c4] at H
     have c4b0 : decide (0 ≤ x7_1) = true := decide_eq_true c4
     clear c4
     by_cases c5 : x7_1 < (l0.length : Int)
     ·
      rw [if_pos c5] at H
      have c5b0 : decide (x7_1 < (l0.length : Int)) = true := decide_eq_true c5
      clear c5
      by_cases c6 : ((rd_T68 l0 x7_1).f1) < 0
      ·
       rw [if_pos c6] at H
       have c6b0 : decide (((rd_T68 l0 x7_1).f1) < 0) = true := decide_eq_true c6
       clear c6
       simp only [Option.some.injEq, Prod.mk.injEq] at H
       obtain ⟨rfl, rfl⟩ := H
       have p102 : 0 ≤ (x7_1 : Int) := of_decide_eq_true (by first | (with_reducible assumption) | assumption)
       have q102 : x7_1 < (l0.length : Int) := of_decide_eq_true (by first | (with_reducible assumption) | assumption)
       obtain ⟨ad102, e102, hx102_0, hx102_1⟩ := at_T68 HR0.out x7_1 p102 q102
       cases e102
       replace hx102_0 := (HB.out.cell (World.block_lt_of_cell? w _ hx102_0)).trans hx102_0
       replace hx102_1 := (HB.out.cell (World.block_lt_of_cell? w _ hx102_1)).trans hx102_1
       replace p102 := eq_true p102
       replace q102 := eq_true q102
       go_wp2_with (first | ((with_reducible refine zd 4 rfl ?_); refine zb 4 #[.int .u64 0, .int .i64 0] 68 ?_; intro gb103 hg w7 hbox hb; have BK103 := zq3 (hbox); have GW103 := ze hg HB; have GE103 := GW103; have NB101_103 := zl hg BK101; have NB103_101 := zg hg BK101; replace BK101 := zs BK101 hb; replace HB := zt HB hb; clear hb hbox hg; have hnb8 := NB103_101.out; have hnc8 := NB101_103.out; obtain ⟨hc9_0, hc9_1⟩ := zc2 BK103; obtain ⟨hf9_0, hf9_1⟩ := zf2 BK103; obtain ⟨hc10_0, hc10_1⟩ := zc2 BK101; obtain ⟨hf10_0, hf10_1⟩ := zf2 BK101))
       refine bodyPost_ret (results_cell_row rfl _ _ gb101 26 #[.int .i64 1, .int .i64 x7_1] (0, 0) _ rfl (zw2 BK101) Try.underlying26 rfl (by kernel_rfl)) rfl ?_
       exact ⟨by first | rfl | (simp [errW_none, errW_some] <;> rfl) | (simp [*, errW_none, errW_some] <;> rfl), zh HB⟩
      ·
       rw [if_neg c6] at H
       have c6b0 : decide (((rd_T68 l0 x7_1).f1) < 0) = false := decide_eq_false c6
       clear c6
       by_cases c11 : ((rd_T68 l0 x7_1).f1) > 65575
       ·
        rw [if_pos c11] at H
        have c11b0 : decide (65575 < ((rd_T68 l0 x7_1).f1)) = true := decide_eq_true c11
        clear c11
        simp only [Option.some.injEq, Prod.mk.injEq] at H
        obtain ⟨rfl, rfl⟩ := H
        have p102 : 0 ≤ (x7_1 : Int) := of_decide_eq_true (by first | (with_reducible assumption) | assumption)
        have q102 : x7_1 < (l0.length : Int) := of_decide_eq_true (by first | (with_reducible assumption) | assumption)
        obtain ⟨ad102, e102, hx102_0, hx102_1⟩ := at_T68 HR0.out x7_1 p102 q102
        cases e102
        replace hx102_0 := (HB.out.cell (World.block_lt_of_cell? w _ hx102_0)).trans hx102_0
        replace hx102_1 := (HB.out.cell (World.block_lt_of_cell? w _ hx102_1)).trans hx102_1
        replace p102 := eq_true p102
        replace q102 := eq_true q102
        go_wp2_with (first | ((with_reducible refine zd 4 rfl ?_); refine zb 4 #[.int .u64 0, .int .i64 0] 68 ?_; intro gb103 hg w12 hbox hb; have BK103 := zq3 (hbox); have GW103 := ze hg HB; have GE103 := GW103; have NB101_103 := zl hg BK101; have NB103_101 := zg hg BK101; replace BK101 := zs BK101 hb; replace HB := zt HB hb; clear hb hbox hg; have hnb13 := NB103_101.out; have hnc13 := NB101_103.out; obtain ⟨hc14_0, hc14_1⟩ := zc2 BK103; obtain ⟨hf14_0, hf14_1⟩ := zf2 BK103; obtain ⟨hc15_0, hc15_1⟩ := zc2 BK101; obtain ⟨hf15_0, hf15_1⟩ := zf2 BK101))
        refine bodyPost_ret (results_cell_row rfl _ _ gb101 26 #[.int .i64 1, .int .i64 x7_1] (0, 0) _ rfl (zw2 BK101) Try.underlying26 rfl (by kernel_rfl)) rfl ?_
        exact ⟨by first | rfl | (simp [errW_none, errW_some] <;> rfl) | (simp [*, errW_none, errW_some] <;> rfl), zh HB⟩
       ·
        rw [if_neg c11] at H
        have c11b0 : decide (65575 < ((rd_T68 l0 x7_1).f1)) = false := decide_eq_false c11
        clear c11
        have H' := zq3 H
        clear H
        have p102 : 0 ≤ (x7_1 : Int) := of_decide_eq_true (by first | (with_reducible assumption) | assumption)
        have q102 : x7_1 < (l0.length : Int) := of_decide_eq_true (by first | (with_reducible assumption) | assumption)
        obtain ⟨ad102, e102, hx102_0, hx102_1⟩ := at_T68 HR0.out x7_1 p102 q102
        cases e102
        replace hx102_0 := (HB.out.cell (World.block_lt_of_cell? w _ hx102_0)).trans hx102_0
        replace hx102_1 := (HB.out.cell (World.block_lt_of_cell? w _ hx102_1)).trans hx102_1
        replace p102 := eq_true p102
        replace q102 := eq_true q102
        go_wp2_with (first | ((with_reducible refine zd 4 rfl ?_); refine zb 4 #[.int .u64 0, .int .i64 0] 68 ?_; intro gb103 hg w16 hbox hb; have BK103 := zq3 (hbox); have GW103 := ze hg HB; have GE103 := GW103; have NB101_103 := zl hg BK101; have NB103_101 := zg hg BK101; replace BK101 := zs BK101 hb; replace HB := zt HB hb; clear hb hbox hg; have hnb17 := NB103_101.out; have hnc17 := NB101_103.out; obtain ⟨hc18_0, hc18_1⟩ := zc2 BK103; obtain ⟨hf18_0, hf18_1⟩ := zf2 BK103))
        go_roundg k1
        case measure => have := HK1.out; omega
        case rel => exact ⟨(wrap64 (x7_1 + 1)), (x102000_1), (x102001_1), (by first | rfl | (simp; done) | (simp [*]; done)), H', ⟨by have := HK1.out; omega⟩, ⟨zw BK101⟩, ⟨zh HB⟩⟩
     ·
      rw [if_neg c5] at H
      exact absurd H (by simp)
    ·
     rw [if_neg c4] at H
     exact absurd H (by simp)
   ·
    rw [if_neg c3] at H
    have c3b0 : decide (x7_1 < (l0.length : Int)) = false := decide_eq_false c3
    clear c3
    simp only [Option.some.injEq, Prod.mk.injEq] at H
    obtain ⟨rfl, rfl⟩ := H
    obtain ⟨hc19_0, hc19_1⟩ := zc2 BK101
    obtain ⟨hf19_0, hf19_1⟩ := zf2 BK101
    go_wp2
    refine bodyPost_ret (results_cell_row rfl _ _ gb101 26 #[.int .i64 0, .int .i64 0] (0, 0) _ rfl (zw2 BK101) Try.underlying26 rfl (by kernel_rfl)) rfl ?_
    exact ⟨by first | rfl | (simp [errW_none, errW_some] <;> rfl) | (simp [*, errW_none, errW_some] <;> rfl), zh HB⟩

end Go.Proofs.Ytiaoaoebghnpkaa.P
end
section
namespace Go.Proofs.Ytiaoaoebghnpkaa.P
open Go.RowKit Go.Proofs.YtiaoaoebghnpkaaW.PrintWords Go.Proofs.YtiaoaoebghnpkaaW.PrintLast Go.Proofs.YtiaoaoebghnpkaaW.PrintMore
attribute [local go_sem] max2_int min2_int max_two min_two max_three min_three max_four min_four   -- for this text's walks alone
set_option linter.unusedVariables false
set_option linter.unusedSimpArgs false

/-! ### weighbridgeref29_Check: function 40 -/
def weighbridgeref29_Check.l0 : Nat → List (S68) → Int → Option (Int × Int)
 | 0, _, _ => none
 | k + 1, x0, x3 => if x3 < (x0.length : Int) then (if 0 ≤ x3 then (if ((rd_T68 x0 x3).f1) < 0 then (some (1, x3)) else (if ((rd_T68 x0 x3).f1) > 65575 then (some (1, x3)) else (weighbridgeref29_Check.l0 k x0 (wrap64 (x3 + 1))))) else (none)) else (some (0, 0))
def weighbridgeref29_Check.f (k : Nat) (l0 : List (S68)) : Option (Int × Int) := weighbridgeref29_Check.l0 k l0 0
set_option maxHeartbeats 8000000 in
set_option maxRecDepth 100000 in
theorem weighbridgeref29_Check.calls (k : Nat) (A0 : Option Addr) (c0 : Nat) (l0 : List (S68)) (r1 : Int) (r2 : Int) (w : World) (hr0 : Kd.C k68 w A0 l0.length l0) (hc0 : l0.length ≤ c0) (h : weighbridgeref29_Check.f k l0 = some (r1, r2)) :
  Calls Try.prog 40 #[.slice A0 l0.length c0] w fun e w' => e = .returned (.agg #[.int .i64 r1, .int .i64 r2]) ∧ Below w.heap.size w w' := by
 have hu26 := Try.underlying26
 have HR0 := zq3 hr0
 have HC0 := zq3 hc0
 clear hr0 hc0
 have HB := zq3 (Below.refl w.heap.size w)
 have H : (weighbridgeref29_Check.l0 k l0 0) = some (r1, r2) := h
 clear h
 have H' := zq3 H
 clear H
 go_enter Try.func40, Try.ntmps40
 go_wp2_with (first | ((with_reducible refine zd 2 rfl ?_); refine zb 2 #[.int .i64 0, .int .i64 0] 26 ?_; intro gb101 hg w2 hbox hb; have BK101 := zq3 (hbox); have GW101 := ze hg HB; have GE101 := GW101; replace HB := zt HB hb; clear hb hbox hg))
 go_loopg [3] k (fun kq v3 w' => ∃ (x3_1 : Int) (x102000_1 : Int) (x102001_1 : Int), v3 = .int .i64 x3_1 ∧ Aside0 (weighbridgeref29_Check.l0 kq l0 x3_1 = some (r1, r2)) ∧ Aside0 (kq ≤ k) ∧ Aside0 (w'.heap[gb101]? = some (.cells #[.int .i64 x102000_1, .int .i64 x102001_1] 26 (0, 0))) ∧ Aside0 (Below w.heap.size w w'))
 case atStart => exact ⟨(0), (0), (0), (by first | rfl | (simp; done) | (simp [*]; done)), H', ⟨Nat.le_refl _⟩, ⟨zw BK101⟩, ⟨zh HB⟩⟩
 case round =>
  clear H'
  (try clear p2)
  obtain ⟨x3_1, x102000_1, x102001_1, rfl, HA, HK1, BK101, HB⟩ := hrel
  cases gk with
  | zero => exact absurd HA.out (by simp [weighbridgeref29_Check.l0])
  | succ k1 =>
   have H := HA.out
   clear HA
   simp only [weighbridgeref29_Check.l0] at H
   by_cases c3 : x3_1 < (l0.length : Int)
   ·
    rw [if_pos c3] at H
    have c3b0 : decide (x3_1 < (l0.length : Int)) = true := decide_eq_true c3
    clear c3
    by_cases c4 : 0 ≤ x3_1
    ·
     rw [if_pos c4] at H
     have c4b0 : decide (0 ≤ x3_1) = true := decide_eq_true c4
     clear c4
     by_cases c5 : ((rd_T68 l0 x3_1).f1) < 0
     ·
      rw [if_pos c5] at H
      have c5b0 : decide (((rd_T68 l0 x3_1).f1) < 0) = true := decide_eq_true c5
      clear c5
      simp only [Option.some.injEq, Prod.mk.injEq] at H
      obtain ⟨rfl, rfl⟩ := H
      have p102 : 0 ≤ (x3_1 : Int) := of_decide_eq_true (by first | (with_reducible assumption) | assumption)
      have q102 : x3_1 < (l0.length : Int) := of_decide_eq_true (by first | (with_reducible assumption) | assumption)
      obtain ⟨ad102, e102, hx102_0, hx102_1⟩ := at_T68 HR0.out x3_1 p102 q102
      cases e102
      replace hx102_0 := (HB.out.cell (World.block_lt_of_cell? w _ hx102_0)).trans hx102_0
      replace hx102_1 := (HB.out.cell (World.block_lt_of_cell? w _ hx102_1)).trans hx102_1
      replace p102 := eq_true p102
      replace q102 := eq_true q102
      obtain ⟨hc6_0, hc6_1⟩ := zc2 BK101
      obtain ⟨hf6_0, hf6_1⟩ := zf2 BK101
      go_wp2
      refine bodyPost_ret (results_cell_row rfl _ _ gb101 26 #[.int .i64 1, .int .i64 x3_1] (0, 0) _ rfl (zw2 BK101) Try.underlying26 rfl (by kernel_rfl)) rfl ?_
      exact ⟨by first | rfl | (simp [errW_none, errW_some] <;> rfl) | (simp [*, errW_none, errW_some] <;> rfl), zh HB⟩
     ·
      rw [if_neg c5] at H
      have c5b0 : decide (((rd_T68 l0 x3_1).f1) < 0) = false := decide_eq_false c5
      clear c5
      by_cases c7 : ((rd_T68 l0 x3_1).f1) > 65575
      ·
       rw [if_pos c7] at H
       have c7b0 : decide (65575 < ((rd_T68 l0 x3_1).f1)) = true := decide_eq_true c7
       clear c7
       simp only [Option.some.injEq, Prod.mk.injEq] at H
       obtain ⟨rfl, rfl⟩ := H
       have p102 : 0 ≤ (x3_1 : Int) := of_decide_eq_true (by first | (with_reducible assumption) | assumption)
       have q102 : x3_1 < (l0.length : Int) := of_decide_eq_true (by first | (with_reducible assumption) | assumption)
       obtain ⟨ad102, e102, hx102_0, hx102_1⟩ := at_T68 HR0.out x3_1 p102 q102
       cases e102
       replace hx102_0 := (HB.out.cell (World.block_lt_of_cell? w _ hx102_0)).trans hx102_0
       replace hx102_1 := (HB.out.cell (World.block_lt_of_cell? w _ hx102_1)).trans hx102_1
       replace p102 := eq_true p102
       replace q102 := eq_true q102
       have p103 : 0 ≤ (x3_1 : Int) := of_decide_eq_true (by first | (with_reducible assumption) | assumption)
       have q103 : x3_1 < (l0.length : Int) := of_decide_eq_true (by first | (with_reducible assumption) | assumption)
       obtain ⟨ad103, e103, hx103_0, hx103_1⟩ := at_T68 HR0.out x3_1 p103 q103
       obtain rfl : ad102 = ad103 := (by injection e103)
       replace hx103_0 := (HB.out.cell (World.block_lt_of_cell? w _ hx103_0)).trans hx103_0
       replace hx103_1 := (HB.out.cell (World.block_lt_of_cell? w _ hx103_1)).trans hx103_1
       replace p103 := eq_true p103
       replace q103 := eq_true q103
       obtain ⟨hc8_0, hc8_1⟩ := zc2 BK101
       obtain ⟨hf8_0, hf8_1⟩ := zf2 BK101
       go_wp2
       refine bodyPost_ret (results_cell_row rfl _ _ gb101 26 #[.int .i64 1, .int .i64 x3_1] (0, 0) _ rfl (zw2 BK101) Try.underlying26 rfl (by kernel_rfl)) rfl ?_
       exact ⟨by first | rfl | (simp [errW_none, errW_some] <;> rfl) | (simp [*, errW_none, errW_some] <;> rfl), zh HB⟩
      ·
       rw [if_neg c7] at H
       have c7b0 : decide (65575 < ((rd_T68 l0 x3_1).f1)) = false := decide_eq_false c7
       clear c7
       have H' := zq3 H
       clear H
       have p102 : 0 ≤ (x3_1 : Int) := of_decide_eq_true (by first | (with_reducible assumption) | assumption)
       have q102 : x3_1 < (l0.length : Int) := of_decide_eq_true (by first | (with_reducible assumption) | assumption)
       obtain ⟨ad102, e102, hx102_0, hx102_1⟩ := at_T68 HR0.out x3_1 p102 q102
       cases e102
       replace hx102_0 := (HB.out.cell (World.block_lt_of_cell? w _ hx102_0)).trans hx102_0
       replace hx102_1 := (HB.out.cell (World.block_lt_of_cell? w _ hx102_1)).trans hx102_1
       replace p102 := eq_true p102
       replace q102 := eq_true q102
       have p103 : 0 ≤ (x3_1 : Int) := of_decide_eq_true (by first | (with_reducible assumption) | assumption)
       have q103 : x3_1 < (l0.length : Int) := of_decide_eq_true (by first | (with_reducible assumption) | assumption)
       obtain ⟨ad103, e103, hx103_0, hx103_1⟩ := at_T68 HR0.out x3_1 p103 q103
       obtain rfl : ad102 = ad103 := (by injection e103)
       replace hx103_0 := (HB.out.cell (World.block_lt_of_cell? w _ hx103_0)).trans hx103_0
       replace hx103_1 := (HB.out.cell (World.block_lt_of_cell? w _ hx103_1)).trans hx103_1
       replace p103 := eq_true p103
       replace q103 := eq_true q103
       go_wp2
       go_roundg k1
       case measure => have := HK1.out; omega
       case rel => exact ⟨(wrap64 (x3_1 + 1)), (x102000_1), (x102001_1), (by first | rfl | (simp; done) | (simp [*]; done)), H', ⟨by have := HK1.out; omega⟩, ⟨zw BK101⟩, ⟨zh HB⟩⟩
    ·
     rw [if_neg c4] at H
     exact absurd H (by simp)
   ·
    rw [if_neg c3] at H
    have c3b0 : decide (x3_1 < (l0.length : Int)) = false := decide_eq_false c3
    clear c3
    simp only [Option.some.injEq, Prod.mk.injEq] at H
    obtain ⟨rfl, rfl⟩ := H
    obtain ⟨hc9_0, hc9_1⟩ := zc2 BK101
    obtain ⟨hf9_0, hf9_1⟩ := zf2 BK101
    go_wp2
    refine bodyPost_ret (results_cell_row rfl _ _ gb101 26 #[.int .i64 0, .int .i64 0] (0, 0) _ rfl (zw2 BK101) Try.underlying26 rfl (by kernel_rfl)) rfl ?_
    exact ⟨by first | rfl | (simp [errW_none, errW_some] <;> rfl) | (simp [*, errW_none, errW_some] <;> rfl), zh HB⟩

end Go.Proofs.Ytiaoaoebghnpkaa.P
end
section
namespace Go.Proofs.Ytiaoaoebghnpkaa.P
open Go.RowKit Go.Proofs.YtiaoaoebghnpkaaW.PrintWords Go.Proofs.YtiaoaoebghnpkaaW.PrintLast Go.Proofs.YtiaoaoebghnpkaaW.PrintMore
attribute [local go_sem] max2_int min2_int max_two min_two max_three min_three max_four min_four   -- for this text's walks alone
set_option linter.unusedVariables false
set_option linter.unusedSimpArgs false

/-! ### curve_Total: function 13 -/
def curve_Total.l0 : Nat → Int → List (S68) → Int → Int → Option (Int × Int × Int)
 | 0, _, _, _, _ => none
 | k + 1, x5, x14, x15, x16 => if x16 < x15 then (if 0 ≤ x16 then (if x16 < (x14.length : Int) then (curve_Total.l0 k (wrap64 (x5 + ((rd_T68 x14 x16).f1))) x14 x15 (wrap64 (x16 + 1))) else (none)) else (none)) else (some (x5, 0, 0))
def curve_Total.f (k : Nat) (l0 : List (S68)) : Option (Int × Int × Int) := (curve_check.f k l0).bind fun bt102 => (if bt102.1 = 0 then (curve_Total.l0 k 0 l0 (l0.length : Int) 0) else (some (0, bt102.1, bt102.2)))
set_option maxHeartbeats 8000000 in
set_option maxRecDepth 100000 in
theorem curve_Total.calls (k : Nat) (A0 : Option Addr) (c0 : Nat) (l0 : List (S68)) (r1 : Int) (r2 : Int) (r3 : Int) (w : World) (hr0 : Kd.C k68 w A0 l0.length l0) (hc0 : l0.length ≤ c0) (h : curve_Total.f k l0 = some (r1, r2, r3)) :
  Calls Try.prog 13 #[.slice A0 l0.length c0] w fun e w' => e = .returned (.tuple #[.int .i64 r1, .agg #[.int .i64 r2, .int .i64 r3]]) ∧ Below w.heap.size w w' := by
 have hu26 := Try.underlying26
 have hu68 := Try.underlying68
 have HR0 := zq3 hr0
 have HC0 := zq3 hc0
 clear hr0 hc0
 have HB := zq3 (Below.refl w.heap.size w)
 have H : ((curve_check.f k l0).bind fun bt102 => (if bt102.1 = 0 then (curve_Total.l0 k 0 l0 (l0.length : Int) 0) else (some (0, bt102.1, bt102.2)))) = some (r1, r2, r3) := h
 clear h
 replace H := Option.bind_eq_some_iff.mp H
 obtain ⟨⟨t102, t103⟩, A20, H⟩ := H
 replace H : (if t102 = 0 then (curve_Total.l0 k 0 l0 (l0.length : Int) 0) else (some (0, t102, t103))) = some (r1, r2, r3) := H
 have A2 := zq3 A20
 clear A20
 by_cases c3 : t102 = 0
 ·
  rw [if_pos c3] at H
  have c3b0 : (t102 == 0) = true := beq_iff_eq.mpr c3
  have c3b1 : (t102 != 0) = false := bne_eq_false_iff_eq.mpr c3
  clear c3
  have H' := zq3 H
  clear H
  go_enter Try.func13, Try.ntmps13
  go_wp2_with (first | ((with_reducible refine zd 3 rfl ?_); refine zb 3 #[.int .i64 0, .int .i64 0] 26 ?_; intro gb101 hg w4 hbox hb; have BK101 := zq3 (hbox); have GW101 := ze hg HB; have GE101 := GW101; replace HB := zt HB hb; clear hb hbox hg) | ((with_reducible refine gate_callee (f := 37) rfl ?_); refine zgo (some 9) Try.func37 #[.slice A0 l0.length c0] ?_; (with_reducible refine (curve_check.calls k _ _ l0 t102 t103 _ ?side1 ?side2 A2.out).mono ?_); (case side1 => repeat (first | exact (Kd.C_below HR0.out HB.out) | (with_reducible refine Kd.C_alloc ?_ _) | (with_reducible refine Kd.C_drewN ?_ _) | (with_reducible refine Kd.C_drew ?_))); (case side2 => exact HC0.out); rintro e w5 ⟨rfl, hb⟩; refine ⟨_, rfl, ?_⟩; replace BK101 := zs BK101 hb; replace HB := zt HB hb; (try clear hb)) | ((with_reducible refine zd 4 rfl ?_); refine zb 4 #[.int .i64 0, .int .i64 0] 26 ?_; intro gb104 hg w6 hbox hb; have BK104 := zq3 (hbox); have GW104 := ze hg HB; have GE104 := GW104; have NB101_104 := zl hg BK101; have NB104_101 := zg hg BK101; replace BK101 := zs BK101 hb; replace HB := zt HB hb; clear hb hbox hg; have hnb7 := NB104_101.out; have hnc7 := NB101_104.out; obtain ⟨hc8_0, hc8_1⟩ := zc2 BK104; obtain ⟨hf8_0, hf8_1⟩ := zf2 BK104))
  go_loopg [5, 16] k (fun kq v5 v16 w' => ∃ (x5_1 : Int) (x16_1 : Int), v5 = .int .i64 x5_1 ∧ v16 = .int .i64 x16_1 ∧ Aside0 (curve_Total.l0 kq x5_1 l0 (l0.length : Int) x16_1 = some (r1, r2, r3)) ∧ Aside0 (kq ≤ k) ∧ Aside0 (w'.heap[gb101]? = some (.cells #[.int .i64 0, .int .i64 0] 26 (0, 0))) ∧ Aside0 (w'.heap[gb104]? = some (.cells #[.int .i64 t102, .int .i64 t103] 26 (0, 0))) ∧ Aside0 (Below w.heap.size w w'))
  case atStart => exact ⟨(0), (0), (by first | rfl | (simp; done) | (simp [*]; done)), (by first | rfl | (simp; done) | (simp [*]; done)), H', ⟨Nat.le_refl _⟩, ⟨zw BK101⟩, ⟨zw2 BK104⟩, ⟨zh HB⟩⟩
  case round =>
   clear H'
   (try clear c1); (try clear p2); (try clear c3); (try clear c3b0); (try clear c3b1); (try clear c7)
   try clear hc8_0 hc8_1 hf8_0 hf8_1
   obtain ⟨x5_1, x16_1, rfl, rfl, HA, HK1, BK101, BK104, HB⟩ := hrel
   cases gk with
   | zero => exact absurd HA.out (by simp [curve_Total.l0])
   | succ k1 =>
    have H := HA.out
    clear HA
    simp only [curve_Total.l0] at H
    by_cases c9 : x16_1 < (l0.length : Int)
    ·
     rw [if_pos c9] at H
     have c9b0 : decide (x16_1 < (l0.length : Int)) = true := decide_eq_true c9
     clear c9
     by_cases c10 : 0 ≤ x16_1
     ·
      rw [if_pos c10] at H
      have c10b0 : decide (0 ≤ x16_1) = true := decide_eq_true c10
      clear c10
      by_cases c11 : x16_1 < (l0.length : Int)
      ·
       rw [if_pos c11] at H
       have c11b0 : decide (x16_1 < (l0.length : Int)) = true := decide_eq_true c11
       clear c11
       have H' := zq3 H
       clear H
       have p105 : 0 ≤ (x16_1 : Int) := of_decide_eq_true (by first | (with_reducible assumption) | assumption)
       have q105 : x16_1 < (l0.length : Int) := of_decide_eq_true (by first | (with_reducible assumption) | assumption)
       obtain ⟨ad105, e105, hx105_0, hx105_1⟩ := at_T68 HR0.out x16_1 p105 q105
       cases e105
       replace hx105_0 := (HB.out.cell (World.block_lt_of_cell? w _ hx105_0)).trans hx105_0
       replace hx105_1 := (HB.out.cell (World.block_lt_of_cell? w _ hx105_1)).trans hx105_1
       replace p105 := eq_true p105
       replace q105 := eq_true q105
       go_wp2_with (first | ((with_reducible refine zd 7 rfl ?_); refine zb 7 #[.int .u64 0, .int .i64 0] 68 ?_; intro gb106 hg w12 hbox hb; have BK106 := zq3 (hbox); have GW106 := ze hg HB; have GE106 := GW106; have NB101_106 := zl hg BK101; have NB106_101 := zg hg BK101; have NB104_106 := zl hg BK104; have NB106_104 := zg hg BK104; replace BK101 := zs BK101 hb; replace BK104 := zs BK104 hb; replace HB := zt HB hb; clear hb hbox hg; have hnb13 := NB106_101.out; have hnc13 := NB101_106.out; have hnb14 := NB106_104.out; have hnc14 := NB104_106.out; obtain ⟨hc15_0, hc15_1⟩ := zc2 BK106; obtain ⟨hf15_0, hf15_1⟩ := zf2 BK106))
       go_roundg k1
       case measure => have := HK1.out; omega
       case rel => exact ⟨(wrap64 (x5_1 + ((rd_T68 l0 x16_1).f1))), (wrap64 (x16_1 + 1)), (by first | rfl | (simp; done) | (simp [*]; done)), (by first | rfl | (simp; done) | (simp [*]; done)), H', ⟨by have := HK1.out; omega⟩, ⟨zw BK101⟩, ⟨zw BK104⟩, ⟨zh HB⟩⟩
      ·
       rw [if_neg c11] at H
       exact absurd H (by simp)
     ·
      rw [if_neg c10] at H
      exact absurd H (by simp)
    ·
     rw [if_neg c9] at H
     have c9b0 : decide (x16_1 < (l0.length : Int)) = false := decide_eq_false c9
     clear c9
     simp only [Option.some.injEq, Prod.mk.injEq] at H
     obtain ⟨rfl, rfl, rfl⟩ := H
     have hnb16 := NB101_104.out
     have hnc16 := NB104_101.out
     obtain ⟨hc17_0, hc17_1⟩ := zc2 BK101
     obtain ⟨hf17_0, hf17_1⟩ := zf2 BK101
     go_wp2
     refine bodyPost_ret (results_tc rfl _ _ gb101 26 #[.int .i64 0, .int .i64 0] (0, 0) _ rfl (zw2 BK101) Try.underlying26 rfl (by kernel_rfl)) rfl ?_
     exact ⟨by first | rfl | (simp [errW_none, errW_some] <;> rfl) | (simp [*, errW_none, errW_some] <;> rfl), zh HB⟩
 ·
  rw [if_neg c3] at H
  have c3b0 : (t102 == 0) = false := beq_eq_false_iff_ne.mpr c3
  have c3b1 : (t102 != 0) = true := bne_iff_ne.mpr c3
  simp only [Option.some.injEq, Prod.mk.injEq] at H
  obtain ⟨rfl, rfl, rfl⟩ := H
  go_enter Try.func13, Try.ntmps13
  try go_wp2_with (first | ((with_reducible refine zd 3 rfl ?_); refine zb 3 #[.int .i64 0, .int .i64 0] 26 ?_; intro gb101 hg w18 hbox hb; have BK101 := zq3 (hbox); have GW101 := ze hg HB; have GE101 := GW101; replace HB := zt HB hb; clear hb hbox hg) | ((with_reducible refine gate_callee (f := 37) rfl ?_); refine zgo (some 9) Try.func37 #[.slice A0 l0.length c0] ?_; (with_reducible refine (curve_check.calls k _ _ l0 t102 t103 _ ?side1 ?side2 A2.out).mono ?_); (case side1 => repeat (first | exact (Kd.C_below HR0.out HB.out) | (with_reducible refine Kd.C_alloc ?_ _) | (with_reducible refine Kd.C_drewN ?_ _) | (with_reducible refine Kd.C_drew ?_))); (case side2 => exact HC0.out); rintro e w19 ⟨rfl, hb⟩; refine ⟨_, rfl, ?_⟩; replace BK101 := zs BK101 hb; replace HB := zt HB hb; (try clear hb)) | ((with_reducible refine zd 4 rfl ?_); refine zb 4 #[.int .i64 0, .int .i64 0] 26 ?_; intro gb104 hg w20 hbox hb; have BK104 := zq3 (hbox); have GW104 := ze hg HB; have GE104 := GW104; have NB101_104 := zl hg BK101; have NB104_101 := zg hg BK101; replace BK101 := zs BK101 hb; replace HB := zt HB hb; clear hb hbox hg; have hnb21 := NB104_101.out; have hnc21 := NB101_104.out; obtain ⟨hc22_0, hc22_1⟩ := zc2 BK104; obtain ⟨hf22_0, hf22_1⟩ := zf2 BK104))
  have n0_ : Aside0 (((w20.setCell ⟨gb104, 0, none⟩ (.int .i64 t102)).setCell ⟨gb104, 1, none⟩ (.int .i64 t103)).heap[gb101]? = some (.cells #[.int .i64 0, .int .i64 0] 26 (0, 0))) := ⟨zw BK101⟩
  have n1_ : Aside0 (((w20.setCell ⟨gb104, 0, none⟩ (.int .i64 t102)).setCell ⟨gb104, 1, none⟩ (.int .i64 t103)).heap[gb104]? = some (.cells #[.int .i64 t102, .int .i64 t103] 26 (0, 0))) := ⟨zw2 BK104⟩
  have n2_ : Aside0 (Below w.heap.size w ((w20.setCell ⟨gb104, 0, none⟩ (.int .i64 t102)).setCell ⟨gb104, 1, none⟩ (.int .i64 t103))) := ⟨zh HB⟩
  (try clear BK101)
  (try clear BK104)
  (try clear HB)
  generalize ((w20.setCell ⟨gb104, 0, none⟩ (.int .i64 t102)).setCell ⟨gb104, 1, none⟩ (.int .i64 t103)) = w23 at n0_ n1_ n2_ ⊢
  have BK101 := n0_
  have BK104 := n1_
  have HB := n2_
  clear n0_ n1_ n2_
  replace BK101 := zq3 (zq2 BK101.out); replace BK104 := zq3 (zq2 BK104.out); replace HB := zq3 (zq8 HB.out)
  refine start_ (n := 3) (S := fun w' => w'.cell? ⟨gb104, 0, none⟩ = some (.int .i64 t102) ∧ w'.cell? ⟨gb104, 1, none⟩ = some (.int .i64 t103)) (ds := []) #[false, false, false] (by kernel_rfl) rfl rfl ⟨(zq5 BK104.out 0).trans rfl, (zq5 BK104.out 1).trans rfl⟩ (fun hHeld => ?_)
  generalize w23.drew = w24 at BK101 BK104 HB hHeld ⊢
  refine pure_ (i := 1) (N := some 2) (v := ?_) (a' := ?_) #[false, true, false] rfl rfl (by kernel_rfl) (fun _ _ _ h => h) (Or.inl ⟨by rfl, ?_⟩) ?_ ?_
  rotate_left
  ·
   intro w'
   go_simp
   with_reducible rfl
  rotate_left
  ·
   simp only [Act.put, List.setIfInBounds_toArray, List.set_cons_zero, List.set_cons_succ, i64_w, i32_w]
   rfl
  refine take_ (i := 0) (N := some 13) (v := ?_) (a' := ?_) #[true, true, false] rfl rfl (by kernel_rfl) (fun _ _ _ h => h) (Or.inl ⟨by rfl, ?_⟩) hHeld ?_ ?_
  rotate_left
  ·
   rintro w' ⟨s0, s1⟩
   go_simp
   with_reducible rfl
  rotate_left
  ·
   simp only [Act.put, List.setIfInBounds_toArray, List.set_cons_zero, List.set_cons_succ, i64_w, i32_w]
   rfl
  refine one_ (i := 2) (N := none) #[true, true, true] rfl rfl (by kernel_rfl) (by decide) (fun K hK => ?_)
  have hs25 : w24.cell? ⟨gb101, 0, none⟩ = some (.int .i64 0) := (zq5 BK101.out 0).trans rfl
  have hfs25 := zq4 BK101.out 0
  have hns25_1 := NB104_101.out
  have hms25_1 := NB101_104.out
  have hs26 : w24.cell? ⟨gb101, 1, none⟩ = some (.int .i64 0) := (zq5 BK101.out 1).trans rfl
  have hfs26 := zq4 BK101.out 1
  have hns26_1 := NB104_101.out
  have hms26_1 := NB101_104.out
  refine skip_ (w1 := ?_) (by rfl) rfl ?_ ?_
  rotate_left
  ·
   go_simp
   rfl
  refine hK.out _ _ ⟨((cell_far (p := ⟨gb101, _, none⟩) NB104_101.out _).trans (((cell_far (p := ⟨gb101, _, none⟩) NB104_101.out _).trans (hHeld.1)))), ((cell_far (p := ⟨gb101, _, none⟩) NB104_101.out _).trans (((cell_far (p := ⟨gb101, _, none⟩) NB104_101.out _).trans (hHeld.2))))⟩ (fun hHeld => ?_)
  clear hK K
  refine done_ (by kernel_rfl) ?_
  try go_wp2
  refine bodyPost_ret (results_tc rfl _ _ gb101 26 #[.int .i64 t102, .int .i64 t103] (0, 0) _ rfl (zw2 BK101) Try.underlying26 rfl (by kernel_rfl)) rfl ?_
  exact ⟨by first | rfl | (simp [errW_none, errW_some] <;> rfl) | (simp [*, errW_none, errW_some] <;> rfl), zh HB⟩

end Go.Proofs.Ytiaoaoebghnpkaa.P
end
section
namespace Go.Proofs.Ytiaoaoebghnpkaa.P
open Go.RowKit Go.Proofs.YtiaoaoebghnpkaaW.PrintWords Go.Proofs.YtiaoaoebghnpkaaW.PrintLast Go.Proofs.YtiaoaoebghnpkaaW.PrintMore
attribute [local go_sem] max2_int min2_int max_two min_two max_three min_three max_four min_four   -- for this text's walks alone
set_option linter.unusedVariables false
set_option linter.unusedSimpArgs false

/-! ### weighbridgeref29_Total: function 14 -/
def weighbridgeref29_Total.l0 : Nat → List (S68) → Int → Int → Option (Int × Int × Int)
 | 0, _, _, _ => none
 | k + 1, x0, x5, x6 => if x6 < (x0.length : Int) then (if 0 ≤ x6 then (weighbridgeref29_Total.l0 k x0 (wrap64 (x5 + ((rd_T68 x0 x6).f1))) (wrap64 (x6 + 1))) else (none)) else (some (x5, 0, 0))
def weighbridgeref29_Total.f (k : Nat) (l0 : List (S68)) : Option (Int × Int × Int) := (weighbridgeref29_Check.f k l0).bind fun bt102 => (if bt102.1 = 0 then (weighbridgeref29_Total.l0 k l0 0 0) else (some (0, bt102.1, bt102.2)))
set_option maxHeartbeats 8000000 in
set_option maxRecDepth 100000 in
theorem weighbridgeref29_Total.calls (k : Nat) (A0 : Option Addr) (c0 : Nat) (l0 : List (S68)) (r1 : Int) (r2 : Int) (r3 : Int) (w : World) (hr0 : Kd.C k68 w A0 l0.length l0) (hc0 : l0.length ≤ c0) (h : weighbridgeref29_Total.f k l0 = some (r1, r2, r3)) :
  Calls Try.prog 14 #[.slice A0 l0.length c0] w fun e w' => e = .returned (.tuple #[.int .i64 r1, .agg #[.int .i64 r2, .int .i64 r3]]) ∧ Below w.heap.size w w' := by
 have hu26 := Try.underlying26
 have HR0 := zq3 hr0
 have HC0 := zq3 hc0
 clear hr0 hc0
 have HB := zq3 (Below.refl w.heap.size w)
 have H : ((weighbridgeref29_Check.f k l0).bind fun bt102 => (if bt102.1 = 0 then (weighbridgeref29_Total.l0 k l0 0 0) else (some (0, bt102.1, bt102.2)))) = some (r1, r2, r3) := h
 clear h
 replace H := Option.bind_eq_some_iff.mp H
 obtain ⟨⟨t102, t103⟩, A20, H⟩ := H
 replace H : (if t102 = 0 then (weighbridgeref29_Total.l0 k l0 0 0) else (some (0, t102, t103))) = some (r1, r2, r3) := H
 have A2 := zq3 A20
 clear A20
 by_cases c3 : t102 = 0
 ·
  rw [if_pos c3] at H
  have c3b0 : (t102 == 0) = true := beq_iff_eq.mpr c3
  have c3b1 : (t102 != 0) = false := bne_eq_false_iff_eq.mpr c3
  clear c3
  have H' := zq3 H
  clear H
  go_enter Try.func14, Try.ntmps14
  go_wp2_with (first | ((with_reducible refine zd 3 rfl ?_); refine zb 3 #[.int .i64 0, .int .i64 0] 26 ?_; intro gb101 hg w4 hbox hb; have BK101 := zq3 (hbox); have GW101 := ze hg HB; have GE101 := GW101; replace HB := zt HB hb; clear hb hbox hg) | ((with_reducible refine gate_callee (f := 40) rfl ?_); refine zgo (some 8) Try.func40 #[.slice A0 l0.length c0] ?_; (with_reducible refine (weighbridgeref29_Check.calls k _ _ l0 t102 t103 _ ?side1 ?side2 A2.out).mono ?_); (case side1 => repeat (first | exact (Kd.C_below HR0.out HB.out) | (with_reducible refine Kd.C_alloc ?_ _) | (with_reducible refine Kd.C_drewN ?_ _) | (with_reducible refine Kd.C_drew ?_))); (case side2 => exact HC0.out); rintro e w5 ⟨rfl, hb⟩; refine ⟨_, rfl, ?_⟩; replace BK101 := zs BK101 hb; replace HB := zt HB hb; (try clear hb)) | ((with_reducible refine zd 4 rfl ?_); refine zb 4 #[.int .i64 0, .int .i64 0] 26 ?_; intro gb104 hg w6 hbox hb; have BK104 := zq3 (hbox); have GW104 := ze hg HB; have GE104 := GW104; have NB101_104 := zl hg BK101; have NB104_101 := zg hg BK101; replace BK101 := zs BK101 hb; replace HB := zt HB hb; clear hb hbox hg; have hnb7 := NB104_101.out; have hnc7 := NB101_104.out; obtain ⟨hc8_0, hc8_1⟩ := zc2 BK104; obtain ⟨hf8_0, hf8_1⟩ := zf2 BK104))
  go_loopg [5, 6] k (fun kq v5 v6 w' => ∃ (x5_1 : Int) (x6_1 : Int), v5 = .int .i64 x5_1 ∧ v6 = .int .i64 x6_1 ∧ Aside0 (weighbridgeref29_Total.l0 kq l0 x5_1 x6_1 = some (r1, r2, r3)) ∧ Aside0 (kq ≤ k) ∧ Aside0 (w'.heap[gb101]? = some (.cells #[.int .i64 0, .int .i64 0] 26 (0, 0))) ∧ Aside0 (w'.heap[gb104]? = some (.cells #[.int .i64 t102, .int .i64 t103] 26 (0, 0))) ∧ Aside0 (Below w.heap.size w w'))
  case atStart => exact ⟨(0), (0), (by first | rfl | (simp; done) | (simp [*]; done)), (by first | rfl | (simp; done) | (simp [*]; done)), H', ⟨Nat.le_refl _⟩, ⟨zw BK101⟩, ⟨zw2 BK104⟩, ⟨zh HB⟩⟩
  case round =>
   clear H'
   (try clear c1); (try clear p2); (try clear c3); (try clear c3b0); (try clear c3b1); (try clear c4); (try clear c7)
   try clear hc8_0 hc8_1 hf8_0 hf8_1
   obtain ⟨x5_1, x6_1, rfl, rfl, HA, HK1, BK101, BK104, HB⟩ := hrel
   cases gk with
   | zero => exact absurd HA.out (by simp [weighbridgeref29_Total.l0])
   | succ k1 =>
    have H := HA.out
    clear HA
    simp only [weighbridgeref29_Total.l0] at H
    by_cases c9 : x6_1 < (l0.length : Int)
    ·
     rw [if_pos c9] at H
     have c9b0 : decide (x6_1 < (l0.length : Int)) = true := decide_eq_true c9
     clear c9
     by_cases c10 : 0 ≤ x6_1
     ·
      rw [if_pos c10] at H
      have c10b0 : decide (0 ≤ x6_1) = true := decide_eq_true c10
      clear c10
      have H' := zq3 H
      clear H
      have p105 : 0 ≤ (x6_1 : Int) := of_decide_eq_true (by first | (with_reducible assumption) | assumption)
      have q105 : x6_1 < (l0.length : Int) := of_decide_eq_true (by first | (with_reducible assumption) | assumption)
      obtain ⟨ad105, e105, hx105_0, hx105_1⟩ := at_T68 HR0.out x6_1 p105 q105
      cases e105
      replace hx105_0 := (HB.out.cell (World.block_lt_of_cell? w _ hx105_0)).trans hx105_0
      replace hx105_1 := (HB.out.cell (World.block_lt_of_cell? w _ hx105_1)).trans hx105_1
      replace p105 := eq_true p105
      replace q105 := eq_true q105
      go_wp2
      go_roundg k1
      case measure => have := HK1.out; omega
      case rel => exact ⟨(wrap64 (x5_1 + ((rd_T68 l0 x6_1).f1))), (wrap64 (x6_1 + 1)), (by first | rfl | (simp; done) | (simp [*]; done)), (by first | rfl | (simp; done) | (simp [*]; done)), H', ⟨by have := HK1.out; omega⟩, ⟨zw BK101⟩, ⟨zw BK104⟩, ⟨zh HB⟩⟩
     ·
      rw [if_neg c10] at H
      exact absurd H (by simp)
    ·
     rw [if_neg c9] at H
     have c9b0 : decide (x6_1 < (l0.length : Int)) = false := decide_eq_false c9
     clear c9
     simp only [Option.some.injEq, Prod.mk.injEq] at H
     obtain ⟨rfl, rfl, rfl⟩ := H
     have hnb11 := NB101_104.out
     have hnc11 := NB104_101.out
     obtain ⟨hc12_0, hc12_1⟩ := zc2 BK101
     obtain ⟨hf12_0, hf12_1⟩ := zf2 BK101
     go_wp2
     refine bodyPost_ret (results_tc rfl _ _ gb101 26 #[.int .i64 0, .int .i64 0] (0, 0) _ rfl (zw2 BK101) Try.underlying26 rfl (by kernel_rfl)) rfl ?_
     exact ⟨by first | rfl | (simp [errW_none, errW_some] <;> rfl) | (simp [*, errW_none, errW_some] <;> rfl), zh HB⟩
 ·
  rw [if_neg c3] at H
  have c3b0 : (t102 == 0) = false := beq_eq_false_iff_ne.mpr c3
  have c3b1 : (t102 != 0) = true := bne_iff_ne.mpr c3
  simp only [Option.some.injEq, Prod.mk.injEq] at H
  obtain ⟨rfl, rfl, rfl⟩ := H
  go_enter Try.func14, Try.ntmps14
  try go_wp2_with (first | ((with_reducible refine zd 3 rfl ?_); refine zb 3 #[.int .i64 0, .int .i64 0] 26 ?_; intro gb101 hg w13 hbox hb; have BK101 := zq3 (hbox); have GW101 := ze hg HB; have GE101 := GW101; replace HB := zt HB hb; clear hb hbox hg) | ((with_reducible refine gate_callee (f := 40) rfl ?_); refine zgo (some 8) Try.func40 #[.slice A0 l0.length c0] ?_; (with_reducible refine (weighbridgeref29_Check.calls k _ _ l0 t102 t103 _ ?side1 ?side2 A2.out).mono ?_); (case side1 => repeat (first | exact (Kd.C_below HR0.out HB.out) | (with_reducible refine Kd.C_alloc ?_ _) | (with_reducible refine Kd.C_drewN ?_ _) | (with_reducible refine Kd.C_drew ?_))); (case side2 => exact HC0.out); rintro e w14 ⟨rfl, hb⟩; refine ⟨_, rfl, ?_⟩; replace BK101 := zs BK101 hb; replace HB := zt HB hb; (try clear hb)) | ((with_reducible refine zd 4 rfl ?_); refine zb 4 #[.int .i64 0, .int .i64 0] 26 ?_; intro gb104 hg w15 hbox hb; have BK104 := zq3 (hbox); have GW104 := ze hg HB; have GE104 := GW104; have NB101_104 := zl hg BK101; have NB104_101 := zg hg BK101; replace BK101 := zs BK101 hb; replace HB := zt HB hb; clear hb hbox hg; have hnb16 := NB104_101.out; have hnc16 := NB101_104.out; obtain ⟨hc17_0, hc17_1⟩ := zc2 BK104; obtain ⟨hf17_0, hf17_1⟩ := zf2 BK104))
  have n0_ : Aside0 (((w15.setCell ⟨gb104, 0, none⟩ (.int .i64 t102)).setCell ⟨gb104, 1, none⟩ (.int .i64 t103)).heap[gb101]? = some (.cells #[.int .i64 0, .int .i64 0] 26 (0, 0))) := ⟨zw BK101⟩
  have n1_ : Aside0 (((w15.setCell ⟨gb104, 0, none⟩ (.int .i64 t102)).setCell ⟨gb104, 1, none⟩ (.int .i64 t103)).heap[gb104]? = some (.cells #[.int .i64 t102, .int .i64 t103] 26 (0, 0))) := ⟨zw2 BK104⟩
  have n2_ : Aside0 (Below w.heap.size w ((w15.setCell ⟨gb104, 0, none⟩ (.int .i64 t102)).setCell ⟨gb104, 1, none⟩ (.int .i64 t103))) := ⟨zh HB⟩
  (try clear BK101)
  (try clear BK104)
  (try clear HB)
  generalize ((w15.setCell ⟨gb104, 0, none⟩ (.int .i64 t102)).setCell ⟨gb104, 1, none⟩ (.int .i64 t103)) = w18 at n0_ n1_ n2_ ⊢
  have BK101 := n0_
  have BK104 := n1_
  have HB := n2_
  clear n0_ n1_ n2_
  replace BK101 := zq3 (zq2 BK101.out); replace BK104 := zq3 (zq2 BK104.out); replace HB := zq3 (zq8 HB.out)
  refine start_ (n := 3) (S := fun w' => w'.cell? ⟨gb104, 0, none⟩ = some (.int .i64 t102) ∧ w'.cell? ⟨gb104, 1, none⟩ = some (.int .i64 t103)) (ds := []) #[false, false, false] (by kernel_rfl) rfl rfl ⟨(zq5 BK104.out 0).trans rfl, (zq5 BK104.out 1).trans rfl⟩ (fun hHeld => ?_)
  generalize w18.drew = w19 at BK101 BK104 HB hHeld ⊢
  refine pure_ (i := 1) (N := some 2) (v := ?_) (a' := ?_) #[false, true, false] rfl rfl (by kernel_rfl) (fun _ _ _ h => h) (Or.inl ⟨by rfl, ?_⟩) ?_ ?_
  rotate_left
  ·
   intro w'
   go_simp
   with_reducible rfl
  rotate_left
  ·
   simp only [Act.put, List.setIfInBounds_toArray, List.set_cons_zero, List.set_cons_succ, i64_w, i32_w]
   rfl
  refine take_ (i := 0) (N := some 12) (v := ?_) (a' := ?_) #[true, true, false] rfl rfl (by kernel_rfl) (fun _ _ _ h => h) (Or.inl ⟨by rfl, ?_⟩) hHeld ?_ ?_
  rotate_left
  ·
   rintro w' ⟨s0, s1⟩
   go_simp
   with_reducible rfl
  rotate_left
  ·
   simp only [Act.put, List.setIfInBounds_toArray, List.set_cons_zero, List.set_cons_succ, i64_w, i32_w]
   rfl
  refine one_ (i := 2) (N := none) #[true, true, true] rfl rfl (by kernel_rfl) (by decide) (fun K hK => ?_)
  have hs20 : w19.cell? ⟨gb101, 0, none⟩ = some (.int .i64 0) := (zq5 BK101.out 0).trans rfl
  have hfs20 := zq4 BK101.out 0
  have hns20_1 := NB104_101.out
  have hms20_1 := NB101_104.out
  have hs21 : w19.cell? ⟨gb101, 1, none⟩ = some (.int .i64 0) := (zq5 BK101.out 1).trans rfl
  have hfs21 := zq4 BK101.out 1
  have hns21_1 := NB104_101.out
  have hms21_1 := NB101_104.out
  refine skip_ (w1 := ?_) (by rfl) rfl ?_ ?_
  rotate_left
  ·
   go_simp
   rfl
  refine hK.out _ _ ⟨((cell_far (p := ⟨gb101, _, none⟩) NB104_101.out _).trans (((cell_far (p := ⟨gb101, _, none⟩) NB104_101.out _).trans (hHeld.1)))), ((cell_far (p := ⟨gb101, _, none⟩) NB104_101.out _).trans (((cell_far (p := ⟨gb101, _, none⟩) NB104_101.out _).trans (hHeld.2))))⟩ (fun hHeld => ?_)
  clear hK K
  refine done_ (by kernel_rfl) ?_
  try go_wp2
  refine bodyPost_ret (results_tc rfl _ _ gb101 26 #[.int .i64 t102, .int .i64 t103] (0, 0) _ rfl (zw2 BK101) Try.underlying26 rfl (by kernel_rfl)) rfl ?_
  exact ⟨by first | rfl | (simp [errW_none, errW_some] <;> rfl) | (simp [*, errW_none, errW_some] <;> rfl), zh HB⟩

end Go.Proofs.Ytiaoaoebghnpkaa.P
end
section
namespace Go.Proofs.Ytiaoaoebghnpkaa.P
open Go.RowKit Go.Proofs.YtiaoaoebghnpkaaW.PrintWords Go.Proofs.YtiaoaoebghnpkaaW.PrintLast Go.Proofs.YtiaoaoebghnpkaaW.PrintMore
attribute [local go_sem] max2_int min2_int max_two min_two max_three min_three max_four min_four   -- for this text's walks alone
set_option linter.unusedVariables false
set_option linter.unusedSimpArgs false

/-! ### curve_less: function 69 -/
def curve_less.f (a0_0 : Int) (a0_1 : Int) (a1_0 : Int) (a1_1 : Int) : Option (Int × Int) := (wide_Sub.f a0_0 a0_1 a1_0 a1_1).bind fun bt104 => (if bt104.2.2 = true then (some (0, 0)) else (some (bt104.1, bt104.2.1)))
set_option maxHeartbeats 8000000 in
set_option maxRecDepth 100000 in
theorem curve_less.calls (a0_0 : Int) (a0_1 : Int) (a1_0 : Int) (a1_1 : Int) (r1 : Int) (r2 : Int) (w : World) (h : curve_less.f a0_0 a0_1 a1_0 a1_1 = some (r1, r2)) :
  Calls Try.prog 69 #[.agg #[.int .u64 a0_0, .int .u64 a0_1], .agg #[.int .u64 a1_0, .int .u64 a1_1]] w fun e w' => e = .returned (.agg #[.int .u64 r1, .int .u64 r2]) ∧ Below w.heap.size w w' := by
 have hu42 := Try.underlying42
 have HB := zq3 (Below.refl w.heap.size w)
 have H : ((wide_Sub.f a0_0 a0_1 a1_0 a1_1).bind fun bt104 => (if bt104.2.2 = true then (some (0, 0)) else (some (bt104.1, bt104.2.1)))) = some (r1, r2) := h
 clear h
 replace H := Option.bind_eq_some_iff.mp H
 obtain ⟨⟨t104, t105, t106⟩, A30, H⟩ := H
 replace H : (if t106 = true then (some (0, 0)) else (some (t104, t105))) = some (r1, r2) := H
 have A3 := zq3 A30
 clear A30
 by_cases c4 : t106 = true
 ·
  subst c4
  have H1 : (some (0, 0)) = some (r1, r2) := by rw [if_pos rfl] at H; exact H
  clear H
  have H := H1
  clear H1
  simp only [Option.some.injEq, Prod.mk.injEq] at H
  obtain ⟨rfl, rfl⟩ := H
  go_enter Try.func69, Try.ntmps69
  go_wp2_with (first | ((with_reducible refine zd 2 rfl ?_); refine zb 2 #[.int .u64 a0_0, .int .u64 a0_1] 42 ?_; intro gb101 hg w5 hbox hb; have BK101 := zq3 (hbox); have GW101 := ze hg HB; have GE101 := GW101; replace HB := zt HB hb; clear hb hbox hg) | ((with_reducible refine zd 3 rfl ?_); refine zb 3 #[.int .u64 a1_0, .int .u64 a1_1] 42 ?_; intro gb102 hg w6 hbox hb; have BK102 := zq3 (hbox); have GW102 := ze hg HB; have GE102 := GW102; have NB101_102 := zl hg BK101; have NB102_101 := zg hg BK101; replace BK101 := zs BK101 hb; replace HB := zt HB hb; clear hb hbox hg) | ((with_reducible refine zd 4 rfl ?_); refine zb 4 #[.int .u64 0, .int .u64 0] 42 ?_; intro gb103 hg w7 hbox hb; have BK103 := zq3 (hbox); have GW103 := ze hg HB; have GE103 := GW103; have NB101_103 := zl hg BK101; have NB103_101 := zg hg BK101; have NB102_103 := zl hg BK102; have NB103_102 := zg hg BK102; replace BK101 := zs BK101 hb; replace BK102 := zs BK102 hb; replace HB := zt HB hb; clear hb hbox hg; have hnb8 := NB101_102.out; have hnc8 := NB102_101.out; have hnb9 := NB101_103.out; have hnc9 := NB103_101.out; obtain ⟨hc10_0, hc10_1⟩ := zc2 BK101; obtain ⟨hf10_0, hf10_1⟩ := zf2 BK101; have hnb11 := NB102_103.out; have hnc11 := NB103_102.out; obtain ⟨hc12_0, hc12_1⟩ := zc2 BK102; obtain ⟨hf12_0, hf12_1⟩ := zf2 BK102) | ((with_reducible refine gate_callee (f := 73) rfl ?_); refine zgo (some 10) Try.func73 #[.agg #[.int .u64 a0_0, .int .u64 a0_1], .agg #[.int .u64 a1_0, .int .u64 a1_1]] ?_; (with_reducible refine (wide_Sub.calls a0_0 a0_1 a1_0 a1_1 t104 t105 true _ A3.out).mono ?_); rintro e w13 ⟨rfl, hb⟩; refine ⟨_, rfl, ?_⟩; replace BK101 := zs BK101 hb; replace BK102 := zs BK102 hb; replace BK103 := zs BK103 hb; replace HB := zt HB hb; (try clear hb)) | ((with_reducible refine zd 5 rfl ?_); refine zb 5 #[.int .u64 0, .int .u64 0] 42 ?_; intro gb107 hg w14 hbox hb; have BK107 := zq3 (hbox); have GW107 := ze hg HB; have GE107 := GW107; have NB101_107 := zl hg BK101; have NB107_101 := zg hg BK101; have NB102_107 := zl hg BK102; have NB107_102 := zg hg BK102; have NB103_107 := zl hg BK103; have NB107_103 := zg hg BK103; replace BK101 := zs BK101 hb; replace BK102 := zs BK102 hb; replace BK103 := zs BK103 hb; replace HB := zt HB hb; clear hb hbox hg; have hnb15 := NB107_101.out; have hnc15 := NB101_107.out; have hnb16 := NB107_102.out; have hnc16 := NB102_107.out; have hnb17 := NB107_103.out; have hnc17 := NB103_107.out; obtain ⟨hc18_0, hc18_1⟩ := zc2 BK107; obtain ⟨hf18_0, hf18_1⟩ := zf2 BK107; obtain ⟨hc19_0, hc19_1⟩ := zc2 BK103; obtain ⟨hf19_0, hf19_1⟩ := zf2 BK103))
  refine bodyPost_ret (results_cell_row rfl _ _ gb103 42 #[.int .u64 0, .int .u64 0] (0, 0) _ rfl (zw2 BK103) Try.underlying42 rfl (by kernel_rfl)) rfl ?_
  exact ⟨by first | rfl | (simp [errW_none, errW_some] <;> rfl) | (simp [*, errW_none, errW_some] <;> rfl), zh HB⟩
 ·
  replace c4 := Bool.eq_false_iff.mpr c4
  subst c4
  have H1 : (some (t104, t105)) = some (r1, r2) := by rw [if_neg (show ¬ (false = true) by decide)] at H; exact H
  clear H
  have H := H1
  clear H1
  simp only [Option.some.injEq, Prod.mk.injEq] at H
  obtain ⟨rfl, rfl⟩ := H
  go_enter Try.func69, Try.ntmps69
  go_wp2_with (first | ((with_reducible refine zd 2 rfl ?_); refine zb 2 #[.int .u64 a0_0, .int .u64 a0_1] 42 ?_; intro gb101 hg w20 hbox hb; have BK101 := zq3 (hbox); have GW101 := ze hg HB; have GE101 := GW101; replace HB := zt HB hb; clear hb hbox hg) | ((with_reducible refine zd 3 rfl ?_); refine zb 3 #[.int .u64 a1_0, .int .u64 a1_1] 42 ?_; intro gb102 hg w21 hbox hb; have BK102 := zq3 (hbox); have GW102 := ze hg HB; have GE102 := GW102; have NB101_102 := zl hg BK101; have NB102_101 := zg hg BK101; replace BK101 := zs BK101 hb; replace HB := zt HB hb; clear hb hbox hg) | ((with_reducible refine zd 4 rfl ?_); refine zb 4 #[.int .u64 0, .int .u64 0] 42 ?_; intro gb103 hg w22 hbox hb; have BK103 := zq3 (hbox); have GW103 := ze hg HB; have GE103 := GW103; have NB101_103 := zl hg BK101; have NB103_101 := zg hg BK101; have NB102_103 := zl hg BK102; have NB103_102 := zg hg BK102; replace BK101 := zs BK101 hb; replace BK102 := zs BK102 hb; replace HB := zt HB hb; clear hb hbox hg; have hnb23 := NB101_102.out; have hnc23 := NB102_101.out; have hnb24 := NB101_103.out; have hnc24 := NB103_101.out; obtain ⟨hc25_0, hc25_1⟩ := zc2 BK101; obtain ⟨hf25_0, hf25_1⟩ := zf2 BK101; have hnb26 := NB102_103.out; have hnc26 := NB103_102.out; obtain ⟨hc27_0, hc27_1⟩ := zc2 BK102; obtain ⟨hf27_0, hf27_1⟩ := zf2 BK102) | ((with_reducible refine gate_callee (f := 73) rfl ?_); refine zgo (some 10) Try.func73 #[.agg #[.int .u64 a0_0, .int .u64 a0_1], .agg #[.int .u64 a1_0, .int .u64 a1_1]] ?_; (with_reducible refine (wide_Sub.calls a0_0 a0_1 a1_0 a1_1 t104 t105 false _ A3.out).mono ?_); rintro e w28 ⟨rfl, hb⟩; refine ⟨_, rfl, ?_⟩; replace BK101 := zs BK101 hb; replace BK102 := zs BK102 hb; replace BK103 := zs BK103 hb; replace HB := zt HB hb; (try clear hb)) | ((with_reducible refine zd 5 rfl ?_); refine zb 5 #[.int .u64 0, .int .u64 0] 42 ?_; intro gb107 hg w29 hbox hb; have BK107 := zq3 (hbox); have GW107 := ze hg HB; have GE107 := GW107; have NB101_107 := zl hg BK101; have NB107_101 := zg hg BK101; have NB102_107 := zl hg BK102; have NB107_102 := zg hg BK102; have NB103_107 := zl hg BK103; have NB107_103 := zg hg BK103; replace BK101 := zs BK101 hb; replace BK102 := zs BK102 hb; replace BK103 := zs BK103 hb; replace HB := zt HB hb; clear hb hbox hg; have hnb30 := NB107_101.out; have hnc30 := NB101_107.out; have hnb31 := NB107_102.out; have hnc31 := NB102_107.out; have hnb32 := NB107_103.out; have hnc32 := NB103_107.out; obtain ⟨hc33_0, hc33_1⟩ := zc2 BK107; obtain ⟨hf33_0, hf33_1⟩ := zf2 BK107; obtain ⟨hc34_0, hc34_1⟩ := zc2 BK103; obtain ⟨hf34_0, hf34_1⟩ := zf2 BK103))
  refine bodyPost_ret (results_cell_row rfl _ _ gb103 42 #[.int .u64 t104, .int .u64 t105] (0, 0) _ rfl (zw2 BK103) Try.underlying42 rfl (by kernel_rfl)) rfl ?_
  exact ⟨by first | rfl | (simp [errW_none, errW_some] <;> rfl) | (simp [*, errW_none, errW_some] <;> rfl), zh HB⟩

end Go.Proofs.Ytiaoaoebghnpkaa.P
end
section
namespace Go.Proofs.Ytiaoaoebghnpkaa.P
open Go.RowKit Go.Proofs.YtiaoaoebghnpkaaW.PrintWords Go.Proofs.YtiaoaoebghnpkaaW.PrintLast Go.Proofs.YtiaoaoebghnpkaaW.PrintMore
attribute [local go_sem] max2_int min2_int max_two min_two max_three min_three max_four min_four   -- for this text's walks alone
set_option linter.unusedVariables false
set_option linter.unusedSimpArgs false

/-! ### weighbridgeref25_Run: function 51 -/
mutual
def weighbridgeref25_Run.l0 : Nat → List Int → List Int → Int → Option (List Int)
 | 0, _, _, _ => none
 | k + 1, x0, x3, x4 => if x4 < (x0.length : Int) then (weighbridgeref25_Run.l1 k x0 x3 x4 0 0) else (some x3)
def weighbridgeref25_Run.l1 : Nat → List Int → List Int → Int → Int → Int → Option (List Int)
 | 0, _, _, _, _, _ => none
 | k + 1, x0, x3, x4, x5, x6 => if x6 ≤ x4 then (if 0 ≤ x6 then (if x6 < (x0.length : Int) then (weighbridgeref25_Run.l1 k x0 x3 x4 (mx x5 (rd x0 x6)) (wrap64 (x6 + 1))) else (none)) else (none)) else (if x3.length < 17592186044416 then (weighbridgeref25_Run.l0 k x0 (x3 ++ [x5]) (wrap64 (x4 + 1))) else (none))
end
def weighbridgeref25_Run.f (k : Nat) (l0 : List Int) : Option (List Int) := weighbridgeref25_Run.l0 k l0 ([] : List Int) 0
set_option maxHeartbeats 8000000 in
set_option maxRecDepth 100000 in
theorem weighbridgeref25_Run.calls (k : Nat) (A0 : Option Addr) (c0 : Nat) (l0 : List Int) (r : List Int) (w : World) (hr0 : Kd.C (Kd.int .u64) w A0 l0.length l0) (hc0 : l0.length ≤ c0) (h : weighbridgeref25_Run.f k l0 = some r) :
  Calls Try.prog 51 #[.slice A0 l0.length c0] w fun e w' => ∃ v0_ : Value, e = .returned (v0_) ∧ Kd.R (Kd.int .u64) 23 w' w.heap.size (fun _ => True) v0_ r ∧ Below w.heap.size w w' := by
 have HR0 := zq3 hr0
 have HC0 := zq3 hc0
 clear hr0 hc0
 have HB := zq3 (Below.refl w.heap.size w)
 have H : (weighbridgeref25_Run.l0 k l0 ([] : List Int) 0) = some r := h
 clear h
 have H' := zq3 H
 clear H
 go_enter Try.func51, Try.ntmps51
 go_wp2
 go_loopg [3, 4] k (fun kq v3 v4 w' => ∃ (x3_1 : List Int) (x4_1 : Int), v4 = .int .i64 x4_1 ∧ Aside0 (weighbridgeref25_Run.l0 kq l0 x3_1 x4_1 = some r) ∧ Aside0 (kq ≤ k) ∧ Aside0 (Kd.R (Kd.int .u64) 23 w' w.heap.size (fun _ => True) v3 x3_1) ∧ Aside0 (Below w.heap.size w w'))
 case atStart => exact ⟨(([] : List Int)), (0), (by first | rfl | (simp; done) | (simp [*]; done)), H', ⟨Nat.le_refl _⟩, ⟨by first | exact Kd.R_nil _ _ _ _ _ | exact Kd.N_nil _ _ _ _ _ | exact Kd.V_nil _ _ _ _ _ | exact Kd.Q_nil _ _ _ _ _ | exact Kd.S_nil _ _ _ _ _⟩, ⟨zh HB⟩⟩
 case round =>
  clear H'
  obtain ⟨x3_1, x4_1, rfl, HA, HK1, HO_3, HB⟩ := hrel
  cases gk with
  | zero => exact absurd HA.out (by simp [weighbridgeref25_Run.l0])
  | succ k1 =>
   have H := HA.out
   clear HA
   simp only [weighbridgeref25_Run.l0] at H
   by_cases c2 : x4_1 < (l0.length : Int)
   ·
    rw [if_pos c2] at H
    have c2b0 : decide (x4_1 < (l0.length : Int)) = true := decide_eq_true c2
    clear c2
    have H' := zq3 H
    clear H
    go_wp2
    go_loopg [5, 6] k1 (fun kq v5 v6 w' => ∃ (x5_2 : Int) (x6_2 : Int), v5 = .int .u64 x5_2 ∧ v6 = .int .i64 x6_2 ∧ Aside0 (weighbridgeref25_Run.l1 kq l0 x3_1 x4_1 x5_2 x6_2 = some r) ∧ Aside0 (kq ≤ k1) ∧ Aside0 (Kd.R (Kd.int .u64) 23 w' w.heap.size (fun _ => True) u3 x3_1) ∧ Aside0 (Below w.heap.size w w'))
    case atStart => exact ⟨(0), (0), (by first | rfl | (simp; done) | (simp [*]; done)), (by first | rfl | (simp; done) | (simp [*]; done)), H', ⟨Nat.le_refl _⟩, ⟨zo HO_3⟩, ⟨zh HB⟩⟩
    case round =>
     clear H'
     (try clear c2); (try clear c2b0); (try clear p2)
     obtain ⟨x5_2, x6_2, rfl, rfl, HA, HK2, HO_3, HB⟩ := hrel
     cases gk with
     | zero => exact absurd HA.out (by simp [weighbridgeref25_Run.l1])
     | succ k2 =>
      have H := HA.out
      clear HA
      simp only [weighbridgeref25_Run.l1] at H
      by_cases c3 : x6_2 ≤ x4_1
      ·
       rw [if_pos c3] at H
       have c3b0 : decide (x6_2 ≤ x4_1) = true := decide_eq_true c3
       clear c3
       by_cases c4 : 0 ≤ x6_2
       ·
        rw [if_pos c4] at H
        have c4b0 : decide (0 ≤ x6_2) = true := decide_eq_true c4
        clear c4
        by_cases c5 : x6_2 < (l0.length : Int)
        ·
         rw [if_pos c5] at H
         have c5b0 : decide (x6_2 < (l0.length : Int)) = true := decide_eq_true c5
         clear c5
         obtain ⟨ji6, hji6⟩ : ∃ j_ : Int, (mx x5_2 (rd l0 x6_2)) = j_ := ⟨_, rfl⟩
         replace H : (weighbridgeref25_Run.l1 k2 l0 x3_1 x4_1 ji6 (wrap64 (x6_2 + 1))) = some r := by first | (rw [hji6] at H; exact H) | (simp only [hji6] at H ⊢; exact H)
         have hji6_ : (if x5_2 < (rd l0 x6_2) then (rd l0 x6_2) else x5_2) = ji6 := hji6
         have H' := zq3 H
         clear H
         have p101 : 0 ≤ (x6_2 : Int) := of_decide_eq_true (by first | (with_reducible assumption) | assumption)
         have q101 : x6_2 < (l0.length : Int) := of_decide_eq_true (by first | (with_reducible assumption) | assumption)
         obtain ⟨ad101, e101, hx101_0⟩ := Kd.at_int HR0.out x6_2 p101 q101
         cases e101
         replace hx101_0 := (HB.out.cell (World.block_lt_of_cell? w _ hx101_0)).trans hx101_0
         replace p101 := eq_true p101
         replace q101 := eq_true q101
         go_wp2
         go_roundg k2
         case measure => have := HK1.out; have := HK2.out; omega
         case rel => exact ⟨(ji6), (wrap64 (x6_2 + 1)), (by first | rfl | (simp; done) | (simp only [← hji6] <;> (first | rfl | simp)) | (simp [*]; done)), (by first | rfl | (simp; done) | (simp [*]; done)), H', ⟨by have := HK1.out; have := HK2.out; omega⟩, ⟨zo HO_3⟩, ⟨zh HB⟩⟩
        ·
         rw [if_neg c5] at H
         exact absurd H (by simp)
       ·
        rw [if_neg c4] at H
        exact absurd H (by simp)
      ·
       rw [if_neg c3] at H
       have c3b0 : decide (x6_2 ≤ x4_1) = false := decide_eq_false c3
       clear c3
       by_cases c7 : x3_1.length < 17592186044416
       ·
        rw [if_pos c7] at H
        have LMc7 := zq3 c7
        clear c7
        obtain ⟨y102, hy102⟩ : ∃ y_ : List Int, y_ = (x3_1 ++ [x5_2]) := ⟨_, rfl⟩
        replace H : (weighbridgeref25_Run.l0 k2 l0 y102 (wrap64 (x4_1 + 1))) = some r := by first | (rw [hy102]; with_reducible exact H) | (have H2_ := (Option.bind_some _ _).symm.trans H; rw [hy102]; with_reducible exact H2_) | (have H2_ := (Option.bind_some _ _).symm.trans H; with_reducible exact H2_) | with_reducible exact H | (rw [hy102]; exact H) | exact H
        have Ny102 := zq3 hy102
        clear hy102
        have H' := zq3 H
        clear H
        go_wp2_with (first | ((with_reducible refine gate_builtin (b := .append) (xs := #[.tmp 24, .tmp 26]) rfl ?_); at_builtin; refine Kd.R_append (Kd.int .u64) (w0 := w) w.heap.size rfl (.tmp 24) (.tmp 26) 57 23 (.int .u64 0) 8 rfl Try.underlying57 info23 rfl (by decide) (by omega) u3 x3_1 x5_2 [.int .u64 x5_2] (fun _ => True) (fun _ => False) rfl rfl ?aP (fun _ hk => hk.elim) ?aF ?aO ?aB ?aS ?aL ?_; (case aP => exact rfl); (case aB => exact (zh HB)); (case aF => exact (fun _ _ => trivial)); (case aO => exact (zo HO_3)); (case aS => exact (below_size (zh HB))); (case aL => have := LMc7.out; omega); intro v103 w8 ho hb hg hat; rw [← Ny102.out] at ho; have HO104 := zq3 (ho); replace HB := zq3 (hb); clear HO_3; clear ho hb hg hat))
        go_roundg k2
        case measure => have := HK1.out; have := HK2.out; omega
        case rel => exact ⟨(y102), (wrap64 (x4_1 + 1)), (by first | rfl | (simp; done) | (simp [*]; done)), H', ⟨by have := HK1.out; have := HK2.out; omega⟩, ⟨by (with_reducible repeat (first | apply Kd.R_alloc | apply Kd.R_drewN | apply Kd.R_drew)); exact HO104.out⟩, ⟨zh HB⟩⟩
       ·
        rw [if_neg c7] at H
        exact absurd H (by simp)
   ·
    rw [if_neg c2] at H
    have c2b0 : decide (x4_1 < (l0.length : Int)) = false := decide_eq_false c2
    clear c2
    obtain rfl := Option.some.inj H
    go_wp2
    go_ret
    exact ⟨_, by first | rfl | (simp [errW_none, errW_some] <;> rfl) | (simp [*, errW_none, errW_some] <;> rfl), zo HO_3, zh HB⟩

end Go.Proofs.Ytiaoaoebghnpkaa.P
end
