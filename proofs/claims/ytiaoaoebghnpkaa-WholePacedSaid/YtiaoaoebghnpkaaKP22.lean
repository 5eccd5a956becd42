/- Parts of the proof, in one text. -/
import Derived.Test.YtiaoaoebghnpkaaKP10
import Derived.Test.YtiaoaoebghnpkaaKP11
section
namespace Go.Proofs.Ytiaoaoebghnpkaa.P
open Go.RowKit Go.Proofs.YtiaoaoebghnpkaaW.PrintWords Go.Proofs.YtiaoaoebghnpkaaW.PrintLast Go.Proofs.YtiaoaoebghnpkaaW.PrintMore
attribute [local go_sem] max2_int min2_int max_two min_two max_three min_three max_four min_four   -- for this text's walks alone
set_option linter.unusedVariables false
set_option linter.unusedSimpArgs false

/-! ### single_Check: function 128 -/
def single_Check.j0 : Nat → Bool → Int → Bool → Int → Int → Int → Int → Option (Int)
 | 0, _, _, _, _, _, _, _ => none
 | k + 1, x7, x102000, x102001, x102002, x102003, x102004, x102005 => if x7 = true then (some 16) else (if (mx x102004 x102005) > 4294967296 then (some 17) else (if (Go.bits .or .u64 x102004 x102005) = 0 then (some 17) else (some 0)))
def single_Check.f (k : Nat) (a0_0 : Int) (a0_1 : Bool) (a0_2 : Int) (a0_3 : Int) (a0_4 : Int) (a0_5 : Int) : Option (Int) := if a0_0 = 1 then (if a0_2 > 1099511627776 then (single_Check.j0 k true a0_0 a0_1 a0_2 a0_3 a0_4 a0_5) else (single_Check.j0 k (a0_3 != 0) a0_0 a0_1 a0_2 a0_3 a0_4 a0_5)) else (some 10)
set_option maxHeartbeats 8000000 in
set_option maxRecDepth 100000 in
theorem single_Check.calls (k : Nat) (a0_0 : Int) (a0_1 : Bool) (a0_2 : Int) (a0_3 : Int) (a0_4 : Int) (a0_5 : Int) (r : Int) (w : World) (h : single_Check.f k a0_0 a0_1 a0_2 a0_3 a0_4 a0_5 = some r) :
  Calls Try.prog 128 #[.agg #[.int .i64 a0_0, .bool a0_1, .int .u64 a0_2, .int .u64 a0_3, .int .u64 a0_4, .int .u64 a0_5]] w fun e w' => e = .returned (.int .i64 r) ∧ Below w.heap.size w w' := by
 have hu49 := Try.underlying49
 have HB := zq3 (Below.refl w.heap.size w)
 have H : (if a0_0 = 1 then (if a0_2 > 1099511627776 then (single_Check.j0 k true a0_0 a0_1 a0_2 a0_3 a0_4 a0_5) else (single_Check.j0 k (a0_3 != 0) a0_0 a0_1 a0_2 a0_3 a0_4 a0_5)) else (some 10)) = some r := h
 clear h
 by_cases c2 : a0_0 = 1
 ·
  rw [if_pos c2] at H
  have c2b0 : (a0_0 == 1) = true := beq_iff_eq.mpr c2
  have c2b1 : (a0_0 != 1) = false := bne_eq_false_iff_eq.mpr c2
  clear c2
  have HC3 := zq3 H
  clear H
  go_enter Try.func128, Try.ntmps128
  go_upto_region 3 with (first | ((with_reducible refine zd 1 rfl ?_); refine zb 1 #[.int .i64 a0_0, .bool a0_1, .int .u64 a0_2, .int .u64 a0_3, .int .u64 a0_4, .int .u64 a0_5] 49 ?_; intro gb101 hg w4 hbox hb; have BK101 := zq3 (hbox); have GW101 := ze hg HB; have GE101 := GW101; replace HB := zt HB hb; clear hb hbox hg; obtain ⟨hc5_0, hc5_1, hc5_2, hc5_3, hc5_4, hc5_5⟩ := zc6 BK101; obtain ⟨hf5_0, hf5_1, hf5_2, hf5_3, hf5_4, hf5_5⟩ := zf6 BK101))
  (try simp only [Act.put, List.setIfInBounds_toArray, List.set_cons_zero, List.set_cons_succ])
  go_cut [7] (fun v7 wc => ∃ (kq : Nat) (x7_2 : Bool), v7 = .bool x7_2 ∧ Aside0 (single_Check.j0 kq x7_2 a0_0 a0_1 a0_2 a0_3 a0_4 a0_5 = some r) ∧ Aside0 (kq ≤ k) ∧ Aside0 (wc.heap[gb101]? = some (.cells #[.int .i64 a0_0, .bool a0_1, .int .u64 a0_2, .int .u64 a0_3, .int .u64 a0_4, .int .u64 a0_5] 49 (0, 0))) ∧ Aside0 (Below w.heap.size w wc))
  case first =>
   have H := HC3.out
   clear HC3
   by_cases c6 : a0_2 > 1099511627776
   ·
    rw [if_pos c6] at H
    have c6b0 : decide (1099511627776 < a0_2) = true := decide_eq_true c6
    clear c6
    (first | rw [c6b0] | (simp only [i64_w, i32_w]; rw [c6b0]) | skip)
    have H' := zq3 H
    clear H
    obtain ⟨hc7_0, hc7_1, hc7_2, hc7_3, hc7_4, hc7_5⟩ := zc6 BK101
    obtain ⟨hf7_0, hf7_1, hf7_2, hf7_3, hf7_4, hf7_5⟩ := zf6 BK101
    go_wp2
    go_meet
    case rel => exact ⟨_, (true), (by first | rfl | (simp; done) | (simp [*]; done)), H', ⟨by first | omega | exact Nat.le_refl _⟩, ⟨zw BK101⟩, ⟨zh HB⟩⟩
   ·
    rw [if_neg c6] at H
    have c6b0 : decide (1099511627776 < a0_2) = false := decide_eq_false c6
    clear c6
    (first | rw [c6b0] | (simp only [i64_w, i32_w]; rw [c6b0]) | skip)
    have H' := zq3 H
    clear H
    obtain ⟨hc8_0, hc8_1, hc8_2, hc8_3, hc8_4, hc8_5⟩ := zc6 BK101
    obtain ⟨hf8_0, hf8_1, hf8_2, hf8_3, hf8_4, hf8_5⟩ := zf6 BK101
    go_wp2
    go_meet
    case rel => exact ⟨_, ((a0_3 != 0)), (by first | rfl | (simp; done) | (simp [*]; done)), H', ⟨by first | omega | exact Nat.le_refl _⟩, ⟨zw BK101⟩, ⟨zh HB⟩⟩
  case rest =>
   clear HC3
   (try clear c1); (try clear c2); (try clear c2b0); (try clear c2b1); (try clear p2); (try clear c6); (try clear c6b0)
   try clear hc5_0 hc5_1 hc5_2 hc5_3 hc5_4 hc5_5 hc7_0 hc7_1 hc7_2 hc7_3 hc7_4 hc7_5 hc8_0 hc8_1 hc8_2 hc8_3 hc8_4 hc8_5 hf5_0 hf5_1 hf5_2 hf5_3 hf5_4 hf5_5 hf7_0 hf7_1 hf7_2 hf7_3 hf7_4 hf7_5 hf8_0 hf8_1 hf8_2 hf8_3 hf8_4 hf8_5
   obtain ⟨kq, x7_2, rfl, HA, HJ2, BK101, HB⟩ := hcut
   cases kq with
   | zero => exact absurd HA.out (by simp [single_Check.j0])
   | succ kj2 =>
    have H := HA.out
    clear HA
    simp only [single_Check.j0] at H
    by_cases c9 : x7_2 = true
    ·
     subst c9
     have H1 : (some 16) = some r := by rw [if_pos rfl] at H; exact H
     clear H
     have H := H1
     clear H1
     obtain rfl := Option.some.inj H
     go_wp2
     go_ret
     exact ⟨by first | rfl | (simp [errW_none, errW_some] <;> rfl) | (simp [*, errW_none, errW_some] <;> rfl), zh HB⟩
    ·
     replace c9 := Bool.eq_false_iff.mpr c9
     subst c9
     have H1 : (if (mx a0_4 a0_5) > 4294967296 then (some 17) else (if (Go.bits .or .u64 a0_4 a0_5) = 0 then (some 17) else (some 0))) = some r := by rw [if_neg (show ¬ (false = true) by decide)] at H; exact H
     clear H
     have H := H1
     clear H1
     obtain ⟨ji10, hji10⟩ : ∃ j_ : Int, (mx a0_4 a0_5) = j_ := ⟨_, rfl⟩
     replace H : (if (ji10) > 4294967296 then (some 17) else (if (Go.bits .or .u64 a0_4 a0_5) = 0 then (some 17) else (some 0))) = some r := by first | (rw [hji10] at H; exact H) | (simp only [hji10] at H ⊢; exact H)
     have hji10_ : (if a0_4 < a0_5 then a0_5 else a0_4) = ji10 := hji10
     by_cases c11 : (ji10) > 4294967296
     ·
      rw [if_pos c11] at H
      have c11b0 : decide (4294967296 < (ji10)) = true := decide_eq_true c11
      clear c11
      obtain rfl := Option.some.inj H
      obtain ⟨hc12_0, hc12_1, hc12_2, hc12_3, hc12_4, hc12_5⟩ := zc6 BK101
      obtain ⟨hf12_0, hf12_1, hf12_2, hf12_3, hf12_4, hf12_5⟩ := zf6 BK101
      go_wp2
      go_ret
      exact ⟨by first | rfl | (simp [errW_none, errW_some] <;> rfl) | (simp only [← hji10]; first | rfl | (simp [errW_none, errW_some] <;> rfl)) | (simp [*, errW_none, errW_some] <;> rfl), zh HB⟩
     ·
      rw [if_neg c11] at H
      have c11b0 : decide (4294967296 < (ji10)) = false := decide_eq_false c11
      clear c11
      by_cases c13 : (Go.bits .or .u64 a0_4 a0_5) = 0
      ·
       rw [if_pos c13] at H
       have c13b0 : ((Go.bits .or .u64 a0_4 a0_5) == 0) = true := beq_iff_eq.mpr c13
       have c13b1 : ((Go.bits .or .u64 a0_4 a0_5) != 0) = false := bne_eq_false_iff_eq.mpr c13
       clear c13
       obtain rfl := Option.some.inj H
       obtain ⟨hc14_0, hc14_1, hc14_2, hc14_3, hc14_4, hc14_5⟩ := zc6 BK101
       obtain ⟨hf14_0, hf14_1, hf14_2, hf14_3, hf14_4, hf14_5⟩ := zf6 BK101
       go_wp2
       go_ret
       exact ⟨by first | rfl | (simp [errW_none, errW_some] <;> rfl) | (simp only [← hji10]; first | rfl | (simp [errW_none, errW_some] <;> rfl)) | (simp [*, errW_none, errW_some] <;> rfl), zh HB⟩
      ·
       rw [if_neg c13] at H
       have c13b0 : ((Go.bits .or .u64 a0_4 a0_5) == 0) = false := beq_eq_false_iff_ne.mpr c13
       have c13b1 : ((Go.bits .or .u64 a0_4 a0_5) != 0) = true := bne_iff_ne.mpr c13
       obtain rfl := Option.some.inj H
       obtain ⟨hc15_0, hc15_1, hc15_2, hc15_3, hc15_4, hc15_5⟩ := zc6 BK101
       obtain ⟨hf15_0, hf15_1, hf15_2, hf15_3, hf15_4, hf15_5⟩ := zf6 BK101
       go_wp2
       go_ret
       exact ⟨by first | rfl | (simp [errW_none, errW_some] <;> rfl) | (simp only [← hji10]; first | rfl | (simp [errW_none, errW_some] <;> rfl)) | (simp [*, errW_none, errW_some] <;> rfl), zh HB⟩
 ·
  rw [if_neg c2] at H
  have c2b0 : (a0_0 == 1) = false := beq_eq_false_iff_ne.mpr c2
  have c2b1 : (a0_0 != 1) = true := bne_iff_ne.mpr c2
  obtain rfl := Option.some.inj H
  go_enter Try.func128, Try.ntmps128
  go_wp2_with (first | ((with_reducible refine zd 1 rfl ?_); refine zb 1 #[.int .i64 a0_0, .bool a0_1, .int .u64 a0_2, .int .u64 a0_3, .int .u64 a0_4, .int .u64 a0_5] 49 ?_; intro gb101 hg w16 hbox hb; have BK101 := zq3 (hbox); have GW101 := ze hg HB; have GE101 := GW101; replace HB := zt HB hb; clear hb hbox hg; obtain ⟨hc17_0, hc17_1, hc17_2, hc17_3, hc17_4, hc17_5⟩ := zc6 BK101; obtain ⟨hf17_0, hf17_1, hf17_2, hf17_3, hf17_4, hf17_5⟩ := zf6 BK101))
  go_ret
  exact ⟨by first | rfl | (simp [errW_none, errW_some] <;> rfl) | (simp [*, errW_none, errW_some] <;> rfl), zh HB⟩

end Go.Proofs.Ytiaoaoebghnpkaa.P
end
section
namespace Go.Proofs.Ytiaoaoebghnpkaa.P
open Go.RowKit Go.Proofs.YtiaoaoebghnpkaaW.PrintWords Go.Proofs.YtiaoaoebghnpkaaW.PrintLast Go.Proofs.YtiaoaoebghnpkaaW.PrintMore
attribute [local go_sem] max2_int min2_int max_two min_two max_three min_three max_four min_four   -- for this text's walks alone
set_option linter.unusedVariables false
set_option linter.unusedSimpArgs false

/-! ### double_Check: function 115 -/
def double_Check.j0 : Nat → Bool → Int → Bool → Int → Int → Int → Int → Option (Int)
 | 0, _, _, _, _, _, _, _ => none
 | k + 1, x7, x102000, x102001, x102002, x102003, x102004, x102005 => if x7 = true then (some 16) else (if (mn x102004 x102005) = 0 then (some 17) else (if (mx x102004 x102005) > 4294967296 then (some 17) else (some 0)))
def double_Check.f (k : Nat) (a0_0 : Int) (a0_1 : Bool) (a0_2 : Int) (a0_3 : Int) (a0_4 : Int) (a0_5 : Int) : Option (Int) := if a0_0 = 2 then (if a0_2 > a0_3 then (double_Check.j0 k true a0_0 a0_1 a0_2 a0_3 a0_4 a0_5) else (double_Check.j0 k (decide (a0_3 > 1099511627776)) a0_0 a0_1 a0_2 a0_3 a0_4 a0_5)) else (some 10)
set_option maxHeartbeats 8000000 in
set_option maxRecDepth 100000 in
theorem double_Check.calls (k : Nat) (a0_0 : Int) (a0_1 : Bool) (a0_2 : Int) (a0_3 : Int) (a0_4 : Int) (a0_5 : Int) (r : Int) (w : World) (h : double_Check.f k a0_0 a0_1 a0_2 a0_3 a0_4 a0_5 = some r) :
  Calls Try.prog 115 #[.agg #[.int .i64 a0_0, .bool a0_1, .int .u64 a0_2, .int .u64 a0_3, .int .u64 a0_4, .int .u64 a0_5]] w fun e w' => e = .returned (.int .i64 r) ∧ Below w.heap.size w w' := by
 have hu49 := Try.underlying49
 have HB := zq3 (Below.refl w.heap.size w)
 have H : (if a0_0 = 2 then (if a0_2 > a0_3 then (double_Check.j0 k true a0_0 a0_1 a0_2 a0_3 a0_4 a0_5) else (double_Check.j0 k (decide (a0_3 > 1099511627776)) a0_0 a0_1 a0_2 a0_3 a0_4 a0_5)) else (some 10)) = some r := h
 clear h
 by_cases c2 : a0_0 = 2
 ·
  rw [if_pos c2] at H
  have c2b0 : (a0_0 == 2) = true := beq_iff_eq.mpr c2
  have c2b1 : (a0_0 != 2) = false := bne_eq_false_iff_eq.mpr c2
  clear c2
  have HC3 := zq3 H
  clear H
  go_enter Try.func115, Try.ntmps115
  go_upto_region 3 with (first | ((with_reducible refine gate_dst (N := 1) rfl ?_); (try (refine gate_guard (by rfl) ?_; dsimp only)); refine box_event ?hg (N := 1) ?hd (cs := #[.int .i64 a0_0, .bool a0_1, .int .u64 a0_2, .int .u64 a0_3, .int .u64 a0_4, .int .u64 a0_5]) (t := 49) ?hr ?_; (case hd => rfl); (case hg => rfl); (case hr => first | (go_simp; done) | (go_simp; rfl)); intro gb101 hg w4 hbox hb; have BK101 := zq3 (hbox); have GW101 := ze hg HB; have GE101 := GW101; replace HB := zt HB hb; clear hb hbox hg; obtain ⟨hc5_0, hc5_1, hc5_2, hc5_3, hc5_4, hc5_5⟩ := zc6 BK101; obtain ⟨hf5_0, hf5_1, hf5_2, hf5_3, hf5_4, hf5_5⟩ := zf6 BK101))
  (try simp only [Act.put, List.setIfInBounds_toArray, List.set_cons_zero, List.set_cons_succ])
  go_cut [7] (fun v7 wc => ∃ (kq : Nat) (x7_2 : Bool), v7 = .bool x7_2 ∧ Aside0 (double_Check.j0 kq x7_2 a0_0 a0_1 a0_2 a0_3 a0_4 a0_5 = some r) ∧ Aside0 (kq ≤ k) ∧ Aside0 (wc.heap[gb101]? = some (.cells #[.int .i64 a0_0, .bool a0_1, .int .u64 a0_2, .int .u64 a0_3, .int .u64 a0_4, .int .u64 a0_5] 49 (0, 0))) ∧ Aside0 (Below w.heap.size w wc))
  case first =>
   have H := HC3.out
   clear HC3
   by_cases c6 : a0_2 > a0_3
   ·
    rw [if_pos c6] at H
    have c6b0 : decide (a0_3 < a0_2) = true := decide_eq_true c6
    clear c6
    (first | rw [c6b0] | (simp only [i64_w, i32_w]; rw [c6b0]) | skip)
    have H' := zq3 H
    clear H
    obtain ⟨hc7_0, hc7_1, hc7_2, hc7_3, hc7_4, hc7_5⟩ := zc6 BK101
    obtain ⟨hf7_0, hf7_1, hf7_2, hf7_3, hf7_4, hf7_5⟩ := zf6 BK101
    go_wp2
    go_meet
    case rel => exact ⟨_, (true), (by first | rfl | (simp; done) | (simp [*]; done)), H', ⟨by first | omega | exact Nat.le_refl _⟩, ⟨zw BK101⟩, ⟨zh HB⟩⟩
   ·
    rw [if_neg c6] at H
    have c6b0 : decide (a0_3 < a0_2) = false := decide_eq_false c6
    clear c6
    (first | rw [c6b0] | (simp only [i64_w, i32_w]; rw [c6b0]) | skip)
    have H' := zq3 H
    clear H
    obtain ⟨hc8_0, hc8_1, hc8_2, hc8_3, hc8_4, hc8_5⟩ := zc6 BK101
    obtain ⟨hf8_0, hf8_1, hf8_2, hf8_3, hf8_4, hf8_5⟩ := zf6 BK101
    go_wp2
    go_meet
    case rel => exact ⟨_, (decide (a0_3 > 1099511627776)), (by first | rfl | (simp; done) | (simp [*]; done)), H', ⟨by first | omega | exact Nat.le_refl _⟩, ⟨zw BK101⟩, ⟨zh HB⟩⟩
  case rest =>
   clear HC3
   (try clear c1); (try clear c2); (try clear c2b0); (try clear c2b1); (try clear p2); (try clear c6); (try clear c6b0)
   try clear hc5_0 hc5_1 hc5_2 hc5_3 hc5_4 hc5_5 hc7_0 hc7_1 hc7_2 hc7_3 hc7_4 hc7_5 hc8_0 hc8_1 hc8_2 hc8_3 hc8_4 hc8_5 hf5_0 hf5_1 hf5_2 hf5_3 hf5_4 hf5_5 hf7_0 hf7_1 hf7_2 hf7_3 hf7_4 hf7_5 hf8_0 hf8_1 hf8_2 hf8_3 hf8_4 hf8_5
   obtain ⟨kq, x7_2, rfl, HA, HJ2, BK101, HB⟩ := hcut
   cases kq with
   | zero => exact absurd HA.out (by simp [double_Check.j0])
   | succ kj2 =>
    have H := HA.out
    clear HA
    simp only [double_Check.j0] at H
    by_cases c9 : x7_2 = true
    ·
     subst c9
     have H1 : (some 16) = some r := by rw [if_pos rfl] at H; exact H
     clear H
     have H := H1
     clear H1
     obtain rfl := Option.some.inj H
     go_wp2
     go_ret
     exact ⟨by first | rfl | (simp [errW_none, errW_some] <;> rfl) | (simp [*, errW_none, errW_some] <;> rfl), zh HB⟩
    ·
     replace c9 := Bool.eq_false_iff.mpr c9
     subst c9
     have H1 : (if (mn a0_4 a0_5) = 0 then (some 17) else (if (mx a0_4 a0_5) > 4294967296 then (some 17) else (some 0))) = some r := by rw [if_neg (show ¬ (false = true) by decide)] at H; exact H
     clear H
     have H := H1
     clear H1
     obtain ⟨ji10, hji10⟩ : ∃ j_ : Int, (mn a0_4 a0_5) = j_ := ⟨_, rfl⟩
     replace H : (if (ji10) = 0 then (some 17) else (if (mx a0_4 a0_5) > 4294967296 then (some 17) else (some 0))) = some r := by first | (rw [hji10] at H; exact H) | (simp only [hji10] at H ⊢; exact H)
     have hji10_ : (if a0_5 < a0_4 then a0_5 else a0_4) = ji10 := hji10
     by_cases c11 : (ji10) = 0
     ·
      rw [if_pos c11] at H
      have c11b0 : ((ji10) == 0) = true := beq_iff_eq.mpr c11
      have c11b1 : ((ji10) != 0) = false := bne_eq_false_iff_eq.mpr c11
      clear c11
      obtain rfl := Option.some.inj H
      obtain ⟨hc12_0, hc12_1, hc12_2, hc12_3, hc12_4, hc12_5⟩ := zc6 BK101
      obtain ⟨hf12_0, hf12_1, hf12_2, hf12_3, hf12_4, hf12_5⟩ := zf6 BK101
      go_wp2
      go_ret
      exact ⟨by first | rfl | (simp [errW_none, errW_some] <;> rfl) | (simp only [← hji10]; first | rfl | (simp [errW_none, errW_some] <;> rfl)) | (simp [*, errW_none, errW_some] <;> rfl), zh HB⟩
     ·
      rw [if_neg c11] at H
      have c11b0 : ((ji10) == 0) = false := beq_eq_false_iff_ne.mpr c11
      have c11b1 : ((ji10) != 0) = true := bne_iff_ne.mpr c11
      obtain ⟨ji13, hji13⟩ : ∃ j_ : Int, (mx a0_4 a0_5) = j_ := ⟨_, rfl⟩
      replace H : (if (ji13) > 4294967296 then (some 17) else (some 0)) = some r := by first | (rw [hji13] at H; exact H) | (simp only [hji13] at H ⊢; exact H)
      have hji13_ : (if a0_4 < a0_5 then a0_5 else a0_4) = ji13 := hji13
      by_cases c14 : (ji13) > 4294967296
      ·
       rw [if_pos c14] at H
       have c14b0 : decide (4294967296 < (ji13)) = true := decide_eq_true c14
       clear c14
       obtain rfl := Option.some.inj H
       obtain ⟨hc15_0, hc15_1, hc15_2, hc15_3, hc15_4, hc15_5⟩ := zc6 BK101
       obtain ⟨hf15_0, hf15_1, hf15_2, hf15_3, hf15_4, hf15_5⟩ := zf6 BK101
       go_wp2
       go_ret
       exact ⟨by first | rfl | (simp [errW_none, errW_some] <;> rfl) | (simp only [← hji10, ← hji13]; first | rfl | (simp [errW_none, errW_some] <;> rfl)) | (simp [*, errW_none, errW_some] <;> rfl), zh HB⟩
      ·
       rw [if_neg c14] at H
       have c14b0 : decide (4294967296 < (ji13)) = false := decide_eq_false c14
       clear c14
       obtain rfl := Option.some.inj H
       obtain ⟨hc16_0, hc16_1, hc16_2, hc16_3, hc16_4, hc16_5⟩ := zc6 BK101
       obtain ⟨hf16_0, hf16_1, hf16_2, hf16_3, hf16_4, hf16_5⟩ := zf6 BK101
       go_wp2
       go_ret
       exact ⟨by first | rfl | (simp [errW_none, errW_some] <;> rfl) | (simp only [← hji10, ← hji13]; first | rfl | (simp [errW_none, errW_some] <;> rfl)) | (simp [*, errW_none, errW_some] <;> rfl), zh HB⟩
 ·
  rw [if_neg c2] at H
  have c2b0 : (a0_0 == 2) = false := beq_eq_false_iff_ne.mpr c2
  have c2b1 : (a0_0 != 2) = true := bne_iff_ne.mpr c2
  obtain rfl := Option.some.inj H
  go_enter Try.func115, Try.ntmps115
  go_wp2_with (first | ((with_reducible refine gate_dst (N := 1) rfl ?_); (try (refine gate_guard (by rfl) ?_; dsimp only)); refine box_event ?hg (N := 1) ?hd (cs := #[.int .i64 a0_0, .bool a0_1, .int .u64 a0_2, .int .u64 a0_3, .int .u64 a0_4, .int .u64 a0_5]) (t := 49) ?hr ?_; (case hd => rfl); (case hg => rfl); (case hr => first | (go_simp; done) | (go_simp; rfl)); intro gb101 hg w17 hbox hb; have BK101 := zq3 (hbox); have GW101 := ze hg HB; have GE101 := GW101; replace HB := zt HB hb; clear hb hbox hg; obtain ⟨hc18_0, hc18_1, hc18_2, hc18_3, hc18_4, hc18_5⟩ := zc6 BK101; obtain ⟨hf18_0, hf18_1, hf18_2, hf18_3, hf18_4, hf18_5⟩ := zf6 BK101))
  go_ret
  exact ⟨by first | rfl | (simp [errW_none, errW_some] <;> rfl) | (simp [*, errW_none, errW_some] <;> rfl), zh HB⟩

end Go.Proofs.Ytiaoaoebghnpkaa.P
end
section
namespace Go.Proofs.Ytiaoaoebghnpkaa.P
open Go.RowKit Go.Proofs.YtiaoaoebghnpkaaW.PrintWords Go.Proofs.YtiaoaoebghnpkaaW.PrintLast Go.Proofs.YtiaoaoebghnpkaaW.PrintMore
attribute [local go_sem] max2_int min2_int max_two min_two max_three min_three max_four min_four   -- for this text's walks alone
set_option linter.unusedVariables false
set_option linter.unusedSimpArgs false

/-! ### single_New: function 129 -/
def single_New.f (k : Nat) (a0_0 : Int) (a0_1 : Bool) (a0_2 : Int) (a0_3 : Int) (a0_4 : Int) (a0_5 : Int) : Option (Int × Int × Int × Bool × Int) := (single_Check.f k a0_0 a0_1 a0_2 a0_3 a0_4 a0_5).bind fun t103 => (if t103 = 0 then ((single_rims.f a0_0 a0_1 a0_2 a0_3 a0_4 a0_5).bind fun bt104 => (some (bt104.1, bt104.2, 0, false, 0))) else (some (0, 0, 0, false, t103)))
set_option maxHeartbeats 8000000 in
set_option maxRecDepth 100000 in
theorem single_New.calls (k : Nat) (a0_0 : Int) (a0_1 : Bool) (a0_2 : Int) (a0_3 : Int) (a0_4 : Int) (a0_5 : Int) (r1 : Int) (r2 : Int) (r3 : Int) (r4 : Bool) (r5 : Int) (w : World) (h : single_New.f k a0_0 a0_1 a0_2 a0_3 a0_4 a0_5 = some (r1, r2, r3, r4, r5)) :
  Calls Try.prog 129 #[.agg #[.int .i64 a0_0, .bool a0_1, .int .u64 a0_2, .int .u64 a0_3, .int .u64 a0_4, .int .u64 a0_5]] w fun e w' => e = .returned (.tuple #[.agg #[.int .u64 r1, .int .u64 r2, .int .u64 r3, .bool r4], .int .i64 r5]) ∧ Below w.heap.size w w' := by
 have hu49 := Try.underlying49
 have hu51 := Try.underlying51
 have hu39 := Try.underlying39
 have HB := zq3 (Below.refl w.heap.size w)
 have H : ((single_Check.f k a0_0 a0_1 a0_2 a0_3 a0_4 a0_5).bind fun t103 => (if t103 = 0 then ((single_rims.f a0_0 a0_1 a0_2 a0_3 a0_4 a0_5).bind fun bt104 => (some (bt104.1, bt104.2, 0, false, 0))) else (some (0, 0, 0, false, t103)))) = some (r1, r2, r3, r4, r5) := h
 clear h
 replace H := Option.bind_eq_some_iff.mp H
 obtain ⟨t103, A20, H⟩ := H
 replace H : (if t103 = 0 then ((single_rims.f a0_0 a0_1 a0_2 a0_3 a0_4 a0_5).bind fun bt104 => (some (bt104.1, bt104.2, 0, false, 0))) else (some (0, 0, 0, false, t103))) = some (r1, r2, r3, r4, r5) := H
 have A2 := zq3 A20
 clear A20
 by_cases c3 : t103 = 0
 ·
  rw [if_pos c3] at H
  have c3b0 : (t103 == 0) = true := beq_iff_eq.mpr c3
  have c3b1 : (t103 != 0) = false := bne_eq_false_iff_eq.mpr c3
  clear c3
  replace H := Option.bind_eq_some_iff.mp H
  obtain ⟨⟨t104, t105⟩, A40, H⟩ := H
  replace H : (some (t104, t105, 0, false, 0)) = some (r1, r2, r3, r4, r5) := H
  have A4 := zq3 A40
  clear A40
  simp only [Option.some.injEq, Prod.mk.injEq] at H
  obtain ⟨rfl, rfl, rfl, rfl, rfl⟩ := H
  go_enter Try.func129, Try.ntmps129
  go_wp2_with (first | ((with_reducible refine zd 1 rfl ?_); refine zb 1 #[.int .i64 a0_0, .bool a0_1, .int .u64 a0_2, .int .u64 a0_3, .int .u64 a0_4, .int .u64 a0_5] 49 ?_; intro gb101 hg w5 hbox hb; have BK101 := zq3 (hbox); have GW101 := ze hg HB; have GE101 := GW101; replace HB := zt HB hb; clear hb hbox hg) | ((with_reducible refine zd 2 rfl ?_); refine zb 2 #[.int .u64 0, .int .u64 0, .int .u64 0, .bool false] 51 ?_; intro gb102 hg w6 hbox hb; have BK102 := zq3 (hbox); have GW102 := ze hg HB; have GE102 := GW102; have NB101_102 := zl hg BK101; have NB102_101 := zg hg BK101; replace BK101 := zs BK101 hb; replace HB := zt HB hb; clear hb hbox hg; have hnb7 := NB101_102.out; have hnc7 := NB102_101.out; obtain ⟨hc8_0, hc8_1, hc8_2, hc8_3, hc8_4, hc8_5⟩ := zc6 BK101; obtain ⟨hf8_0, hf8_1, hf8_2, hf8_3, hf8_4, hf8_5⟩ := zf6 BK101) | ((with_reducible refine gate_callee (f := 128) rfl ?_); refine zgo (some 7) Try.func128 #[.agg #[.int .i64 a0_0, .bool a0_1, .int .u64 a0_2, .int .u64 a0_3, .int .u64 a0_4, .int .u64 a0_5]] ?_; (with_reducible refine (single_Check.calls k a0_0 a0_1 a0_2 a0_3 a0_4 a0_5 t103 _ A2.out).mono ?_); rintro e w9 ⟨rfl, hb⟩; refine ⟨_, rfl, ?_⟩; replace BK101 := zs BK101 hb; replace BK102 := zs BK102 hb; replace HB := zt HB hb; (try clear hb); obtain ⟨hc10_0, hc10_1, hc10_2, hc10_3, hc10_4, hc10_5⟩ := zc6 BK101; obtain ⟨hf10_0, hf10_1, hf10_2, hf10_3, hf10_4, hf10_5⟩ := zf6 BK101) | ((with_reducible refine gate_callee (f := 131) rfl ?_); refine zgo (some 13) Try.func131 #[.agg #[.int .i64 a0_0, .bool a0_1, .int .u64 a0_2, .int .u64 a0_3, .int .u64 a0_4, .int .u64 a0_5]] ?_; (with_reducible refine (single_rims.calls a0_0 a0_1 a0_2 a0_3 a0_4 a0_5 t104 t105 _ A4.out).mono ?_); rintro e w11 ⟨rfl, hb⟩; refine ⟨_, rfl, ?_⟩; replace BK101 := zs BK101 hb; replace BK102 := zs BK102 hb; replace HB := zt HB hb; (try clear hb)) | ((with_reducible refine zd 5 rfl ?_); refine zb 5 #[.int .u64 0, .int .u64 0] 39 ?_; intro gb106 hg w12 hbox hb; have BK106 := zq3 (hbox); have GW106 := ze hg HB; have GE106 := GW106; have NB101_106 := zl hg BK101; have NB106_101 := zg hg BK101; have NB102_106 := zl hg BK102; have NB106_102 := zg hg BK102; replace BK101 := zs BK101 hb; replace BK102 := zs BK102 hb; replace HB := zt HB hb; clear hb hbox hg; have hnb13 := NB106_101.out; have hnc13 := NB101_106.out; have hnb14 := NB106_102.out; have hnc14 := NB102_106.out; obtain ⟨hc15_0, hc15_1⟩ := zc2 BK106; obtain ⟨hf15_0, hf15_1⟩ := zf2 BK106; obtain ⟨hc16_0, hc16_1, hc16_2, hc16_3⟩ := zc4 BK102; obtain ⟨hf16_0, hf16_1, hf16_2, hf16_3⟩ := zf4 BK102))
  refine bodyPost_ret (results_ct rfl _ _ gb102 51 #[.int .u64 t104, .int .u64 t105, .int .u64 0, .bool false] (0, 0) _ rfl (zw4 BK102) Try.underlying51 rfl (by kernel_rfl)) rfl ?_
  exact ⟨by first | rfl | (simp [errW_none, errW_some] <;> rfl) | (simp [*, errW_none, errW_some] <;> rfl), zh HB⟩
 ·
  rw [if_neg c3] at H
  have c3b0 : (t103 == 0) = false := beq_eq_false_iff_ne.mpr c3
  have c3b1 : (t103 != 0) = true := bne_iff_ne.mpr c3
  simp only [Option.some.injEq, Prod.mk.injEq] at H
  obtain ⟨rfl, rfl, rfl, rfl, rfl⟩ := H
  go_enter Try.func129, Try.ntmps129
  go_wp2_with (first | ((with_reducible refine zd 1 rfl ?_); refine zb 1 #[.int .i64 a0_0, .bool a0_1, .int .u64 a0_2, .int .u64 a0_3, .int .u64 a0_4, .int .u64 a0_5] 49 ?_; intro gb101 hg w17 hbox hb; have BK101 := zq3 (hbox); have GW101 := ze hg HB; have GE101 := GW101; replace HB := zt HB hb; clear hb hbox hg) | ((with_reducible refine zd 2 rfl ?_); refine zb 2 #[.int .u64 0, .int .u64 0, .int .u64 0, .bool false] 51 ?_; intro gb102 hg w18 hbox hb; have BK102 := zq3 (hbox); have GW102 := ze hg HB; have GE102 := GW102; have NB101_102 := zl hg BK101; have NB102_101 := zg hg BK101; replace BK101 := zs BK101 hb; replace HB := zt HB hb; clear hb hbox hg; have hnb19 := NB101_102.out; have hnc19 := NB102_101.out; obtain ⟨hc20_0, hc20_1, hc20_2, hc20_3, hc20_4, hc20_5⟩ := zc6 BK101; obtain ⟨hf20_0, hf20_1, hf20_2, hf20_3, hf20_4, hf20_5⟩ := zf6 BK101) | ((with_reducible refine gate_callee (f := 128) rfl ?_); refine zgo (some 7) Try.func128 #[.agg #[.int .i64 a0_0, .bool a0_1, .int .u64 a0_2, .int .u64 a0_3, .int .u64 a0_4, .int .u64 a0_5]] ?_; (with_reducible refine (single_Check.calls k a0_0 a0_1 a0_2 a0_3 a0_4 a0_5 t103 _ A2.out).mono ?_); rintro e w21 ⟨rfl, hb⟩; refine ⟨_, rfl, ?_⟩; replace BK101 := zs BK101 hb; replace BK102 := zs BK102 hb; replace HB := zt HB hb; (try clear hb); obtain ⟨hc22_0, hc22_1, hc22_2, hc22_3⟩ := zc4 BK102; obtain ⟨hf22_0, hf22_1, hf22_2, hf22_3⟩ := zf4 BK102))
  refine bodyPost_ret (results_ct rfl _ _ gb102 51 #[.int .u64 0, .int .u64 0, .int .u64 0, .bool false] (0, 0) _ rfl (zw4 BK102) Try.underlying51 rfl (by kernel_rfl)) rfl ?_
  exact ⟨by first | rfl | (simp [errW_none, errW_some] <;> rfl) | (simp [*, errW_none, errW_some] <;> rfl), zh HB⟩

end Go.Proofs.Ytiaoaoebghnpkaa.P
end
section
namespace Go.Proofs.Ytiaoaoebghnpkaa.P
open Go.RowKit Go.Proofs.YtiaoaoebghnpkaaW.PrintWords Go.Proofs.YtiaoaoebghnpkaaW.PrintLast Go.Proofs.YtiaoaoebghnpkaaW.PrintMore
attribute [local go_sem] max2_int min2_int max_two min_two max_three min_three max_four min_four   -- for this text's walks alone
set_option linter.unusedVariables false
set_option linter.unusedSimpArgs false

/-! ### ratchet_Step: function 87 -/
def ratchet_Step.f (a0 : Int) (a1 : Bool) (a2 : Int) : Option (Int × Int) := if a1 = true then (if a2 ≤ a0 then (some (a0, 0)) else (some (a2, IntKind.u64.wrap (a2 - a0)))) else (some (a2, 0))
set_option maxHeartbeats 8000000 in
set_option maxRecDepth 100000 in
theorem ratchet_Step.calls (a0 : Int) (a1 : Bool) (a2 : Int) (r1 : Int) (r2 : Int) (w : World) (h : ratchet_Step.f a0 a1 a2 = some (r1, r2)) :
  Calls Try.prog 87 #[.int .u64 a0, .bool a1, .int .u64 a2] w fun e w' => e = .returned (.tuple #[.int .u64 r1, .int .u64 r2]) ∧ Below w.heap.size w w' := by
 have HB := zq3 (Below.refl w.heap.size w)
 have H : (if a1 = true then (if a2 ≤ a0 then (some (a0, 0)) else (some (a2, IntKind.u64.wrap (a2 - a0)))) else (some (a2, 0))) = some (r1, r2) := h
 clear h
 by_cases c4 : a1 = true
 ·
  subst c4
  have H1 : (if a2 ≤ a0 then (some (a0, 0)) else (some (a2, IntKind.u64.wrap (a2 - a0)))) = some (r1, r2) := by rw [if_pos rfl] at H; exact H
  clear H
  have H := H1
  clear H1
  by_cases c5 : a2 ≤ a0
  ·
   rw [if_pos c5] at H
   have c5b0 : decide (a2 ≤ a0) = true := decide_eq_true c5
   clear c5
   simp only [Option.some.injEq, Prod.mk.injEq] at H
   obtain ⟨rfl, rfl⟩ := H
   go_enter Try.func87, Try.ntmps87
   go_wp2
   go_ret2
   exact ⟨by first | rfl | (simp [errW_none, errW_some] <;> rfl) | (simp [*, errW_none, errW_some] <;> rfl), zh HB⟩
  ·
   rw [if_neg c5] at H
   have c5b0 : decide (a2 ≤ a0) = false := decide_eq_false c5
   clear c5
   simp only [Option.some.injEq, Prod.mk.injEq] at H
   obtain ⟨rfl, rfl⟩ := H
   go_enter Try.func87, Try.ntmps87
   go_wp2
   go_ret2
   exact ⟨by first | rfl | (simp [errW_none, errW_some] <;> rfl) | (simp [*, errW_none, errW_some] <;> rfl), zh HB⟩
 ·
  replace c4 := Bool.eq_false_iff.mpr c4
  subst c4
  have H1 : (some (a2, 0)) = some (r1, r2) := by rw [if_neg (show ¬ (false = true) by decide)] at H; exact H
  clear H
  have H := H1
  clear H1
  simp only [Option.some.injEq, Prod.mk.injEq] at H
  obtain ⟨rfl, rfl⟩ := H
  go_enter Try.func87, Try.ntmps87
  go_wp2
  go_ret2
  exact ⟨by first | rfl | (simp [errW_none, errW_some] <;> rfl) | (simp [*, errW_none, errW_some] <;> rfl), zh HB⟩

end Go.Proofs.Ytiaoaoebghnpkaa.P
end
section
namespace Go.Proofs.Ytiaoaoebghnpkaa.P
open Go.RowKit Go.Proofs.YtiaoaoebghnpkaaW.PrintWords Go.Proofs.YtiaoaoebghnpkaaW.PrintLast Go.Proofs.YtiaoaoebghnpkaaW.PrintMore
attribute [local go_sem] max2_int min2_int max_two min_two max_three min_three max_four min_four   -- for this text's walks alone
set_option linter.unusedVariables false
set_option linter.unusedSimpArgs false

/-! ### single_grown: function 132 -/
def single_grown.f (a0_0 : Int) (a0_1 : Bool) (a0_2 : Int) (a0_3 : Int) (a0_4 : Int) (a0_5 : Int) (a1_0 : Int) (a1_1 : Int) (a1_2 : Int) (a1_3 : Bool) (a2 : Int) : Option (Int × Int × Int × Bool) := (ratchet_Step.f a1_2 a1_3 a2).bind fun bt104 => ((single_rims.f a0_0 a0_1 a0_2 a0_3 a0_4 a0_5).bind fun bt106 => ((bucket_Grow.f a1_0 bt106.1 a0_2 bt104.2).bind fun bt109 => ((wide_Cap.f bt109.2.1 bt109.2.2 (IntKind.u64.wrap (bt106.2 - (mn a1_1 bt106.2)))).bind fun t113 => (some (bt109.1, IntKind.u64.wrap (a1_1 + t113), bt104.1, true)))))
def single_grown.T5 : Bool × List (List Nat × List Nat) := (true, [([], []), ([], []), ([1], [1]), ([], []), ([], []), ([3, 4], [3, 4]), ([2, 5], [2, 5]), ([], []), ([0, 6, 7], [0, 6, 7]), ([8, 5, 0, 1, 2, 3, 4, 5, 6, 7, 8], [8])])
def single_grown.B5 : List Nat := [0, 0, 2, 0, 0, 24, 62, 0, 255, 511]
theorem single_grown.tab5 : rtab .any (opsOf Try.f132 5) = single_grown.T5 := by kernel_rfl
theorem single_grown.bits5 : waitsOk single_grown.T5.2 single_grown.B5 = true := by kernel_rfl
set_option maxHeartbeats 8000000 in
set_option maxRecDepth 100000 in
theorem single_grown.calls (a0_0 : Int) (a0_1 : Bool) (a0_2 : Int) (a0_3 : Int) (a0_4 : Int) (a0_5 : Int) (a1_0 : Int) (a1_1 : Int) (a1_2 : Int) (a1_3 : Bool) (a2 : Int) (r1 : Int) (r2 : Int) (r3 : Int) (r4 : Bool) (w : World) (h : single_grown.f a0_0 a0_1 a0_2 a0_3 a0_4 a0_5 a1_0 a1_1 a1_2 a1_3 a2 = some (r1, r2, r3, r4)) :
  Calls Try.prog 132 #[.agg #[.int .i64 a0_0, .bool a0_1, .int .u64 a0_2, .int .u64 a0_3, .int .u64 a0_4, .int .u64 a0_5], .agg #[.int .u64 a1_0, .int .u64 a1_1, .int .u64 a1_2, .bool a1_3], .int .u64 a2] w fun e w' => e = .returned (.agg #[.int .u64 r1, .int .u64 r2, .int .u64 r3, .bool r4]) ∧ Below w.heap.size w w' := by
 have hu49 := Try.underlying49
 have hu51 := Try.underlying51
 have hu39 := Try.underlying39
 have hu42 := Try.underlying42
 have HB := zq3 (Below.refl w.heap.size w)
 have H : ((ratchet_Step.f a1_2 a1_3 a2).bind fun bt104 => ((single_rims.f a0_0 a0_1 a0_2 a0_3 a0_4 a0_5).bind fun bt106 => ((bucket_Grow.f a1_0 bt106.1 a0_2 bt104.2).bind fun bt109 => ((wide_Cap.f bt109.2.1 bt109.2.2 (IntKind.u64.wrap (bt106.2 - (mn a1_1 bt106.2)))).bind fun t113 => (some (bt109.1, IntKind.u64.wrap (a1_1 + t113), bt104.1, true)))))) = some (r1, r2, r3, r4) := h
 clear h
 replace H := Option.bind_eq_some_iff.mp H
 obtain ⟨⟨t104, t105⟩, A40, H⟩ := H
 replace H : ((single_rims.f a0_0 a0_1 a0_2 a0_3 a0_4 a0_5).bind fun bt106 => ((bucket_Grow.f a1_0 bt106.1 a0_2 t105).bind fun bt109 => ((wide_Cap.f bt109.2.1 bt109.2.2 (IntKind.u64.wrap (bt106.2 - (mn a1_1 bt106.2)))).bind fun t113 => (some (bt109.1, IntKind.u64.wrap (a1_1 + t113), t104, true))))) = some (r1, r2, r3, r4) := H
 have A4 := zq3 A40
 clear A40
 replace H := Option.bind_eq_some_iff.mp H
 obtain ⟨⟨t106, t107⟩, A50, H⟩ := H
 replace H : ((bucket_Grow.f a1_0 t106 a0_2 t105).bind fun bt109 => ((wide_Cap.f bt109.2.1 bt109.2.2 (IntKind.u64.wrap (t107 - (mn a1_1 t107)))).bind fun t113 => (some (bt109.1, IntKind.u64.wrap (a1_1 + t113), t104, true)))) = some (r1, r2, r3, r4) := H
 have A5 := zq3 A50
 clear A50
 replace H := Option.bind_eq_some_iff.mp H
 obtain ⟨⟨t109, t110, t111⟩, A60, H⟩ := H
 replace H : ((wide_Cap.f t110 t111 (IntKind.u64.wrap (t107 - (mn a1_1 t107)))).bind fun t113 => (some (t109, IntKind.u64.wrap (a1_1 + t113), t104, true))) = some (r1, r2, r3, r4) := H
 have A6 := zq3 A60
 clear A60
 obtain ⟨ji7, hji7⟩ : ∃ j_ : Int, (mn a1_1 t107) = j_ := ⟨_, rfl⟩
 replace H : ((wide_Cap.f t110 t111 (IntKind.u64.wrap (t107 - (ji7)))).bind fun t113 => (some (t109, IntKind.u64.wrap (a1_1 + t113), t104, true))) = some (r1, r2, r3, r4) := by first | (rw [hji7] at H; exact H) | (simp only [hji7] at H ⊢; exact H)
 (try rw [hji7] at A4)
 (try rw [hji7] at A5)
 (try rw [hji7] at A6)
 have hji7_ : (if t107 < a1_1 then t107 else a1_1) = ji7 := hji7
 replace H := Option.bind_eq_some_iff.mp H
 obtain ⟨t113, A80, H⟩ := H
 replace H : (some (t109, IntKind.u64.wrap (a1_1 + t113), t104, true)) = some (r1, r2, r3, r4) := H
 have A8 := zq3 A80
 clear A80
 simp only [Option.some.injEq, Prod.mk.injEq] at H
 obtain ⟨rfl, rfl, rfl, rfl⟩ := H
 go_enter Try.func132, Try.ntmps132
 try go_wp2_with (first | ((with_reducible refine zd 3 rfl ?_); refine zb 3 #[.int .i64 a0_0, .bool a0_1, .int .u64 a0_2, .int .u64 a0_3, .int .u64 a0_4, .int .u64 a0_5] 49 ?_; intro gb101 hg w9 hbox hb; have BK101 := zq3 (hbox); have GW101 := ze hg HB; have GE101 := GW101; replace HB := zt HB hb; clear hb hbox hg) | ((with_reducible refine zd 4 rfl ?_); refine zb 4 #[.int .u64 a1_0, .int .u64 a1_1, .int .u64 a1_2, .bool a1_3] 51 ?_; intro gb102 hg w10 hbox hb; have BK102 := zq3 (hbox); have GW102 := ze hg HB; have GE102 := GW102; have NB101_102 := zl hg BK101; have NB102_101 := zg hg BK101; replace BK101 := zs BK101 hb; replace HB := zt HB hb; clear hb hbox hg) | ((with_reducible refine zd 6 rfl ?_); refine zb 6 #[.int .u64 0, .int .u64 0, .int .u64 0, .bool false] 51 ?_; intro gb103 hg w11 hbox hb; have BK103 := zq3 (hbox); have GW103 := ze hg HB; have GE103 := GW103; have NB101_103 := zl hg BK101; have NB103_101 := zg hg BK101; have NB102_103 := zl hg BK102; have NB103_102 := zg hg BK102; replace BK101 := zs BK101 hb; replace BK102 := zs BK102 hb; replace HB := zt HB hb; clear hb hbox hg; have hnb12 := NB102_101.out; have hnc12 := NB101_102.out; have hnb13 := NB102_103.out; have hnc13 := NB103_102.out; obtain ⟨hc14_0, hc14_1, hc14_2, hc14_3⟩ := zc4 BK102; obtain ⟨hf14_0, hf14_1, hf14_2, hf14_3⟩ := zf4 BK102) | ((with_reducible refine gate_callee (f := 87) rfl ?_); refine zgo (some 19) Try.func87 #[.int .u64 a1_2, .bool a1_3, .int .u64 a2] ?_; (with_reducible refine (ratchet_Step.calls a1_2 a1_3 a2 t104 t105 _ A4.out).mono ?_); rintro e w15 ⟨rfl, hb⟩; refine ⟨_, rfl, ?_⟩; replace BK101 := zs BK101 hb; replace BK102 := zs BK102 hb; replace BK103 := zs BK103 hb; replace HB := zt HB hb; (try clear hb); have hnb16 := NB101_103.out; have hnc16 := NB103_101.out; obtain ⟨hc17_0, hc17_1, hc17_2, hc17_3, hc17_4, hc17_5⟩ := zc6 BK101; obtain ⟨hf17_0, hf17_1, hf17_2, hf17_3, hf17_4, hf17_5⟩ := zf6 BK101) | ((with_reducible refine gate_callee (f := 131) rfl ?_); refine zgo (some 23) Try.func131 #[.agg #[.int .i64 a0_0, .bool a0_1, .int .u64 a0_2, .int .u64 a0_3, .int .u64 a0_4, .int .u64 a0_5]] ?_; (with_reducible refine (single_rims.calls a0_0 a0_1 a0_2 a0_3 a0_4 a0_5 t106 t107 _ A5.out).mono ?_); rintro e w18 ⟨rfl, hb⟩; refine ⟨_, rfl, ?_⟩; replace BK101 := zs BK101 hb; replace BK102 := zs BK102 hb; replace BK103 := zs BK103 hb; replace HB := zt HB hb; (try clear hb)) | ((with_reducible refine zd 9 rfl ?_); refine zb 9 #[.int .u64 0, .int .u64 0] 39 ?_; intro gb108 hg w19 hbox hb; have BK108 := zq3 (hbox); have GW108 := ze hg HB; have GE108 := GW108; have NB101_108 := zl hg BK101; have NB108_101 := zg hg BK101; have NB102_108 := zl hg BK102; have NB108_102 := zg hg BK102; have NB103_108 := zl hg BK103; have NB108_103 := zg hg BK103; replace BK101 := zs BK101 hb; replace BK102 := zs BK102 hb; replace BK103 := zs BK103 hb; replace HB := zt HB hb; clear hb hbox hg; have hnb20 := NB108_101.out; have hnc20 := NB101_108.out; have hnb21 := NB108_102.out; have hnc21 := NB102_108.out; have hnb22 := NB108_103.out; have hnc22 := NB103_108.out; obtain ⟨hc23_0, hc23_1⟩ := zc2 BK108; obtain ⟨hf23_0, hf23_1⟩ := zf2 BK108; obtain ⟨hc24_0, hc24_1, hc24_2, hc24_3⟩ := zc4 BK102; obtain ⟨hf24_0, hf24_1, hf24_2, hf24_3⟩ := zf4 BK102; obtain ⟨hc25_0, hc25_1, hc25_2, hc25_3, hc25_4, hc25_5⟩ := zc6 BK101; obtain ⟨hf25_0, hf25_1, hf25_2, hf25_3, hf25_4, hf25_5⟩ := zf6 BK101) | ((with_reducible refine gate_callee (f := 121) rfl ?_); refine zgo (some 32) Try.func121 #[.int .u64 a1_0, .int .u64 t106, .int .u64 a0_2, .int .u64 t105] ?_; (with_reducible refine (bucket_Grow.calls a1_0 t106 a0_2 t105 t109 t110 t111 _ A6.out).mono ?_); rintro e w26 ⟨rfl, hb⟩; refine ⟨_, rfl, ?_⟩; replace BK101 := zsf BK101 hb; replace BK102 := zsf BK102 hb; replace BK103 := zsf BK103 hb; replace BK108 := zq3 (zq10 (o := .cells #[.int .u64 t106, .int .u64 t107] 39 (0, 0)) (zw2 BK108) hb); replace HB := zt HB hb; (try clear hb)) | ((with_reducible refine zd 11 rfl ?_); refine zb 11 #[.int .u64 0, .int .u64 0] 42 ?_; intro gb112 hg w27 hbox hb; have BK112 := zq3 (hbox); have GW112 := ze hg HB; have GE112 := GW112; have NB101_112 := zl hg BK101; have NB112_101 := zg hg BK101; have NB102_112 := zl hg BK102; have NB112_102 := zg hg BK102; have NB103_112 := zl hg BK103; have NB112_103 := zg hg BK103; have NB108_112 := zl hg BK108; have NB112_108 := zg hg BK108; replace BK101 := zs BK101 hb; replace BK102 := zs BK102 hb; replace BK103 := zs BK103 hb; replace BK108 := zs BK108 hb; replace HB := zt HB hb; clear hb hbox hg; have hnb28 := NB112_101.out; have hnc28 := NB101_112.out; have hnb29 := NB112_102.out; have hnc29 := NB102_112.out; have hnb30 := NB112_103.out; have hnc30 := NB103_112.out; have hnb31 := NB112_108.out; have hnc31 := NB108_112.out; obtain ⟨hc32_0, hc32_1⟩ := zc2 BK112; obtain ⟨hf32_0, hf32_1⟩ := zf2 BK112; obtain ⟨hc33_0, hc33_1⟩ := zc2 BK108; obtain ⟨hf33_0, hf33_1⟩ := zf2 BK108; obtain ⟨hc34_0, hc34_1, hc34_2, hc34_3⟩ := zc4 BK102; obtain ⟨hf34_0, hf34_1, hf34_2, hf34_3⟩ := zf4 BK102))
 have n0_ : Aside0 (((w27.setCell ⟨gb112, 0, none⟩ (.int .u64 t110)).setCell ⟨gb112, 1, none⟩ (.int .u64 t111)).heap[gb101]? = some (.cells #[.int .i64 a0_0, .bool a0_1, .int .u64 a0_2, .int .u64 a0_3, .int .u64 a0_4, .int .u64 a0_5] 49 (0, 0))) := ⟨zw BK101⟩
 have n1_ : Aside0 (((w27.setCell ⟨gb112, 0, none⟩ (.int .u64 t110)).setCell ⟨gb112, 1, none⟩ (.int .u64 t111)).heap[gb102]? = some (.cells #[.int .u64 a1_0, .int .u64 a1_1, .int .u64 a1_2, .bool a1_3] 51 (0, 0))) := ⟨zw BK102⟩
 have n2_ : Aside0 (((w27.setCell ⟨gb112, 0, none⟩ (.int .u64 t110)).setCell ⟨gb112, 1, none⟩ (.int .u64 t111)).heap[gb103]? = some (.cells #[.int .u64 0, .int .u64 0, .int .u64 0, .bool false] 51 (0, 0))) := ⟨zw BK103⟩
 have n3_ : Aside0 (((w27.setCell ⟨gb112, 0, none⟩ (.int .u64 t110)).setCell ⟨gb112, 1, none⟩ (.int .u64 t111)).heap[gb108]? = some (.cells #[.int .u64 t106, .int .u64 t107] 39 (0, 0))) := ⟨zw BK108⟩
 have n4_ : Aside0 (((w27.setCell ⟨gb112, 0, none⟩ (.int .u64 t110)).setCell ⟨gb112, 1, none⟩ (.int .u64 t111)).heap[gb112]? = some (.cells #[.int .u64 t110, .int .u64 t111] 42 (0, 0))) := ⟨zw2 BK112⟩
 have n5_ : Aside0 (Below w.heap.size w ((w27.setCell ⟨gb112, 0, none⟩ (.int .u64 t110)).setCell ⟨gb112, 1, none⟩ (.int .u64 t111))) := ⟨zh HB⟩
 (try clear BK101)
 (try clear BK102)
 (try clear BK103)
 (try clear BK108)
 (try clear BK112)
 (try clear HB)
 generalize ((w27.setCell ⟨gb112, 0, none⟩ (.int .u64 t110)).setCell ⟨gb112, 1, none⟩ (.int .u64 t111)) = w35 at n0_ n1_ n2_ n3_ n4_ n5_ ⊢
 have BK101 := n0_
 have BK102 := n1_
 have BK103 := n2_
 have BK108 := n3_
 have BK112 := n4_
 have HB := n5_
 clear n0_ n1_ n2_ n3_ n4_ n5_
 replace BK101 := zq3 (zq2 BK101.out); replace BK102 := zq3 (zq2 BK102.out); replace BK103 := zq3 (zq2 BK103.out); replace BK108 := zq3 (zq2 BK108.out); replace BK112 := zq3 (zq2 BK112.out); replace HB := zq3 (zq8 HB.out)
 refine start_ (n := 10) (S := fun w' => w'.cell? ⟨gb102, 0, none⟩ = some (.int .u64 a1_0) ∧ w'.cell? ⟨gb102, 1, none⟩ = some (.int .u64 a1_1) ∧ w'.cell? ⟨gb102, 2, none⟩ = some (.int .u64 a1_2) ∧ w'.cell? ⟨gb102, 3, none⟩ = some (.bool a1_3) ∧ w'.cell? ⟨gb112, 0, none⟩ = some (.int .u64 t110) ∧ w'.cell? ⟨gb112, 1, none⟩ = some (.int .u64 t111)) (ds := []) #[false, false, false, false, false, false, false, false, false, false] (by kernel_rfl) rfl rfl ⟨(zq5 BK102.out 0).trans rfl, (zq5 BK102.out 1).trans rfl, (zq5 BK102.out 2).trans rfl, (zq5 BK102.out 3).trans rfl, (zq5 BK112.out 0).trans rfl, (zq5 BK112.out 1).trans rfl⟩ (fun hHeld => ?_); refine with_tabW single_grown.tab5 single_grown.bits5 (fun HT_ HW_ => ?_)
 generalize w35.drew = w36 at BK101 BK102 BK103 BK108 BK112 HB hHeld ⊢
 refine pure_ (i := 0) (N := some 43) (v := ?_) (a' := ?_) #[true, false, false, false, false, false, false, false, false, false] rfl rfl (any_of HT_.out (by kernel_rfl)) (fun _ _ _ h => h) (Or.inl ⟨by rfl, ?_⟩) ?_ ?_
 rotate_left
 ·
  intro w'
  go_simp
  with_reducible rfl
 rotate_left
 ·
  simp only [Act.put, List.setIfInBounds_toArray, List.set_cons_zero, List.set_cons_succ, i64_w, i32_w]
  rfl
 refine pure_ (i := 1) (N := some 44) (v := ?_) (a' := ?_) #[true, true, false, false, false, false, false, false, false, false] rfl rfl (any_of HT_.out (by kernel_rfl)) (fun _ _ _ h => h) (Or.inl ⟨by rfl, ?_⟩) ?_ ?_
 rotate_left
 ·
  intro w'
  go_simp
  with_reducible rfl
 rotate_left
 ·
  simp only [Act.put, List.setIfInBounds_toArray, List.set_cons_zero, List.set_cons_succ, i64_w, i32_w]
  rfl
 refine pure_ (i := 4) (N := some 47) (v := ?_) (a' := ?_) #[true, true, false, false, true, false, false, false, false, false] rfl rfl (any_of HT_.out (by kernel_rfl)) (fun _ _ _ h => h) (Or.inl ⟨by rfl, ?_⟩) ?_ ?_
 rotate_left
 ·
  intro w'
  go_simp
  with_reducible rfl
 rotate_left
 ·
  simp only [Act.put, List.setIfInBounds_toArray, List.set_cons_zero, List.set_cons_succ, i64_w, i32_w]
  rfl
 refine pure_ (i := 7) (N := some 50) (v := ?_) (a' := ?_) #[true, true, false, false, true, false, false, true, false, false] rfl rfl (any_of HT_.out (by kernel_rfl)) (fun _ _ _ h => h) (Or.inl ⟨by rfl, ?_⟩) ?_ ?_
 rotate_left
 ·
  intro w'
  go_simp
  with_reducible rfl
 rotate_left
 ·
  simp only [Act.put, List.setIfInBounds_toArray, List.set_cons_zero, List.set_cons_succ, i64_w, i32_w]
  rfl
 refine take_ (i := 2) (N := some 45) (v := ?_) (a' := ?_) #[true, true, true, false, true, false, false, true, false, false] rfl rfl (take_ofW HT_.out HW_.out (by kernel_rfl)) (fun _ _ _ h => h) (Or.inl ⟨by rfl, ?_⟩) hHeld ?_ ?_
 rotate_left
 ·
  rintro w' ⟨s0, s1, s2, s3, s4, s5⟩
  go_simp
  with_reducible rfl
 rotate_left
 ·
  simp only [Act.put, List.setIfInBounds_toArray, List.set_cons_zero, List.set_cons_succ, i64_w, i32_w]
  rfl
 refine take_ (i := 3) (N := some 46) (v := ?_) (a' := ?_) #[true, true, true, true, true, false, false, true, false, false] rfl rfl (take_ofW HT_.out HW_.out (by kernel_rfl)) (fun _ _ _ h => h) (Or.inl ⟨by rfl, ?_⟩) hHeld ?_ ?_
 rotate_left
 ·
  rintro w' ⟨s0, s1, s2, s3, s4, s5⟩
  go_simp
  with_reducible rfl
 rotate_left
 ·
  simp only [Act.put, List.setIfInBounds_toArray, List.set_cons_zero, List.set_cons_succ, i64_w, i32_w]
  rfl
 refine one_ (i := 5) (N := some 48) #[true, true, true, true, true, true, false, true, false, false] rfl rfl (one_of HT_.out (by kernel_rfl)) (by decide) (fun K hK => ?_)
 refine goes_ Try.func123 (by kernel_rfl) rfl #[.agg #[.int .u64 t110, .int .u64 t111], .int .u64 (IntKind.u64.wrap (t107 - (ji7)))] (by rfl) rfl rfl (by (try simp only [List.map_toArray, List.map_cons, List.map_nil]); first | done | (simp only [hji7]; rfl) | rfl | (simp only [List.length_drop, List.length_take]; rfl)) ?_
 with_reducible refine (wide_Cap.calls t110 t111 (IntKind.u64.wrap (t107 - (ji7))) t113 _ A8.out).mono ?_
 rintro e w37 ⟨rfl, hb⟩
 refine ⟨_, rfl, ?_⟩
 replace BK101 := zs BK101 hb; replace BK102 := zs BK102 hb; replace BK103 := zs BK103 hb; replace BK108 := zs BK108 hb; replace BK112 := zs BK112 hb; replace HB := zt HB hb
 (try clear hb)
 (try clear hb2)
 (try clear hk)
 (try clear hi)
 refine hK.out _ _ ⟨(zq5 BK102.out 0).trans rfl, (zq5 BK102.out 1).trans rfl, (zq5 BK102.out 2).trans rfl, (zq5 BK102.out 3).trans rfl, (zq5 BK112.out 0).trans rfl, (zq5 BK112.out 1).trans rfl⟩ (fun hHeld => ?_)
 clear hK K
 refine norm_ (a' := ?_) ?_ ?_
 rotate_left
 ·
  show Act.put _ (some 48) _ = _
  simp only [Act.put, List.setIfInBounds_toArray, List.set_cons_zero, List.set_cons_succ, i64_w, i32_w]
  rfl
 refine pure_ (i := 6) (N := some 49) (v := ?_) (a' := ?_) #[true, true, true, true, true, true, true, true, false, false] rfl rfl (any_of HT_.out (by kernel_rfl)) (fun _ _ _ h => h) (Or.inl ⟨by rfl, ?_⟩) ?_ ?_
 rotate_left
 ·
  intro w'
  go_simp
  with_reducible rfl
 rotate_left
 ·
  simp only [Act.put, List.setIfInBounds_toArray, List.set_cons_zero, List.set_cons_succ, i64_w, i32_w]
  rfl
 refine pure_ (i := 8) (N := some 51) (v := ?_) (a' := ?_) #[true, true, true, true, true, true, true, true, true, false] rfl rfl (any_of HT_.out (by kernel_rfl)) (fun _ _ _ h => h) (Or.inl ⟨by rfl, ?_⟩) ?_ ?_
 rotate_left
 ·
  intro w'
  go_simp
  with_reducible rfl
 rotate_left
 ·
  simp only [Act.put, List.setIfInBounds_toArray, List.set_cons_zero, List.set_cons_succ, i64_w, i32_w]
  rfl
 refine one_ (i := 9) (N := none) #[true, true, true, true, true, true, true, true, true, true] rfl rfl (one_of HT_.out (by kernel_rfl)) (by decide) (fun K hK => ?_)
 have hs38 : w37.cell? ⟨gb103, 0, none⟩ = some (.int .u64 0) := (zq5 BK103.out 0).trans rfl
 have hfs38 := zq4 BK103.out 0
 have hns38_0 := NB101_103.out
 have hns38_1 := NB102_103.out
 have hns38_3 := NB108_103.out
 have hns38_4 := NB112_103.out
 have hms38_0 := NB103_101.out
 have hms38_1 := NB103_102.out
 have hms38_3 := NB103_108.out
 have hms38_4 := NB103_112.out
 have hs39 : w37.cell? ⟨gb103, 1, none⟩ = some (.int .u64 0) := (zq5 BK103.out 1).trans rfl
 have hfs39 := zq4 BK103.out 1
 have hns39_0 := NB101_103.out
 have hns39_1 := NB102_103.out
 have hns39_3 := NB108_103.out
 have hns39_4 := NB112_103.out
 have hms39_0 := NB103_101.out
 have hms39_1 := NB103_102.out
 have hms39_3 := NB103_108.out
 have hms39_4 := NB103_112.out
 have hs40 : w37.cell? ⟨gb103, 2, none⟩ = some (.int .u64 0) := (zq5 BK103.out 2).trans rfl
 have hfs40 := zq4 BK103.out 2
 have hns40_0 := NB101_103.out
 have hns40_1 := NB102_103.out
 have hns40_3 := NB108_103.out
 have hns40_4 := NB112_103.out
 have hms40_0 := NB103_101.out
 have hms40_1 := NB103_102.out
 have hms40_3 := NB103_108.out
 have hms40_4 := NB103_112.out
 have hs41 : w37.cell? ⟨gb103, 3, none⟩ = some (.bool false) := (zq5 BK103.out 3).trans rfl
 have hfs41 := zq4 BK103.out 3
 have hns41_0 := NB101_103.out
 have hns41_1 := NB102_103.out
 have hns41_3 := NB108_103.out
 have hns41_4 := NB112_103.out
 have hms41_0 := NB103_101.out
 have hms41_1 := NB103_102.out
 have hms41_3 := NB103_108.out
 have hms41_4 := NB103_112.out
 refine skip_ (w1 := ?_) (by rfl) rfl ?_ ?_
 rotate_left
 ·
  go_simp
  rfl
 refine hK.out _ _ ⟨((cell_far (p := ⟨gb103, _, none⟩) NB102_103.out _).trans (((cell_far (p := ⟨gb103, _, none⟩) NB102_103.out _).trans (((cell_far (p := ⟨gb103, _, none⟩) NB102_103.out _).trans (((cell_far (p := ⟨gb103, _, none⟩) NB102_103.out _).trans (hHeld.1)))))))), ((cell_far (p := ⟨gb103, _, none⟩) NB102_103.out _).trans (((cell_far (p := ⟨gb103, _, none⟩) NB102_103.out _).trans (((cell_far (p := ⟨gb103, _, none⟩) NB102_103.out _).trans (((cell_far (p := ⟨gb103, _, none⟩) NB102_103.out _).trans (hHeld.2.1)))))))), ((cell_far (p := ⟨gb103, _, none⟩) NB102_103.out _).trans (((cell_far (p := ⟨gb103, _, none⟩) NB102_103.out _).trans (((cell_far (p := ⟨gb103, _, none⟩) NB102_103.out _).trans (((cell_far (p := ⟨gb103, _, none⟩) NB102_103.out _).trans (hHeld.2.2.1)))))))), ((cell_far (p := ⟨gb103, _, none⟩) NB102_103.out _).trans (((cell_far (p := ⟨gb103, _, none⟩) NB102_103.out _).trans (((cell_far (p := ⟨gb103, _, none⟩) NB102_103.out _).trans (((cell_far (p := ⟨gb103, _, none⟩) NB102_103.out _).trans (hHeld.2.2.2.1)))))))), ((cell_far (p := ⟨gb103, _, none⟩) NB112_103.out _).trans (((cell_far (p := ⟨gb103, _, none⟩) NB112_103.out _).trans (((cell_far (p := ⟨gb103, _, none⟩) NB112_103.out _).trans (((cell_far (p := ⟨gb103, _, none⟩) NB112_103.out _).trans (hHeld.2.2.2.2.1)))))))), ((cell_far (p := ⟨gb103, _, none⟩) NB112_103.out _).trans (((cell_far (p := ⟨gb103, _, none⟩) NB112_103.out _).trans (((cell_far (p := ⟨gb103, _, none⟩) NB112_103.out _).trans (((cell_far (p := ⟨gb103, _, none⟩) NB112_103.out _).trans (hHeld.2.2.2.2.2))))))))⟩ (fun hHeld => ?_)
 clear hK K
 refine done_ (done_of HT_.out (by kernel_rfl)) ?_
 try go_wp2
 refine bodyPost_ret (results_cell_row rfl _ _ gb103 51 #[.int .u64 t109, .int .u64 (IntKind.u64.wrap (a1_1 + t113)), .int .u64 t104, .bool true] (0, 0) _ rfl (zw4 BK103) Try.underlying51 rfl (by kernel_rfl)) rfl ?_
 exact ⟨by first | rfl | (simp [errW_none, errW_some] <;> rfl) | (simp only [← hji7]; first | rfl | (simp [errW_none, errW_some] <;> rfl)) | (simp [*, errW_none, errW_some] <;> rfl), zh HB⟩

end Go.Proofs.Ytiaoaoebghnpkaa.P
end
section
namespace Go.Proofs.Ytiaoaoebghnpkaa.P
open Go.RowKit Go.Proofs.YtiaoaoebghnpkaaW.PrintWords Go.Proofs.YtiaoaoebghnpkaaW.PrintLast Go.Proofs.YtiaoaoebghnpkaaW.PrintMore
attribute [local go_sem] max2_int min2_int max_two min_two max_three min_three max_four min_four   -- for this text's walks alone
set_option linter.unusedVariables false
set_option linter.unusedSimpArgs false

/-! ### single_counts: function 133 -/
def single_counts.f (a0_0 : Int) (a0_1 : Bool) (a0_2 : Int) (a0_3 : Int) (a0_4 : Int) (a0_5 : Int) (a1 : Int) : Option (Int) := if a0_1 = true then (if a1 < 0 then (some 2) else (if a1 > 2 then (some 2) else (some a1))) else (some 0)
set_option maxHeartbeats 8000000 in
set_option maxRecDepth 100000 in
theorem single_counts.calls (a0_0 : Int) (a0_1 : Bool) (a0_2 : Int) (a0_3 : Int) (a0_4 : Int) (a0_5 : Int) (a1 : Int) (r : Int) (w : World) (h : single_counts.f a0_0 a0_1 a0_2 a0_3 a0_4 a0_5 a1 = some r) :
  Calls Try.prog 133 #[.agg #[.int .i64 a0_0, .bool a0_1, .int .u64 a0_2, .int .u64 a0_3, .int .u64 a0_4, .int .u64 a0_5], .int .i64 a1] w fun e w' => e = .returned (.int .i64 r) ∧ Below w.heap.size w w' := by
 have hu49 := Try.underlying49
 have HB := zq3 (Below.refl w.heap.size w)
 have H : (if a0_1 = true then (if a1 < 0 then (some 2) else (if a1 > 2 then (some 2) else (some a1))) else (some 0)) = some r := h
 clear h
 by_cases c3 : a0_1 = true
 ·
  subst c3
  have H1 : (if a1 < 0 then (some 2) else (if a1 > 2 then (some 2) else (some a1))) = some r := by rw [if_pos rfl] at H; exact H
  clear H
  have H := H1
  clear H1
  by_cases c4 : a1 < 0
  ·
   rw [if_pos c4] at H
   have c4b0 : decide (a1 < 0) = true := decide_eq_true c4
   clear c4
   obtain rfl := Option.some.inj H
   go_enter Try.func133, Try.ntmps133
   go_wp2_with (first | ((with_reducible refine zd 2 rfl ?_); refine zb 2 #[.int .i64 a0_0, .bool true, .int .u64 a0_2, .int .u64 a0_3, .int .u64 a0_4, .int .u64 a0_5] 49 ?_; intro gb101 hg w5 hbox hb; have BK101 := zq3 (hbox); have GW101 := ze hg HB; have GE101 := GW101; replace HB := zt HB hb; clear hb hbox hg; obtain ⟨hc6_0, hc6_1, hc6_2, hc6_3, hc6_4, hc6_5⟩ := zc6 BK101; obtain ⟨hf6_0, hf6_1, hf6_2, hf6_3, hf6_4, hf6_5⟩ := zf6 BK101))
   go_ret
   exact ⟨by first | rfl | (simp [errW_none, errW_some] <;> rfl) | (simp [*, errW_none, errW_some] <;> rfl), zh HB⟩
  ·
   rw [if_neg c4] at H
   have c4b0 : decide (a1 < 0) = false := decide_eq_false c4
   clear c4
   by_cases c7 : a1 > 2
   ·
    rw [if_pos c7] at H
    have c7b0 : decide (2 < a1) = true := decide_eq_true c7
    clear c7
    obtain rfl := Option.some.inj H
    go_enter Try.func133, Try.ntmps133
    go_wp2_with (first | ((with_reducible refine zd 2 rfl ?_); refine zb 2 #[.int .i64 a0_0, .bool true, .int .u64 a0_2, .int .u64 a0_3, .int .u64 a0_4, .int .u64 a0_5] 49 ?_; intro gb101 hg w8 hbox hb; have BK101 := zq3 (hbox); have GW101 := ze hg HB; have GE101 := GW101; replace HB := zt HB hb; clear hb hbox hg; obtain ⟨hc9_0, hc9_1, hc9_2, hc9_3, hc9_4, hc9_5⟩ := zc6 BK101; obtain ⟨hf9_0, hf9_1, hf9_2, hf9_3, hf9_4, hf9_5⟩ := zf6 BK101))
    go_ret
    exact ⟨by first | rfl | (simp [errW_none, errW_some] <;> rfl) | (simp [*, errW_none, errW_some] <;> rfl), zh HB⟩
   ·
    rw [if_neg c7] at H
    have c7b0 : decide (2 < a1) = false := decide_eq_false c7
    clear c7
    obtain rfl := Option.some.inj H
    go_enter Try.func133, Try.ntmps133
    go_wp2_with (first | ((with_reducible refine zd 2 rfl ?_); refine zb 2 #[.int .i64 a0_0, .bool true, .int .u64 a0_2, .int .u64 a0_3, .int .u64 a0_4, .int .u64 a0_5] 49 ?_; intro gb101 hg w10 hbox hb; have BK101 := zq3 (hbox); have GW101 := ze hg HB; have GE101 := GW101; replace HB := zt HB hb; clear hb hbox hg; obtain ⟨hc11_0, hc11_1, hc11_2, hc11_3, hc11_4, hc11_5⟩ := zc6 BK101; obtain ⟨hf11_0, hf11_1, hf11_2, hf11_3, hf11_4, hf11_5⟩ := zf6 BK101))
    go_ret
    exact ⟨by first | rfl | (simp [errW_none, errW_some] <;> rfl) | (simp [*, errW_none, errW_some] <;> rfl), zh HB⟩
 ·
  replace c3 := Bool.eq_false_iff.mpr c3
  subst c3
  have H1 : (some 0) = some r := by rw [if_neg (show ¬ (false = true) by decide)] at H; exact H
  clear H
  have H := H1
  clear H1
  obtain rfl := Option.some.inj H
  go_enter Try.func133, Try.ntmps133
  go_wp2_with (first | ((with_reducible refine zd 2 rfl ?_); refine zb 2 #[.int .i64 a0_0, .bool false, .int .u64 a0_2, .int .u64 a0_3, .int .u64 a0_4, .int .u64 a0_5] 49 ?_; intro gb101 hg w12 hbox hb; have BK101 := zq3 (hbox); have GW101 := ze hg HB; have GE101 := GW101; replace HB := zt HB hb; clear hb hbox hg; obtain ⟨hc13_0, hc13_1, hc13_2, hc13_3, hc13_4, hc13_5⟩ := zc6 BK101; obtain ⟨hf13_0, hf13_1, hf13_2, hf13_3, hf13_4, hf13_5⟩ := zf6 BK101))
  go_ret
  exact ⟨by first | rfl | (simp [errW_none, errW_some] <;> rfl) | (simp [*, errW_none, errW_some] <;> rfl), zh HB⟩

end Go.Proofs.Ytiaoaoebghnpkaa.P
end
