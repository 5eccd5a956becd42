/- Parts of the proof, in one text. -/
import Derived.Test.YtiaoaoebghnpkaaMT18
import Derived.Test.YtiaoaoebghnpkaaMT19
import Derived.Test.YtiaoaoebghnpkaaMT24
section
namespace Go.Proofs.Ytiaoaoebghnpkaa.P
open Go.RowKit Go.Proofs.YtiaoaoebghnpkaaW.PrintWords Go.Proofs.YtiaoaoebghnpkaaW.PrintLast Go.Proofs.YtiaoaoebghnpkaaW.PrintMore
attribute [local go_sem] max2_int min2_int max_two min_two max_three min_three max_four min_four   -- for this text's walks alone
set_option linter.unusedVariables false
set_option linter.unusedSimpArgs false

/-! ### weighbridgeref26_Check: function 78 -/
def weighbridgeref26_Check.j0 : Nat → Bool → Int → Bool → Int → Int → Int → Int → Option (Int)
 | 0, _, _, _, _, _, _, _ => none
 | k + 1, x13, x102000, x102001, x102002, x102003, x102004, x102005 => if x13 = true then (some 16) else (if x102004 > 4294967296 then (some 17) else (if x102005 > 4294967296 then (some 17) else (if x102004 = 0 then (if x102005 = 0 then (some 17) else (some 0)) else (some 0))))
def weighbridgeref26_Check.f (k : Nat) (a0_0 : Int) (a0_1 : Bool) (a0_2 : Int) (a0_3 : Int) (a0_4 : Int) (a0_5 : Int) : Option (Int) := if a0_0 = 1 then (if a0_2 > 1099511627776 then (weighbridgeref26_Check.j0 k true a0_0 a0_1 a0_2 a0_3 a0_4 a0_5) else (weighbridgeref26_Check.j0 k (a0_3 != 0) a0_0 a0_1 a0_2 a0_3 a0_4 a0_5)) else (some 10)
set_option maxHeartbeats 8000000 in
set_option maxRecDepth 100000 in
theorem weighbridgeref26_Check.calls (k : Nat) (a0_0 : Int) (a0_1 : Bool) (a0_2 : Int) (a0_3 : Int) (a0_4 : Int) (a0_5 : Int) (r : Int) (w : World) (h : weighbridgeref26_Check.f k a0_0 a0_1 a0_2 a0_3 a0_4 a0_5 = some r) :
  Calls Try.prog 78 #[.agg #[.int .i64 a0_0, .bool a0_1, .int .u64 a0_2, .int .u64 a0_3, .int .u64 a0_4, .int .u64 a0_5]] w fun e w' => e = .returned (.int .i64 r) ∧ Below w.heap.size w w' := by
 have hu49 := Try.underlying49
 have HB := zq3 (Below.refl w.heap.size w)
 have H : (if a0_0 = 1 then (if a0_2 > 1099511627776 then (weighbridgeref26_Check.j0 k true a0_0 a0_1 a0_2 a0_3 a0_4 a0_5) else (weighbridgeref26_Check.j0 k (a0_3 != 0) a0_0 a0_1 a0_2 a0_3 a0_4 a0_5)) else (some 10)) = some r := h
 clear h
 by_cases c2 : a0_0 = 1
 ·
  rw [if_pos c2] at H
  have c2b0 : (a0_0 == 1) = true := beq_iff_eq.mpr c2
  have c2b1 : (a0_0 != 1) = false := bne_eq_false_iff_eq.mpr c2
  clear c2
  have HC3 := zq3 H
  clear H
  go_enter Try.func78, Try.ntmps78
  go_upto_region 3 with (first | ((with_reducible refine zd 1 rfl ?_); refine zb 1 #[.int .i64 a0_0, .bool a0_1, .int .u64 a0_2, .int .u64 a0_3, .int .u64 a0_4, .int .u64 a0_5] 49 ?_; intro gb101 hg w4 hbox hb; have BK101 := zq3 (hbox); have GW101 := ze hg HB; have GE101 := GW101; replace HB := zt HB hb; clear hb hbox hg; obtain ⟨hc5_0, hc5_1, hc5_2, hc5_3, hc5_4, hc5_5⟩ := zc6 BK101; obtain ⟨hf5_0, hf5_1, hf5_2, hf5_3, hf5_4, hf5_5⟩ := zf6 BK101))
  (try simp only [Act.put, List.setIfInBounds_toArray, List.set_cons_zero, List.set_cons_succ])
  go_cut [13] (fun v13 wc => ∃ (kq : Nat) (x13_2 : Bool), v13 = .bool x13_2 ∧ Aside0 (weighbridgeref26_Check.j0 kq x13_2 a0_0 a0_1 a0_2 a0_3 a0_4 a0_5 = some r) ∧ Aside0 (kq ≤ k) ∧ Aside0 (wc.heap[gb101]? = some (.cells #[.int .i64 a0_0, .bool a0_1, .int .u64 a0_2, .int .u64 a0_3, .int .u64 a0_4, .int .u64 a0_5] 49 (0, 0))) ∧ Aside0 (Below w.heap.size w wc))
  case first =>
   have H := HC3.out
   clear HC3
   by_cases c6 : a0_2 > 1099511627776
   ·
    rw [if_pos c6] at H
    have c6b0 : decide (1099511627776 < a0_2) = true := decide_eq_true c6
    clear c6
    (first | rw [c6b0] | (simp only [i64_w, i32_w]; rw [c6b0]) | skip)
    have H' := zq3 H
    clear H
    obtain ⟨hc7_0, hc7_1, hc7_2, hc7_3, hc7_4, hc7_5⟩ := zc6 BK101
    obtain ⟨hf7_0, hf7_1, hf7_2, hf7_3, hf7_4, hf7_5⟩ := zf6 BK101
    go_wp2
    go_meet
    case rel => exact ⟨_, (true), (by first | rfl | (simp; done) | (simp [*]; done)), H', ⟨by first | omega | exact Nat.le_refl _⟩, ⟨zw BK101⟩, ⟨zh HB⟩⟩
   ·
    rw [if_neg c6] at H
    have c6b0 : decide (1099511627776 < a0_2) = false := decide_eq_false c6
    clear c6
    (first | rw [c6b0] | (simp only [i64_w, i32_w]; rw [c6b0]) | skip)
    have H' := zq3 H
    clear H
    obtain ⟨hc8_0, hc8_1, hc8_2, hc8_3, hc8_4, hc8_5⟩ := zc6 BK101
    obtain ⟨hf8_0, hf8_1, hf8_2, hf8_3, hf8_4, hf8_5⟩ := zf6 BK101
    go_wp2
    go_meet
    case rel => exact ⟨_, ((a0_3 != 0)), (by first | rfl | (simp; done) | (simp [*]; done)), H', ⟨by first | omega | exact Nat.le_refl _⟩, ⟨zw BK101⟩, ⟨zh HB⟩⟩
  case rest =>
   clear HC3
   (try clear c2); (try clear c2b0); (try clear c2b1); (try clear p2); (try clear c6); (try clear c6b0); (try clear c7)
   try clear hc5_0 hc5_1 hc5_2 hc5_3 hc5_4 hc5_5 hc7_0 hc7_1 hc7_2 hc7_3 hc7_4 hc7_5 hc8_0 hc8_1 hc8_2 hc8_3 hc8_4 hc8_5 hf5_0 hf5_1 hf5_2 hf5_3 hf5_4 hf5_5 hf7_0 hf7_1 hf7_2 hf7_3 hf7_4 hf7_5 hf8_0 hf8_1 hf8_2 hf8_3 hf8_4 hf8_5
   obtain ⟨kq, x13_2, rfl, HA, HJ2, BK101, HB⟩ := hcut
   cases kq with
   | zero => exact absurd HA.out (by simp [weighbridgeref26_Check.j0])
   | succ kj2 =>
    have H := HA.out
    clear HA
    simp only [weighbridgeref26_Check.j0] at H
    by_cases c9 : x13_2 = true
    ·
     subst c9
     have H1 : (some 16) = some r := by rw [if_pos rfl] at H; exact H
     clear H
     have H := H1
     clear H1
     obtain rfl := Option.some.inj H
     go_wp2
     go_ret
     exact ⟨by first | rfl | (simp [errW_none, errW_some] <;> rfl) | (simp [*, errW_none, errW_some] <;> rfl), zh HB⟩
    ·
     replace c9 := Bool.eq_false_iff.mpr c9
     subst c9
     have H1 : (if a0_4 > 4294967296 then (some 17) else (if a0_5 > 4294967296 then (some 17) else (if a0_4 = 0 then (if a0_5 = 0 then (some 17) else (some 0)) else (some 0)))) = some r := by rw [if_neg (show ¬ (false = true) by decide)] at H; exact H
     clear H
     have H := H1
     clear H1
     by_cases c10 : a0_4 > 4294967296
     ·
      rw [if_pos c10] at H
      have c10b0 : decide (4294967296 < a0_4) = true := decide_eq_true c10
      clear c10
      obtain rfl := Option.some.inj H
      obtain ⟨hc11_0, hc11_1, hc11_2, hc11_3, hc11_4, hc11_5⟩ := zc6 BK101
      obtain ⟨hf11_0, hf11_1, hf11_2, hf11_3, hf11_4, hf11_5⟩ := zf6 BK101
      go_wp2
      go_ret
      exact ⟨by first | rfl | (simp [errW_none, errW_some] <;> rfl) | (simp [*, errW_none, errW_some] <;> rfl), zh HB⟩
     ·
      rw [if_neg c10] at H
      have c10b0 : decide (4294967296 < a0_4) = false := decide_eq_false c10
      clear c10
      by_cases c12 : a0_5 > 4294967296
      ·
       rw [if_pos c12] at H
       have c12b0 : decide (4294967296 < a0_5) = true := decide_eq_true c12
       clear c12
       obtain rfl := Option.some.inj H
       obtain ⟨hc13_0, hc13_1, hc13_2, hc13_3, hc13_4, hc13_5⟩ := zc6 BK101
       obtain ⟨hf13_0, hf13_1, hf13_2, hf13_3, hf13_4, hf13_5⟩ := zf6 BK101
       go_wp2
       go_ret
       exact ⟨by first | rfl | (simp [errW_none, errW_some] <;> rfl) | (simp [*, errW_none, errW_some] <;> rfl), zh HB⟩
      ·
       rw [if_neg c12] at H
       have c12b0 : decide (4294967296 < a0_5) = false := decide_eq_false c12
       clear c12
       by_cases c14 : a0_4 = 0
       ·
        rw [if_pos c14] at H
        have c14b0 : (a0_4 == 0) = true := beq_iff_eq.mpr c14
        have c14b1 : (a0_4 != 0) = false := bne_eq_false_iff_eq.mpr c14
        clear c14
        by_cases c15 : a0_5 = 0
        ·
         rw [if_pos c15] at H
         have c15b0 : (a0_5 == 0) = true := beq_iff_eq.mpr c15
         have c15b1 : (a0_5 != 0) = false := bne_eq_false_iff_eq.mpr c15
         clear c15
         obtain rfl := Option.some.inj H
         obtain ⟨hc16_0, hc16_1, hc16_2, hc16_3, hc16_4, hc16_5⟩ := zc6 BK101
         obtain ⟨hf16_0, hf16_1, hf16_2, hf16_3, hf16_4, hf16_5⟩ := zf6 BK101
         go_wp2
         go_ret
         exact ⟨by first | rfl | (simp [errW_none, errW_some] <;> rfl) | (simp [*, errW_none, errW_some] <;> rfl), zh HB⟩
        ·
         rw [if_neg c15] at H
         have c15b0 : (a0_5 == 0) = false := beq_eq_false_iff_ne.mpr c15
         have c15b1 : (a0_5 != 0) = true := bne_iff_ne.mpr c15
         obtain rfl := Option.some.inj H
         obtain ⟨hc17_0, hc17_1, hc17_2, hc17_3, hc17_4, hc17_5⟩ := zc6 BK101
         obtain ⟨hf17_0, hf17_1, hf17_2, hf17_3, hf17_4, hf17_5⟩ := zf6 BK101
         go_wp2
         go_ret
         exact ⟨by first | rfl | (simp [errW_none, errW_some] <;> rfl) | (simp [*, errW_none, errW_some] <;> rfl), zh HB⟩
       ·
        rw [if_neg c14] at H
        have c14b0 : (a0_4 == 0) = false := beq_eq_false_iff_ne.mpr c14
        have c14b1 : (a0_4 != 0) = true := bne_iff_ne.mpr c14
        obtain rfl := Option.some.inj H
        obtain ⟨hc18_0, hc18_1, hc18_2, hc18_3, hc18_4, hc18_5⟩ := zc6 BK101
        obtain ⟨hf18_0, hf18_1, hf18_2, hf18_3, hf18_4, hf18_5⟩ := zf6 BK101
        go_wp2
        go_ret
        exact ⟨by first | rfl | (simp [errW_none, errW_some] <;> rfl) | (simp [*, errW_none, errW_some] <;> rfl), zh HB⟩
 ·
  rw [if_neg c2] at H
  have c2b0 : (a0_0 == 1) = false := beq_eq_false_iff_ne.mpr c2
  have c2b1 : (a0_0 != 1) = true := bne_iff_ne.mpr c2
  obtain rfl := Option.some.inj H
  go_enter Try.func78, Try.ntmps78
  go_wp2_with (first | ((with_reducible refine zd 1 rfl ?_); refine zb 1 #[.int .i64 a0_0, .bool a0_1, .int .u64 a0_2, .int .u64 a0_3, .int .u64 a0_4, .int .u64 a0_5] 49 ?_; intro gb101 hg w19 hbox hb; have BK101 := zq3 (hbox); have GW101 := ze hg HB; have GE101 := GW101; replace HB := zt HB hb; clear hb hbox hg; obtain ⟨hc20_0, hc20_1, hc20_2, hc20_3, hc20_4, hc20_5⟩ := zc6 BK101; obtain ⟨hf20_0, hf20_1, hf20_2, hf20_3, hf20_4, hf20_5⟩ := zf6 BK101))
  go_ret
  exact ⟨by first | rfl | (simp [errW_none, errW_some] <;> rfl) | (simp [*, errW_none, errW_some] <;> rfl), zh HB⟩

end Go.Proofs.Ytiaoaoebghnpkaa.P
end
section
namespace Go.Proofs.Ytiaoaoebghnpkaa.P
open Go.RowKit Go.Proofs.YtiaoaoebghnpkaaW.PrintWords Go.Proofs.YtiaoaoebghnpkaaW.PrintLast Go.Proofs.YtiaoaoebghnpkaaW.PrintMore
attribute [local go_sem] max2_int min2_int max_two min_two max_three min_three max_four min_four   -- for this text's walks alone
set_option linter.unusedVariables false
set_option linter.unusedSimpArgs false

/-! ### weighbridgeref28_Check: function 57 -/
def weighbridgeref28_Check.f (k : Nat) (a0_0 : Int) (a0_1 : Bool) (a0_2 : Int) (a0_3 : Int) (a0_4 : Int) (a0_5 : Int) : Option (Int) := if a0_0 = 2 then ((weighbridgeref27_Check.f k a0_0 a0_1 a0_2 a0_3 a0_4 a0_5).bind fun t102 => (some t102)) else ((weighbridgeref26_Check.f k a0_0 a0_1 a0_2 a0_3 a0_4 a0_5).bind fun t103 => (some t103))
set_option maxHeartbeats 8000000 in
set_option maxRecDepth 100000 in
theorem weighbridgeref28_Check.calls (k : Nat) (a0_0 : Int) (a0_1 : Bool) (a0_2 : Int) (a0_3 : Int) (a0_4 : Int) (a0_5 : Int) (r : Int) (w : World) (h : weighbridgeref28_Check.f k a0_0 a0_1 a0_2 a0_3 a0_4 a0_5 = some r) :
  Calls Try.prog 57 #[.agg #[.int .i64 a0_0, .bool a0_1, .int .u64 a0_2, .int .u64 a0_3, .int .u64 a0_4, .int .u64 a0_5]] w fun e w' => e = .returned (.int .i64 r) ∧ Below w.heap.size w w' := by
 have hu49 := Try.underlying49
 have HB := zq3 (Below.refl w.heap.size w)
 have H : (if a0_0 = 2 then ((weighbridgeref27_Check.f k a0_0 a0_1 a0_2 a0_3 a0_4 a0_5).bind fun t102 => (some t102)) else ((weighbridgeref26_Check.f k a0_0 a0_1 a0_2 a0_3 a0_4 a0_5).bind fun t103 => (some t103))) = some r := h
 clear h
 by_cases c2 : a0_0 = 2
 ·
  rw [if_pos c2] at H
  have c2b0 : (a0_0 == 2) = true := beq_iff_eq.mpr c2
  have c2b1 : (a0_0 != 2) = false := bne_eq_false_iff_eq.mpr c2
  clear c2
  replace H := Option.bind_eq_some_iff.mp H
  obtain ⟨t102, A30, H⟩ := H
  replace H : (some t102) = some r := H
  have A3 := zq3 A30
  clear A30
  obtain rfl := Option.some.inj H
  go_enter Try.func57, Try.ntmps57
  go_wp2_with (first | ((with_reducible refine zd 1 rfl ?_); refine zb 1 #[.int .i64 a0_0, .bool a0_1, .int .u64 a0_2, .int .u64 a0_3, .int .u64 a0_4, .int .u64 a0_5] 49 ?_; intro gb101 hg w4 hbox hb; have BK101 := zq3 (hbox); have GW101 := ze hg HB; have GE101 := GW101; replace HB := zt HB hb; clear hb hbox hg; obtain ⟨hc5_0, hc5_1, hc5_2, hc5_3, hc5_4, hc5_5⟩ := zc6 BK101; obtain ⟨hf5_0, hf5_1, hf5_2, hf5_3, hf5_4, hf5_5⟩ := zf6 BK101) | ((with_reducible refine gate_callee (f := 77) rfl ?_); refine zgo (some 7) Try.func77 #[.agg #[.int .i64 a0_0, .bool a0_1, .int .u64 a0_2, .int .u64 a0_3, .int .u64 a0_4, .int .u64 a0_5]] ?_; (with_reducible refine (weighbridgeref27_Check.calls k a0_0 a0_1 a0_2 a0_3 a0_4 a0_5 t102 _ A3.out).mono ?_); rintro e w6 ⟨rfl, hb⟩; refine ⟨_, rfl, ?_⟩; replace BK101 := zs BK101 hb; replace HB := zt HB hb; (try clear hb)))
  go_ret
  exact ⟨by first | rfl | (simp [errW_none, errW_some] <;> rfl) | (simp [*, errW_none, errW_some] <;> rfl), zh HB⟩
 ·
  rw [if_neg c2] at H
  have c2b0 : (a0_0 == 2) = false := beq_eq_false_iff_ne.mpr c2
  have c2b1 : (a0_0 != 2) = true := bne_iff_ne.mpr c2
  replace H := Option.bind_eq_some_iff.mp H
  obtain ⟨t103, A70, H⟩ := H
  replace H : (some t103) = some r := H
  have A7 := zq3 A70
  clear A70
  obtain rfl := Option.some.inj H
  go_enter Try.func57, Try.ntmps57
  go_wp2_with (first | ((with_reducible refine zd 1 rfl ?_); refine zb 1 #[.int .i64 a0_0, .bool a0_1, .int .u64 a0_2, .int .u64 a0_3, .int .u64 a0_4, .int .u64 a0_5] 49 ?_; intro gb101 hg w8 hbox hb; have BK101 := zq3 (hbox); have GW101 := ze hg HB; have GE101 := GW101; replace HB := zt HB hb; clear hb hbox hg; obtain ⟨hc9_0, hc9_1, hc9_2, hc9_3, hc9_4, hc9_5⟩ := zc6 BK101; obtain ⟨hf9_0, hf9_1, hf9_2, hf9_3, hf9_4, hf9_5⟩ := zf6 BK101) | ((with_reducible refine gate_callee (f := 78) rfl ?_); refine zgo (some 9) Try.func78 #[.agg #[.int .i64 a0_0, .bool a0_1, .int .u64 a0_2, .int .u64 a0_3, .int .u64 a0_4, .int .u64 a0_5]] ?_; (with_reducible refine (weighbridgeref26_Check.calls k a0_0 a0_1 a0_2 a0_3 a0_4 a0_5 t103 _ A7.out).mono ?_); rintro e w10 ⟨rfl, hb⟩; refine ⟨_, rfl, ?_⟩; replace BK101 := zs BK101 hb; replace HB := zt HB hb; (try clear hb)))
  go_ret
  exact ⟨by first | rfl | (simp [errW_none, errW_some] <;> rfl) | (simp [*, errW_none, errW_some] <;> rfl), zh HB⟩

end Go.Proofs.Ytiaoaoebghnpkaa.P
end
section
namespace Go.Proofs.Ytiaoaoebghnpkaa.P
open Go.RowKit Go.Proofs.YtiaoaoebghnpkaaW.PrintWords Go.Proofs.YtiaoaoebghnpkaaW.PrintLast Go.Proofs.YtiaoaoebghnpkaaW.PrintMore
attribute [local go_sem] max2_int min2_int max_two min_two max_three min_three max_four min_four   -- for this text's walks alone
set_option linter.unusedVariables false
set_option linter.unusedSimpArgs false

/-! ### weighbridgeref25_Step: function 93 -/
def weighbridgeref25_Step.f (a0 : Int) (a1 : Bool) (a2 : Int) : Option (Int × Int) := if a1 = true then (if a2 ≤ a0 then (some (a0, 0)) else (some (a2, IntKind.u64.wrap (a2 - a0)))) else (some (a2, 0))
set_option maxHeartbeats 8000000 in
set_option maxRecDepth 100000 in
theorem weighbridgeref25_Step.calls (a0 : Int) (a1 : Bool) (a2 : Int) (r1 : Int) (r2 : Int) (w : World) (h : weighbridgeref25_Step.f a0 a1 a2 = some (r1, r2)) :
  Calls Try.prog 93 #[.int .u64 a0, .bool a1, .int .u64 a2] w fun e w' => e = .returned (.tuple #[.int .u64 r1, .int .u64 r2]) ∧ Below w.heap.size w w' := by
 have HB := zq3 (Below.refl w.heap.size w)
 have H : (if a1 = true then (if a2 ≤ a0 then (some (a0, 0)) else (some (a2, IntKind.u64.wrap (a2 - a0)))) else (some (a2, 0))) = some (r1, r2) := h
 clear h
 by_cases c4 : a1 = true
 ·
  subst c4
  have H1 : (if a2 ≤ a0 then (some (a0, 0)) else (some (a2, IntKind.u64.wrap (a2 - a0)))) = some (r1, r2) := by rw [if_pos rfl] at H; exact H
  clear H
  have H := H1
  clear H1
  by_cases c5 : a2 ≤ a0
  ·
   rw [if_pos c5] at H
   have c5b0 : decide (a2 ≤ a0) = true := decide_eq_true c5
   clear c5
   simp only [Option.some.injEq, Prod.mk.injEq] at H
   obtain ⟨rfl, rfl⟩ := H
   go_enter Try.func93, Try.ntmps93
   go_wp2
   go_ret2
   exact ⟨by first | rfl | (simp [errW_none, errW_some] <;> rfl) | (simp [*, errW_none, errW_some] <;> rfl), zh HB⟩
  ·
   rw [if_neg c5] at H
   have c5b0 : decide (a2 ≤ a0) = false := decide_eq_false c5
   clear c5
   simp only [Option.some.injEq, Prod.mk.injEq] at H
   obtain ⟨rfl, rfl⟩ := H
   go_enter Try.func93, Try.ntmps93
   go_wp2
   go_ret2
   exact ⟨by first | rfl | (simp [errW_none, errW_some] <;> rfl) | (simp [*, errW_none, errW_some] <;> rfl), zh HB⟩
 ·
  replace c4 := Bool.eq_false_iff.mpr c4
  subst c4
  have H1 : (some (a2, 0)) = some (r1, r2) := by rw [if_neg (show ¬ (false = true) by decide)] at H; exact H
  clear H
  have H := H1
  clear H1
  simp only [Option.some.injEq, Prod.mk.injEq] at H
  obtain ⟨rfl, rfl⟩ := H
  go_enter Try.func93, Try.ntmps93
  go_wp2
  go_ret2
  exact ⟨by first | rfl | (simp [errW_none, errW_some] <;> rfl) | (simp [*, errW_none, errW_some] <;> rfl), zh HB⟩

end Go.Proofs.Ytiaoaoebghnpkaa.P
end
section
namespace Go.Proofs.Ytiaoaoebghnpkaa.P
open Go.RowKit Go.Proofs.YtiaoaoebghnpkaaW.PrintWords Go.Proofs.YtiaoaoebghnpkaaW.PrintLast Go.Proofs.YtiaoaoebghnpkaaW.PrintMore
attribute [local go_sem] max2_int min2_int max_two min_two max_three min_three max_four min_four   -- for this text's walks alone
set_option linter.unusedVariables false
set_option linter.unusedSimpArgs false

/-! ### weighbridgeref27_Later: function 89 -/
def weighbridgeref27_Later.f (a0_0 : Int) (a0_1 : Bool) (a0_2 : Int) (a0_3 : Int) (a0_4 : Int) (a0_5 : Int) (a1_0 : Int) (a1_1 : Int) (a1_2 : Int) (a1_3 : Bool) (a2 : Int) : Option (Int × Int × Int × Bool) := (weighbridgeref25_Step.f a1_2 a1_3 a2).bind fun bt104 => ((weighbridgeref24_Grow.f a1_0 (IntKind.u64.wrap (a0_4 * 1000000000)) a0_2 bt104.2).bind fun bt106 => ((weighbridgeref24_Grow.f a1_1 (IntKind.u64.wrap (a0_5 * 1000000000)) a0_3 bt104.2).bind fun bt110 => (some (bt106.1, bt110.1, bt104.1, true))))
set_option maxHeartbeats 8000000 in
set_option maxRecDepth 100000 in
theorem weighbridgeref27_Later.calls (a0_0 : Int) (a0_1 : Bool) (a0_2 : Int) (a0_3 : Int) (a0_4 : Int) (a0_5 : Int) (a1_0 : Int) (a1_1 : Int) (a1_2 : Int) (a1_3 : Bool) (a2 : Int) (r1 : Int) (r2 : Int) (r3 : Int) (r4 : Bool) (w : World) (h : weighbridgeref27_Later.f a0_0 a0_1 a0_2 a0_3 a0_4 a0_5 a1_0 a1_1 a1_2 a1_3 a2 = some (r1, r2, r3, r4)) :
  Calls Try.prog 89 #[.agg #[.int .i64 a0_0, .bool a0_1, .int .u64 a0_2, .int .u64 a0_3, .int .u64 a0_4, .int .u64 a0_5], .agg #[.int .u64 a1_0, .int .u64 a1_1, .int .u64 a1_2, .bool a1_3], .int .u64 a2] w fun e w' => e = .returned (.agg #[.int .u64 r1, .int .u64 r2, .int .u64 r3, .bool r4]) ∧ Below w.heap.size w w' := by
 have hu49 := Try.underlying49
 have hu51 := Try.underlying51
 have hu42 := Try.underlying42
 have HB := zq3 (Below.refl w.heap.size w)
 have H : ((weighbridgeref25_Step.f a1_2 a1_3 a2).bind fun bt104 => ((weighbridgeref24_Grow.f a1_0 (IntKind.u64.wrap (a0_4 * 1000000000)) a0_2 bt104.2).bind fun bt106 => ((weighbridgeref24_Grow.f a1_1 (IntKind.u64.wrap (a0_5 * 1000000000)) a0_3 bt104.2).bind fun bt110 => (some (bt106.1, bt110.1, bt104.1, true))))) = some (r1, r2, r3, r4) := h
 clear h
 replace H := Option.bind_eq_some_iff.mp H
 obtain ⟨⟨t104, t105⟩, A40, H⟩ := H
 replace H : ((weighbridgeref24_Grow.f a1_0 (IntKind.u64.wrap (a0_4 * 1000000000)) a0_2 t105).bind fun bt106 => ((weighbridgeref24_Grow.f a1_1 (IntKind.u64.wrap (a0_5 * 1000000000)) a0_3 t105).bind fun bt110 => (some (bt106.1, bt110.1, t104, true)))) = some (r1, r2, r3, r4) := H
 have A4 := zq3 A40
 clear A40
 replace H := Option.bind_eq_some_iff.mp H
 obtain ⟨⟨t106, t107, t108⟩, A50, H⟩ := H
 replace H : ((weighbridgeref24_Grow.f a1_1 (IntKind.u64.wrap (a0_5 * 1000000000)) a0_3 t105).bind fun bt110 => (some (t106, bt110.1, t104, true))) = some (r1, r2, r3, r4) := H
 have A5 := zq3 A50
 clear A50
 replace H := Option.bind_eq_some_iff.mp H
 obtain ⟨⟨t110, t111, t112⟩, A60, H⟩ := H
 replace H : (some (t106, t110, t104, true)) = some (r1, r2, r3, r4) := H
 have A6 := zq3 A60
 clear A60
 simp only [Option.some.injEq, Prod.mk.injEq] at H
 obtain ⟨rfl, rfl, rfl, rfl⟩ := H
 go_enter Try.func89, Try.ntmps89
 go_wp2_with (first | ((with_reducible refine zd 3 rfl ?_); refine zb 3 #[.int .i64 a0_0, .bool a0_1, .int .u64 a0_2, .int .u64 a0_3, .int .u64 a0_4, .int .u64 a0_5] 49 ?_; intro gb101 hg w7 hbox hb; have BK101 := zq3 (hbox); have GW101 := ze hg HB; have GE101 := GW101; replace HB := zt HB hb; clear hb hbox hg) | ((with_reducible refine zd 4 rfl ?_); refine zb 4 #[.int .u64 a1_0, .int .u64 a1_1, .int .u64 a1_2, .bool a1_3] 51 ?_; intro gb102 hg w8 hbox hb; have BK102 := zq3 (hbox); have GW102 := ze hg HB; have GE102 := GW102; have NB101_102 := zl hg BK101; have NB102_101 := zg hg BK101; replace BK101 := zs BK101 hb; replace HB := zt HB hb; clear hb hbox hg) | ((with_reducible refine zd 6 rfl ?_); refine zb 6 #[.int .u64 0, .int .u64 0, .int .u64 0, .bool false] 51 ?_; intro gb103 hg w9 hbox hb; have BK103 := zq3 (hbox); have GW103 := ze hg HB; have GE103 := GW103; have NB101_103 := zl hg BK101; have NB103_101 := zg hg BK101; have NB102_103 := zl hg BK102; have NB103_102 := zg hg BK102; replace BK101 := zs BK101 hb; replace BK102 := zs BK102 hb; replace HB := zt HB hb; clear hb hbox hg; have hnb10 := NB102_101.out; have hnc10 := NB101_102.out; have hnb11 := NB102_103.out; have hnc11 := NB103_102.out; obtain ⟨hc12_0, hc12_1, hc12_2, hc12_3⟩ := zc4 BK102; obtain ⟨hf12_0, hf12_1, hf12_2, hf12_3⟩ := zf4 BK102) | ((with_reducible refine gate_callee (f := 93) rfl ?_); refine zgo (some 19) Try.func93 #[.int .u64 a1_2, .bool a1_3, .int .u64 a2] ?_; (with_reducible refine (weighbridgeref25_Step.calls a1_2 a1_3 a2 t104 t105 _ A4.out).mono ?_); rintro e w13 ⟨rfl, hb⟩; refine ⟨_, rfl, ?_⟩; replace BK101 := zs BK101 hb; replace BK102 := zs BK102 hb; replace BK103 := zs BK103 hb; replace HB := zt HB hb; (try clear hb); obtain ⟨hc14_0, hc14_1, hc14_2, hc14_3⟩ := zc4 BK102; obtain ⟨hf14_0, hf14_1, hf14_2, hf14_3⟩ := zf4 BK102; have hnb15 := NB101_103.out; have hnc15 := NB103_101.out; obtain ⟨hc16_0, hc16_1, hc16_2, hc16_3, hc16_4, hc16_5⟩ := zc6 BK101; obtain ⟨hf16_0, hf16_1, hf16_2, hf16_3, hf16_4, hf16_5⟩ := zf6 BK101) | ((with_reducible refine gate_callee (f := 94) rfl ?_); refine zgo (some 31) Try.func94 #[.int .u64 a1_0, .int .u64 (IntKind.u64.wrap (a0_4 * 1000000000)), .int .u64 a0_2, .int .u64 t105] ?_; (with_reducible refine (weighbridgeref24_Grow.calls a1_0 (IntKind.u64.wrap (a0_4 * 1000000000)) a0_2 t105 t106 t107 t108 _ A5.out).mono ?_); rintro e w17 ⟨rfl, hb⟩; refine ⟨_, rfl, ?_⟩; replace BK101 := zs BK101 hb; replace BK102 := zs BK102 hb; replace BK103 := zs BK103 hb; replace HB := zt HB hb; (try clear hb)) | ((with_reducible refine zd 10 rfl ?_); refine zb 10 #[.int .u64 0, .int .u64 0] 42 ?_; intro gb109 hg w18 hbox hb; have BK109 := zq3 (hbox); have GW109 := ze hg HB; have GE109 := GW109; have NB101_109 := zl hg BK101; have NB109_101 := zg hg BK101; have NB102_109 := zl hg BK102; have NB109_102 := zg hg BK102; have NB103_109 := zl hg BK103; have NB109_103 := zg hg BK103; replace BK101 := zs BK101 hb; replace BK102 := zs BK102 hb; replace BK103 := zs BK103 hb; replace HB := zt HB hb; clear hb hbox hg; have hnb19 := NB109_101.out; have hnc19 := NB101_109.out; have hnb20 := NB109_102.out; have hnc20 := NB102_109.out; have hnb21 := NB109_103.out; have hnc21 := NB103_109.out; obtain ⟨hc22_0, hc22_1⟩ := zc2 BK109; obtain ⟨hf22_0, hf22_1⟩ := zf2 BK109; obtain ⟨hc23_0, hc23_1, hc23_2, hc23_3⟩ := zc4 BK102; obtain ⟨hf23_0, hf23_1, hf23_2, hf23_3⟩ := zf4 BK102; obtain ⟨hc24_0, hc24_1, hc24_2, hc24_3, hc24_4, hc24_5⟩ := zc6 BK101; obtain ⟨hf24_0, hf24_1, hf24_2, hf24_3, hf24_4, hf24_5⟩ := zf6 BK101) | ((with_reducible refine gate_callee (f := 94) rfl ?_); refine zgo (some 43) Try.func94 #[.int .u64 a1_1, .int .u64 (IntKind.u64.wrap (a0_5 * 1000000000)), .int .u64 a0_3, .int .u64 t105] ?_; (with_reducible refine (weighbridgeref24_Grow.calls a1_1 (IntKind.u64.wrap (a0_5 * 1000000000)) a0_3 t105 t110 t111 t112 _ A6.out).mono ?_); rintro e w25 ⟨rfl, hb⟩; refine ⟨_, rfl, ?_⟩; replace BK101 := zsf BK101 hb; replace BK102 := zsf BK102 hb; replace BK103 := zsf BK103 hb; replace BK109 := zq3 (zq10 (o := .cells #[.int .u64 t107, .int .u64 t108] 42 (0, 0)) (zw2 BK109) hb); replace HB := zt HB hb; (try clear hb)) | ((with_reducible refine zd 12 rfl ?_); refine zb 12 #[.int .u64 0, .int .u64 0] 42 ?_; intro gb113 hg w26 hbox hb; have BK113 := zq3 (hbox); have GW113 := ze hg HB; have GE113 := GW113; have NB101_113 := zl hg BK101; have NB113_101 := zg hg BK101; have NB102_113 := zl hg BK102; have NB113_102 := zg hg BK102; have NB103_113 := zl hg BK103; have NB113_103 := zg hg BK103; have NB109_113 := zl hg BK109; have NB113_109 := zg hg BK109; replace BK101 := zs BK101 hb; replace BK102 := zs BK102 hb; replace BK103 := zs BK103 hb; replace BK109 := zs BK109 hb; replace HB := zt HB hb; clear hb hbox hg; have hnb27 := NB113_101.out; have hnc27 := NB101_113.out; have hnb28 := NB113_102.out; have hnc28 := NB102_113.out; have hnb29 := NB113_103.out; have hnc29 := NB103_113.out; have hnb30 := NB113_109.out; have hnc30 := NB109_113.out; obtain ⟨hc31_0, hc31_1⟩ := zc2 BK113; obtain ⟨hf31_0, hf31_1⟩ := zf2 BK113; obtain ⟨hc32_0, hc32_1, hc32_2, hc32_3⟩ := zc4 BK103; obtain ⟨hf32_0, hf32_1, hf32_2, hf32_3⟩ := zf4 BK103))
 refine bodyPost_ret (results_cell_row rfl _ _ gb103 51 #[.int .u64 t106, .int .u64 t110, .int .u64 t104, .bool true] (0, 0) _ rfl (zw4 BK103) Try.underlying51 rfl (by kernel_rfl)) rfl ?_
 exact ⟨by first | rfl | (simp [errW_none, errW_some] <;> rfl) | (simp [*, errW_none, errW_some] <;> rfl), zh HB⟩

end Go.Proofs.Ytiaoaoebghnpkaa.P
end
section
namespace Go.Proofs.Ytiaoaoebghnpkaa.P
open Go.RowKit Go.Proofs.YtiaoaoebghnpkaaW.PrintWords Go.Proofs.YtiaoaoebghnpkaaW.PrintLast Go.Proofs.YtiaoaoebghnpkaaW.PrintMore
attribute [local go_sem] max2_int min2_int max_two min_two max_three min_three max_four min_four   -- for this text's walks alone
set_option linter.unusedVariables false
set_option linter.unusedSimpArgs false

/-! ### weighbridgeref26_Colour: function 90 -/
def weighbridgeref26_Colour.f (a0 : Bool) (a1 : Int) : Option (Int) := if a0 = true then (if a1 < 0 then (some 2) else (if a1 > 2 then (some 2) else (some a1))) else (some 0)
set_option maxHeartbeats 8000000 in
set_option maxRecDepth 100000 in
theorem weighbridgeref26_Colour.calls (a0 : Bool) (a1 : Int) (r : Int) (w : World) (h : weighbridgeref26_Colour.f a0 a1 = some r) :
  Calls Try.prog 90 #[.bool a0, .int .i64 a1] w fun e w' => e = .returned (.int .i64 r) ∧ Below w.heap.size w w' := by
 have HB := zq3 (Below.refl w.heap.size w)
 have H : (if a0 = true then (if a1 < 0 then (some 2) else (if a1 > 2 then (some 2) else (some a1))) else (some 0)) = some r := h
 clear h
 by_cases c3 : a0 = true
 ·
  subst c3
  have H1 : (if a1 < 0 then (some 2) else (if a1 > 2 then (some 2) else (some a1))) = some r := by rw [if_pos rfl] at H; exact H
  clear H
  have H := H1
  clear H1
  by_cases c4 : a1 < 0
  ·
   rw [if_pos c4] at H
   have c4b0 : decide (a1 < 0) = true := decide_eq_true c4
   clear c4
   obtain rfl := Option.some.inj H
   go_enter Try.func90, Try.ntmps90
   go_wp2
   go_ret
   exact ⟨by first | rfl | (simp [errW_none, errW_some] <;> rfl) | (simp [*, errW_none, errW_some] <;> rfl), zh HB⟩
  ·
   rw [if_neg c4] at H
   have c4b0 : decide (a1 < 0) = false := decide_eq_false c4
   clear c4
   by_cases c5 : a1 > 2
   ·
    rw [if_pos c5] at H
    have c5b0 : decide (2 < a1) = true := decide_eq_true c5
    clear c5
    obtain rfl := Option.some.inj H
    go_enter Try.func90, Try.ntmps90
    go_wp2
    go_ret
    exact ⟨by first | rfl | (simp [errW_none, errW_some] <;> rfl) | (simp [*, errW_none, errW_some] <;> rfl), zh HB⟩
   ·
    rw [if_neg c5] at H
    have c5b0 : decide (2 < a1) = false := decide_eq_false c5
    clear c5
    obtain rfl := Option.some.inj H
    go_enter Try.func90, Try.ntmps90
    go_wp2
    go_ret
    exact ⟨by first | rfl | (simp [errW_none, errW_some] <;> rfl) | (simp [*, errW_none, errW_some] <;> rfl), zh HB⟩
 ·
  replace c3 := Bool.eq_false_iff.mpr c3
  subst c3
  have H1 : (some 0) = some r := by rw [if_neg (show ¬ (false = true) by decide)] at H; exact H
  clear H
  have H := H1
  clear H1
  obtain rfl := Option.some.inj H
  go_enter Try.func90, Try.ntmps90
  go_wp2
  go_ret
  exact ⟨by first | rfl | (simp [errW_none, errW_some] <;> rfl) | (simp [*, errW_none, errW_some] <;> rfl), zh HB⟩

end Go.Proofs.Ytiaoaoebghnpkaa.P
end
section
namespace Go.Proofs.Ytiaoaoebghnpkaa.P
open Go.RowKit Go.Proofs.YtiaoaoebghnpkaaW.PrintWords Go.Proofs.YtiaoaoebghnpkaaW.PrintLast Go.Proofs.YtiaoaoebghnpkaaW.PrintMore
attribute [local go_sem] max2_int min2_int max_two min_two max_three min_three max_four min_four   -- for this text's walks alone
set_option linter.unusedVariables false
set_option linter.unusedSimpArgs false

/-! ### weighbridgeref27_Step: function 85 -/
mutual
def weighbridgeref27_Step.j0 : Nat → Int → Int → Int → Bool → Int → Bool → Int → Int → Int → Int → Int → Int → Int → Bool → Option (Int × Int × Int × Bool × Int)
 | 0, _, _, _, _, _, _, _, _, _, _, _, _, _, _ => none
 | k + 1, x2, x3, x4, x24, x102000, x102001, x102002, x102003, x102004, x102005, x103000, x103001, x103002, x103003 => if x24 = true then (some (x103000, x103001, x103002, x103003, 2)) else ((weighbridgeref27_Later.f x102000 x102001 x102002 x102003 x102004 x102005 x103000 x103001 x103002 x103003 x2).bind fun bt105 => ((weighbridgeref26_Colour.f x102001 x4).bind fun t110 => ((weighbridgeref24_Take.f bt105.2.1 x3).bind fun bt111 => ((weighbridgeref24_Take.f bt105.1 x3).bind fun bt113 => (if t110 = 2 then (weighbridgeref27_Step.j1 k t110 bt111.1 bt113.1 bt113.2 true bt105.1 bt105.2.1 bt105.2.2.1 bt105.2.2.2) else (weighbridgeref27_Step.j1 k t110 bt111.1 bt113.1 bt113.2 (!bt111.2) bt105.1 bt105.2.1 bt105.2.2.1 bt105.2.2.2))))))
def weighbridgeref27_Step.j1 : Nat → Int → Int → Int → Bool → Bool → Int → Int → Int → Bool → Option (Int × Int × Int × Bool × Int)
 | 0, _, _, _, _, _, _, _, _, _ => none
 | k + 1, x13, x14, x16, x17, x53, x110000, x110001, x110002, x110003 => if x53 = true then (some (x110000, x110001, x110002, x110003, 2)) else (if x13 = 1 then (some (x110000, x14, x110002, x110003, 1)) else (if x17 = true then (some (x16, x14, x110002, x110003, 0)) else (some (x110000, x14, x110002, x110003, 1))))
end
def weighbridgeref27_Step.f (k : Nat) (a0_0 : Int) (a0_1 : Bool) (a0_2 : Int) (a0_3 : Int) (a0_4 : Int) (a0_5 : Int) (a1_0 : Int) (a1_1 : Int) (a1_2 : Int) (a1_3 : Bool) (a2 : Int) (a3 : Int) (a4 : Int) : Option (Int × Int × Int × Bool × Int) := (weighbridgeref27_Check.f k a0_0 a0_1 a0_2 a0_3 a0_4 a0_5).bind fun t104 => (if t104 = 0 then (weighbridgeref27_Step.j0 k a2 a3 a4 (decide (a3 < 0)) a0_0 a0_1 a0_2 a0_3 a0_4 a0_5 a1_0 a1_1 a1_2 a1_3) else (weighbridgeref27_Step.j0 k a2 a3 a4 true a0_0 a0_1 a0_2 a0_3 a0_4 a0_5 a1_0 a1_1 a1_2 a1_3))
set_option maxHeartbeats 8000000 in
set_option maxRecDepth 100000 in
theorem weighbridgeref27_Step.calls (k : Nat) (a0_0 : Int) (a0_1 : Bool) (a0_2 : Int) (a0_3 : Int) (a0_4 : Int) (a0_5 : Int) (a1_0 : Int) (a1_1 : Int) (a1_2 : Int) (a1_3 : Bool) (a2 : Int) (a3 : Int) (a4 : Int) (r1 : Int) (r2 : Int) (r3 : Int) (r4 : Bool) (r5 : Int) (w : World) (h : weighbridgeref27_Step.f k a0_0 a0_1 a0_2 a0_3 a0_4 a0_5 a1_0 a1_1 a1_2 a1_3 a2 a3 a4 = some (r1, r2, r3, r4, r5)) :
  Calls Try.prog 85 #[.agg #[.int .i64 a0_0, .bool a0_1, .int .u64 a0_2, .int .u64 a0_3, .int .u64 a0_4, .int .u64 a0_5], .agg #[.int .u64 a1_0, .int .u64 a1_1, .int .u64 a1_2, .bool a1_3], .int .u64 a2, .int .i64 a3, .int .i64 a4] w fun e w' => e = .returned (.tuple #[.agg #[.int .u64 r1, .int .u64 r2, .int .u64 r3, .bool r4], .int .i64 r5]) ∧ Below w.heap.size w w' := by
 have hu49 := Try.underlying49
 have hu51 := Try.underlying51
 have HB := zq3 (Below.refl w.heap.size w)
 have H : ((weighbridgeref27_Check.f k a0_0 a0_1 a0_2 a0_3 a0_4 a0_5).bind fun t104 => (if t104 = 0 then (weighbridgeref27_Step.j0 k a2 a3 a4 (decide (a3 < 0)) a0_0 a0_1 a0_2 a0_3 a0_4 a0_5 a1_0 a1_1 a1_2 a1_3) else (weighbridgeref27_Step.j0 k a2 a3 a4 true a0_0 a0_1 a0_2 a0_3 a0_4 a0_5 a1_0 a1_1 a1_2 a1_3))) = some (r1, r2, r3, r4, r5) := h
 clear h
 have HC6 := zq3 H
 clear H
 go_enter Try.func85, Try.ntmps85
 go_upto_region 1 with (first | ((with_reducible refine zd 5 rfl ?_); refine zb 5 #[.int .i64 a0_0, .bool a0_1, .int .u64 a0_2, .int .u64 a0_3, .int .u64 a0_4, .int .u64 a0_5] 49 ?_; intro gb101 hg w7 hbox hb; have BK101 := zq3 (hbox); have GW101 := ze hg HB; have GE101 := GW101; replace HB := zt HB hb; clear hb hbox hg) | ((with_reducible refine zd 6 rfl ?_); refine zb 6 #[.int .u64 a1_0, .int .u64 a1_1, .int .u64 a1_2, .bool a1_3] 51 ?_; intro gb102 hg w8 hbox hb; have BK102 := zq3 (hbox); have GW102 := ze hg HB; have GE102 := GW102; have NB101_102 := zl hg BK101; have NB102_101 := zg hg BK101; replace BK101 := zs BK101 hb; replace HB := zt HB hb; clear hb hbox hg) | ((with_reducible refine zd 10 rfl ?_); refine zb 10 #[.int .u64 0, .int .u64 0, .int .u64 0, .bool false] 51 ?_; intro gb103 hg w9 hbox hb; have BK103 := zq3 (hbox); have GW103 := ze hg HB; have GE103 := GW103; have NB101_103 := zl hg BK101; have NB103_101 := zg hg BK101; have NB102_103 := zl hg BK102; have NB103_102 := zg hg BK102; replace BK101 := zs BK101 hb; replace BK102 := zs BK102 hb; replace HB := zt HB hb; clear hb hbox hg))
 (try simp only [Act.put, List.setIfInBounds_toArray, List.set_cons_zero, List.set_cons_succ])
 go_cut [24] (fun v24 wc => ∃ (kq : Nat) (x24_5 : Bool), v24 = .bool x24_5 ∧ Aside0 (weighbridgeref27_Step.j0 kq a2 a3 a4 x24_5 a0_0 a0_1 a0_2 a0_3 a0_4 a0_5 a1_0 a1_1 a1_2 a1_3 = some (r1, r2, r3, r4, r5)) ∧ Aside0 (kq ≤ k) ∧ Aside0 (wc.heap[gb101]? = some (.cells #[.int .i64 a0_0, .bool a0_1, .int .u64 a0_2, .int .u64 a0_3, .int .u64 a0_4, .int .u64 a0_5] 49 (0, 0))) ∧ Aside0 (wc.heap[gb102]? = some (.cells #[.int .u64 a1_0, .int .u64 a1_1, .int .u64 a1_2, .bool a1_3] 51 (0, 0))) ∧ Aside0 (wc.heap[gb103]? = some (.cells #[.int .u64 0, .int .u64 0, .int .u64 0, .bool false] 51 (0, 0))) ∧ Aside0 (Below w.heap.size w wc))
 case first =>
  have H := HC6.out
  clear HC6
  replace H := Option.bind_eq_some_iff.mp H
  obtain ⟨t104, A100, H⟩ := H
  replace H : (if t104 = 0 then (weighbridgeref27_Step.j0 k a2 a3 a4 (decide (a3 < 0)) a0_0 a0_1 a0_2 a0_3 a0_4 a0_5 a1_0 a1_1 a1_2 a1_3) else (weighbridgeref27_Step.j0 k a2 a3 a4 true a0_0 a0_1 a0_2 a0_3 a0_4 a0_5 a1_0 a1_1 a1_2 a1_3)) = some (r1, r2, r3, r4, r5) := H
  have A10 := zq3 A100
  clear A100
  by_cases c11 : t104 = 0
  ·
   rw [if_pos c11] at H
   have c11b0 : (t104 == 0) = true := beq_iff_eq.mpr c11
   have c11b1 : (t104 != 0) = false := bne_eq_false_iff_eq.mpr c11
   clear c11
   (first | rw [c11b0] | (simp only [i64_w, i32_w]; rw [c11b0]) | skip)
   have H' := zq3 H
   clear H
   have hnb12 := NB101_102.out
   have hnc12 := NB102_101.out
   have hnb13 := NB101_103.out
   have hnc13 := NB103_101.out
   obtain ⟨hc14_0, hc14_1, hc14_2, hc14_3, hc14_4, hc14_5⟩ := zc6 BK101
   obtain ⟨hf14_0, hf14_1, hf14_2, hf14_3, hf14_4, hf14_5⟩ := zf6 BK101
   go_wp2_with (first | ((with_reducible refine gate_callee (f := 77) rfl ?_); refine zgo (some 19) Try.func77 #[.agg #[.int .i64 a0_0, .bool a0_1, .int .u64 a0_2, .int .u64 a0_3, .int .u64 a0_4, .int .u64 a0_5]] ?_; (with_reducible refine (weighbridgeref27_Check.calls k a0_0 a0_1 a0_2 a0_3 a0_4 a0_5 t104 _ A10.out).mono ?_); rintro e w15 ⟨rfl, hb⟩; refine ⟨_, rfl, ?_⟩; replace BK101 := zs BK101 hb; replace BK102 := zs BK102 hb; replace BK103 := zs BK103 hb; replace HB := zt HB hb; (try clear hb)))
   go_meet
   case rel => exact ⟨_, (decide (a3 < 0)), (by first | rfl | (simp; done) | (simp [*]; done)), H', ⟨by first | omega | exact Nat.le_refl _⟩, ⟨zw BK101⟩, ⟨zw BK102⟩, ⟨zw BK103⟩, ⟨zh HB⟩⟩
  ·
   rw [if_neg c11] at H
   have c11b0 : (t104 == 0) = false := beq_eq_false_iff_ne.mpr c11
   have c11b1 : (t104 != 0) = true := bne_iff_ne.mpr c11
   (first | rw [c11b0] | (simp only [i64_w, i32_w]; rw [c11b0]) | skip)
   have H' := zq3 H
   clear H
   have hnb16 := NB101_102.out
   have hnc16 := NB102_101.out
   have hnb17 := NB101_103.out
   have hnc17 := NB103_101.out
   obtain ⟨hc18_0, hc18_1, hc18_2, hc18_3, hc18_4, hc18_5⟩ := zc6 BK101
   obtain ⟨hf18_0, hf18_1, hf18_2, hf18_3, hf18_4, hf18_5⟩ := zf6 BK101
   go_wp2_with (first | ((with_reducible refine gate_callee (f := 77) rfl ?_); refine zgo (some 19) Try.func77 #[.agg #[.int .i64 a0_0, .bool a0_1, .int .u64 a0_2, .int .u64 a0_3, .int .u64 a0_4, .int .u64 a0_5]] ?_; (with_reducible refine (weighbridgeref27_Check.calls k a0_0 a0_1 a0_2 a0_3 a0_4 a0_5 t104 _ A10.out).mono ?_); rintro e w19 ⟨rfl, hb⟩; refine ⟨_, rfl, ?_⟩; replace BK101 := zs BK101 hb; replace BK102 := zs BK102 hb; replace BK103 := zs BK103 hb; replace HB := zt HB hb; (try clear hb)))
   go_meet
   case rel => exact ⟨_, (true), (by first | rfl | (simp; done) | (simp [*]; done)), H', ⟨by first | omega | exact Nat.le_refl _⟩, ⟨zw BK101⟩, ⟨zw BK102⟩, ⟨zw BK103⟩, ⟨zh HB⟩⟩
 case rest =>
  clear HC6
  (try clear c1); (try clear p2); (try clear c7); (try clear c8); (try clear c11); (try clear c11b0); (try clear c11b1); (try clear c12); (try clear c13); (try clear c16); (try clear c17)
  try clear hc14_0 hc14_1 hc14_2 hc14_3 hc14_4 hc14_5 hc18_0 hc18_1 hc18_2 hc18_3 hc18_4 hc18_5 hf14_0 hf14_1 hf14_2 hf14_3 hf14_4 hf14_5 hf18_0 hf18_1 hf18_2 hf18_3 hf18_4 hf18_5
  obtain ⟨kq, x24_5, rfl, HA, HJ5, BK101, BK102, BK103, HB⟩ := hcut
  cases kq with
  | zero => exact absurd HA.out (by simp [weighbridgeref27_Step.j0])
  | succ kj5 =>
   have H := HA.out
   clear HA
   simp only [weighbridgeref27_Step.j0] at H
   by_cases c20 : x24_5 = true
   ·
    subst c20
    have H1 : (some (a1_0, a1_1, a1_2, a1_3, 2)) = some (r1, r2, r3, r4, r5) := by rw [if_pos rfl] at H; exact H
    clear H
    have H := H1
    clear H1
    simp only [Option.some.injEq, Prod.mk.injEq] at H
    obtain ⟨rfl, rfl, rfl, rfl, rfl⟩ := H
    have hnb21 := NB102_101.out
    have hnc21 := NB101_102.out
    have hnb22 := NB102_103.out
    have hnc22 := NB103_102.out
    obtain ⟨hc23_0, hc23_1, hc23_2, hc23_3⟩ := zc4 BK102
    obtain ⟨hf23_0, hf23_1, hf23_2, hf23_3⟩ := zf4 BK102
    have hnb24 := NB103_101.out
    have hnc24 := NB101_103.out
    obtain ⟨hc25_0, hc25_1, hc25_2, hc25_3⟩ := zc4 BK103
    obtain ⟨hf25_0, hf25_1, hf25_2, hf25_3⟩ := zf4 BK103
    go_wp2
    refine bodyPost_ret (results_ct rfl _ _ gb103 51 #[.int .u64 a1_0, .int .u64 a1_1, .int .u64 a1_2, .bool a1_3] (0, 0) _ rfl (zw4 BK103) Try.underlying51 rfl (by kernel_rfl)) rfl ?_
    exact ⟨by first | rfl | (simp [errW_none, errW_some] <;> rfl) | (simp [*, errW_none, errW_some] <;> rfl), zh HB⟩
   ·
    replace c20 := Bool.eq_false_iff.mpr c20
    subst c20
    have H1 : ((weighbridgeref27_Later.f a0_0 a0_1 a0_2 a0_3 a0_4 a0_5 a1_0 a1_1 a1_2 a1_3 a2).bind fun bt105 => ((weighbridgeref26_Colour.f a0_1 a4).bind fun t110 => ((weighbridgeref24_Take.f bt105.2.1 a3).bind fun bt111 => ((weighbridgeref24_Take.f bt105.1 a3).bind fun bt113 => (if t110 = 2 then (weighbridgeref27_Step.j1 kj5 t110 bt111.1 bt113.1 bt113.2 true bt105.1 bt105.2.1 bt105.2.2.1 bt105.2.2.2) else (weighbridgeref27_Step.j1 kj5 t110 bt111.1 bt113.1 bt113.2 (!bt111.2) bt105.1 bt105.2.1 bt105.2.2.1 bt105.2.2.2)))))) = some (r1, r2, r3, r4, r5) := by rw [if_neg (show ¬ (false = true) by decide)] at H; exact H
    clear H
    have H := H1
    clear H1
    replace H := Option.bind_eq_some_iff.mp H
    obtain ⟨⟨t105, t106, t107, t108⟩, A260, H⟩ := H
    replace H : ((weighbridgeref26_Colour.f a0_1 a4).bind fun t110 => ((weighbridgeref24_Take.f t106 a3).bind fun bt111 => ((weighbridgeref24_Take.f t105 a3).bind fun bt113 => (if t110 = 2 then (weighbridgeref27_Step.j1 kj5 t110 bt111.1 bt113.1 bt113.2 true t105 t106 t107 t108) else (weighbridgeref27_Step.j1 kj5 t110 bt111.1 bt113.1 bt113.2 (!bt111.2) t105 t106 t107 t108))))) = some (r1, r2, r3, r4, r5) := H
    have A26 := zq3 A260
    clear A260
    replace H := Option.bind_eq_some_iff.mp H
    obtain ⟨t110, A270, H⟩ := H
    replace H : ((weighbridgeref24_Take.f t106 a3).bind fun bt111 => ((weighbridgeref24_Take.f t105 a3).bind fun bt113 => (if t110 = 2 then (weighbridgeref27_Step.j1 kj5 t110 bt111.1 bt113.1 bt113.2 true t105 t106 t107 t108) else (weighbridgeref27_Step.j1 kj5 t110 bt111.1 bt113.1 bt113.2 (!bt111.2) t105 t106 t107 t108)))) = some (r1, r2, r3, r4, r5) := H
    have A27 := zq3 A270
    clear A270
    replace H := Option.bind_eq_some_iff.mp H
    obtain ⟨⟨t111, t112⟩, A280, H⟩ := H
    replace H : ((weighbridgeref24_Take.f t105 a3).bind fun bt113 => (if t110 = 2 then (weighbridgeref27_Step.j1 kj5 t110 t111 bt113.1 bt113.2 true t105 t106 t107 t108) else (weighbridgeref27_Step.j1 kj5 t110 t111 bt113.1 bt113.2 (!t112) t105 t106 t107 t108))) = some (r1, r2, r3, r4, r5) := H
    have A28 := zq3 A280
    clear A280
    replace H := Option.bind_eq_some_iff.mp H
    obtain ⟨⟨t113, t114⟩, A290, H⟩ := H
    replace H : (if t110 = 2 then (weighbridgeref27_Step.j1 kj5 t110 t111 t113 t114 true t105 t106 t107 t108) else (weighbridgeref27_Step.j1 kj5 t110 t111 t113 t114 (!t112) t105 t106 t107 t108)) = some (r1, r2, r3, r4, r5) := H
    have A29 := zq3 A290
    clear A290
    have HC30 := zq3 H
    clear H
    have hnb31 := NB101_102.out
    have hnc31 := NB102_101.out
    have hnb32 := NB101_103.out
    have hnc32 := NB103_101.out
    obtain ⟨hc33_0, hc33_1, hc33_2, hc33_3, hc33_4, hc33_5⟩ := zc6 BK101
    obtain ⟨hf33_0, hf33_1, hf33_2, hf33_3, hf33_4, hf33_5⟩ := zf6 BK101
    have hnb34 := NB102_103.out
    have hnc34 := NB103_102.out
    obtain ⟨hc35_0, hc35_1, hc35_2, hc35_3⟩ := zc4 BK102
    obtain ⟨hf35_0, hf35_1, hf35_2, hf35_3⟩ := zf4 BK102
    go_upto_region 7 with (first | ((with_reducible refine gate_callee (f := 89) rfl ?_); refine zgo (some 29) Try.func89 #[.agg #[.int .i64 a0_0, .bool a0_1, .int .u64 a0_2, .int .u64 a0_3, .int .u64 a0_4, .int .u64 a0_5], .agg #[.int .u64 a1_0, .int .u64 a1_1, .int .u64 a1_2, .bool a1_3], .int .u64 a2] ?_; (with_reducible refine (weighbridgeref27_Later.calls a0_0 a0_1 a0_2 a0_3 a0_4 a0_5 a1_0 a1_1 a1_2 a1_3 a2 t105 t106 t107 t108 _ A26.out).mono ?_); rintro e w36 ⟨rfl, hb⟩; refine ⟨_, rfl, ?_⟩; replace BK101 := zs BK101 hb; replace BK102 := zs BK102 hb; replace BK103 := zs BK103 hb; replace HB := zt HB hb; (try clear hb)) | ((with_reducible refine zd 12 rfl ?_); refine zb 12 #[.int .u64 0, .int .u64 0, .int .u64 0, .bool false] 51 ?_; intro gb109 hg w37 hbox hb; have BK109 := zq3 (hbox); have GW109 := ze hg HB; have GE109 := GW109; have NB101_109 := zl hg BK101; have NB109_101 := zg hg BK101; have NB102_109 := zl hg BK102; have NB109_102 := zg hg BK102; have NB103_109 := zl hg BK103; have NB109_103 := zg hg BK103; replace BK101 := zs BK101 hb; replace BK102 := zs BK102 hb; replace BK103 := zs BK103 hb; replace HB := zt HB hb; clear hb hbox hg; have hnb38 := NB109_101.out; have hnc38 := NB101_109.out; have hnb39 := NB109_102.out; have hnc39 := NB102_109.out; have hnb40 := NB109_103.out; have hnc40 := NB103_109.out; obtain ⟨hc41_0, hc41_1, hc41_2, hc41_3⟩ := zc4 BK109; obtain ⟨hf41_0, hf41_1, hf41_2, hf41_3⟩ := zf4 BK109; obtain ⟨hc42_0, hc42_1, hc42_2, hc42_3, hc42_4, hc42_5⟩ := zc6 BK101; obtain ⟨hf42_0, hf42_1, hf42_2, hf42_3, hf42_4, hf42_5⟩ := zf6 BK101) | ((with_reducible refine gate_callee (f := 90) rfl ?_); refine zgo (some 33) Try.func90 #[.bool a0_1, .int .i64 a4] ?_; (with_reducible refine (weighbridgeref26_Colour.calls a0_1 a4 t110 _ A27.out).mono ?_); rintro e w43 ⟨rfl, hb⟩; refine ⟨_, rfl, ?_⟩; replace BK101 := zsf BK101 hb; replace BK102 := zsf BK102 hb; replace BK103 := zsf BK103 hb; replace BK109 := zq3 (zq10 (o := .cells #[.int .u64 t105, .int .u64 t106, .int .u64 t107, .bool t108] 51 (0, 0)) (zw4 BK109) hb); replace HB := zt HB hb; (try clear hb); obtain ⟨hc44_0, hc44_1, hc44_2, hc44_3⟩ := zc4 BK109; obtain ⟨hf44_0, hf44_1, hf44_2, hf44_3⟩ := zf4 BK109) | ((with_reducible refine gate_callee (f := 91) rfl ?_); refine zgo (some 38) Try.func91 #[.int .u64 t106, .int .i64 a3] ?_; (with_reducible refine (weighbridgeref24_Take.calls t106 a3 t111 t112 _ A28.out).mono ?_); rintro e w45 ⟨rfl, hb⟩; refine ⟨_, rfl, ?_⟩; replace BK101 := zs BK101 hb; replace BK102 := zs BK102 hb; replace BK103 := zs BK103 hb; replace BK109 := zs BK109 hb; replace HB := zt HB hb; (try clear hb); obtain ⟨hc46_0, hc46_1, hc46_2, hc46_3⟩ := zc4 BK109; obtain ⟨hf46_0, hf46_1, hf46_2, hf46_3⟩ := zf4 BK109) | ((with_reducible refine gate_callee (f := 91) rfl ?_); refine zgo (some 45) Try.func91 #[.int .u64 t105, .int .i64 a3] ?_; (with_reducible refine (weighbridgeref24_Take.calls t105 a3 t113 t114 _ A29.out).mono ?_); rintro e w47 ⟨rfl, hb⟩; refine ⟨_, rfl, ?_⟩; replace BK101 := zs BK101 hb; replace BK102 := zs BK102 hb; replace BK103 := zs BK103 hb; replace BK109 := zs BK109 hb; replace HB := zt HB hb; (try clear hb)))
    (try simp only [Act.put, List.setIfInBounds_toArray, List.set_cons_zero, List.set_cons_succ])
    go_cut [53] (fun v53 wc => ∃ (kq : Nat) (x53_29 : Bool), v53 = .bool x53_29 ∧ Aside0 (weighbridgeref27_Step.j1 kq t110 t111 t113 t114 x53_29 t105 t106 t107 t108 = some (r1, r2, r3, r4, r5)) ∧ Aside0 (kq ≤ kj5) ∧ Aside0 (wc.heap[gb101]? = some (.cells #[.int .i64 a0_0, .bool a0_1, .int .u64 a0_2, .int .u64 a0_3, .int .u64 a0_4, .int .u64 a0_5] 49 (0, 0))) ∧ Aside0 (wc.heap[gb102]? = some (.cells #[.int .u64 a1_0, .int .u64 a1_1, .int .u64 a1_2, .bool a1_3] 51 (0, 0))) ∧ Aside0 (wc.heap[gb103]? = some (.cells #[.int .u64 0, .int .u64 0, .int .u64 0, .bool false] 51 (0, 0))) ∧ Aside0 (wc.heap[gb109]? = some (.cells #[.int .u64 t105, .int .u64 t106, .int .u64 t107, .bool t108] 51 (0, 0))) ∧ Aside0 (Below w.heap.size w wc))
    case first =>
     have H := HC30.out
     clear HC30
     by_cases c48 : t110 = 2
     ·
      rw [if_pos c48] at H
      have c48b0 : (t110 == 2) = true := beq_iff_eq.mpr c48
      have c48b1 : (t110 != 2) = false := bne_eq_false_iff_eq.mpr c48
      clear c48
      (first | rw [c48b0] | (simp only [i64_w, i32_w]; rw [c48b0]) | skip)
      have H' := zq3 H
      clear H
      go_wp2
      go_meet
      case rel => exact ⟨_, (true), (by first | rfl | (simp; done) | (simp [*]; done)), H', ⟨by have := HJ5.out; first | omega | exact Nat.le_refl _⟩, ⟨zw BK101⟩, ⟨zw BK102⟩, ⟨zw BK103⟩, ⟨zw BK109⟩, ⟨zh HB⟩⟩
     ·
      rw [if_neg c48] at H
      have c48b0 : (t110 == 2) = false := beq_eq_false_iff_ne.mpr c48
      have c48b1 : (t110 != 2) = true := bne_iff_ne.mpr c48
      (first | rw [c48b0] | (simp only [i64_w, i32_w]; rw [c48b0]) | skip)
      have H' := zq3 H
      clear H
      go_wp2
      go_meet
      case rel => exact ⟨_, (!t112), (by first | rfl | (simp; done) | (simp [*]; done)), H', ⟨by have := HJ5.out; first | omega | exact Nat.le_refl _⟩, ⟨zw BK101⟩, ⟨zw BK102⟩, ⟨zw BK103⟩, ⟨zw BK109⟩, ⟨zh HB⟩⟩
    case rest =>
     clear HC30
     (try clear c1); (try clear c2); (try clear p2); (try clear c3); (try clear c4); (try clear c7); (try clear c8); (try clear c9); (try clear c11); (try clear c11b0); (try clear c11b1); (try clear c12); (try clear c13); (try clear c16); (try clear c17); (try clear c20); (try clear c21); (try clear c22); (try clear c24); (try clear c31); (try clear c32); (try clear c34); (try clear c38); (try clear c39); (try clear c40); (try clear c48); (try clear c48b0); (try clear c48b1)
     try clear hc14_0 hc14_1 hc14_2 hc14_3 hc14_4 hc14_5 hc18_0 hc18_1 hc18_2 hc18_3 hc18_4 hc18_5 hc23_0 hc23_1 hc23_2 hc23_3 hc25_0 hc25_1 hc25_2 hc25_3 hc33_0 hc33_1 hc33_2 hc33_3 hc33_4 hc33_5 hc35_0 hc35_1 hc35_2 hc35_3 hc41_0 hc41_1 hc41_2 hc41_3 hc42_0 hc42_1 hc42_2 hc42_3 hc42_4 hc42_5 hc44_0 hc44_1 hc44_2 hc44_3 hc46_0 hc46_1 hc46_2 hc46_3 hf14_0 hf14_1 hf14_2 hf14_3 hf14_4 hf14_5 hf18_0 hf18_1 hf18_2 hf18_3 hf18_4 hf18_5 hf23_0 hf23_1 hf23_2 hf23_3 hf25_0 hf25_1 hf25_2 hf25_3 hf33_0 hf33_1 hf33_2 hf33_3 hf33_4 hf33_5 hf35_0 hf35_1 hf35_2 hf35_3 hf41_0 hf41_1 hf41_2 hf41_3 hf42_0 hf42_1 hf42_2 hf42_3 hf42_4 hf42_5 hf44_0 hf44_1 hf44_2 hf44_3 hf46_0 hf46_1 hf46_2 hf46_3
     (try clear p2)
     obtain ⟨kq, x53_29, rfl, HA, HJ29, BK101, BK102, BK103, BK109, HB⟩ := hcut
     cases kq with
     | zero => exact absurd HA.out (by simp [weighbridgeref27_Step.j1])
     | succ kj29 =>
      have H := HA.out
      clear HA
      simp only [weighbridgeref27_Step.j1] at H
      by_cases c49 : x53_29 = true
      ·
       subst c49
       have H1 : (some (t105, t106, t107, t108, 2)) = some (r1, r2, r3, r4, r5) := by rw [if_pos rfl] at H; exact H
       clear H
       have H := H1
       clear H1
       simp only [Option.some.injEq, Prod.mk.injEq] at H
       obtain ⟨rfl, rfl, rfl, rfl, rfl⟩ := H
       have hnb50 := NB109_101.out
       have hnc50 := NB101_109.out
       have hnb51 := NB109_102.out
       have hnc51 := NB102_109.out
       have hnb52 := NB109_103.out
       have hnc52 := NB103_109.out
       obtain ⟨hc53_0, hc53_1, hc53_2, hc53_3⟩ := zc4 BK109
       obtain ⟨hf53_0, hf53_1, hf53_2, hf53_3⟩ := zf4 BK109
       have hnb54 := NB103_101.out
       have hnc54 := NB101_103.out
       have hnb55 := NB103_102.out
       have hnc55 := NB102_103.out
       obtain ⟨hc56_0, hc56_1, hc56_2, hc56_3⟩ := zc4 BK103
       obtain ⟨hf56_0, hf56_1, hf56_2, hf56_3⟩ := zf4 BK103
       go_wp2
       refine bodyPost_ret (results_ct rfl _ _ gb103 51 #[.int .u64 t105, .int .u64 t106, .int .u64 t107, .bool t108] (0, 0) _ rfl (zw4 BK103) Try.underlying51 rfl (by kernel_rfl)) rfl ?_
       exact ⟨by first | rfl | (simp [errW_none, errW_some] <;> rfl) | (simp [*, errW_none, errW_some] <;> rfl), zh HB⟩
      ·
       replace c49 := Bool.eq_false_iff.mpr c49
       subst c49
       have H1 : (if t110 = 1 then (some (t105, t111, t107, t108, 1)) else (if t114 = true then (some (t113, t111, t107, t108, 0)) else (some (t105, t111, t107, t108, 1)))) = some (r1, r2, r3, r4, r5) := by rw [if_neg (show ¬ (false = true) by decide)] at H; exact H
       clear H
       have H := H1
       clear H1
       by_cases c57 : t110 = 1
       ·
        rw [if_pos c57] at H
        have c57b0 : (t110 == 1) = true := beq_iff_eq.mpr c57
        have c57b1 : (t110 != 1) = false := bne_eq_false_iff_eq.mpr c57
        clear c57
        simp only [Option.some.injEq, Prod.mk.injEq] at H
        obtain ⟨rfl, rfl, rfl, rfl, rfl⟩ := H
        have hnb58 := NB109_101.out
        have hnc58 := NB101_109.out
        have hnb59 := NB109_102.out
        have hnc59 := NB102_109.out
        have hnb60 := NB109_103.out
        have hnc60 := NB103_109.out
        obtain ⟨hc61_0, hc61_1, hc61_2, hc61_3⟩ := zc4 BK109
        obtain ⟨hf61_0, hf61_1, hf61_2, hf61_3⟩ := zf4 BK109
        have hnb62 := NB103_101.out
        have hnc62 := NB101_103.out
        have hnb63 := NB103_102.out
        have hnc63 := NB102_103.out
        obtain ⟨hc64_0, hc64_1, hc64_2, hc64_3⟩ := zc4 BK103
        obtain ⟨hf64_0, hf64_1, hf64_2, hf64_3⟩ := zf4 BK103
        go_wp2
        refine bodyPost_ret (results_ct rfl _ _ gb103 51 #[.int .u64 t105, .int .u64 t111, .int .u64 t107, .bool t108] (0, 0) _ rfl (zw4 BK103) Try.underlying51 rfl (by kernel_rfl)) rfl ?_
        exact ⟨by first | rfl | (simp [errW_none, errW_some] <;> rfl) | (simp [*, errW_none, errW_some] <;> rfl), zh HB⟩
       ·
        rw [if_neg c57] at H
        have c57b0 : (t110 == 1) = false := beq_eq_false_iff_ne.mpr c57
        have c57b1 : (t110 != 1) = true := bne_iff_ne.mpr c57
        by_cases c65 : t114 = true
        ·
         subst c65
         have H1 : (some (t113, t111, t107, t108, 0)) = some (r1, r2, r3, r4, r5) := by rw [if_pos rfl] at H; exact H
         clear H
         have H := H1
         clear H1
         simp only [Option.some.injEq, Prod.mk.injEq] at H
         obtain ⟨rfl, rfl, rfl, rfl, rfl⟩ := H
         have hnb66 := NB109_101.out
         have hnc66 := NB101_109.out
         have hnb67 := NB109_102.out
         have hnc67 := NB102_109.out
         have hnb68 := NB109_103.out
         have hnc68 := NB103_109.out
         obtain ⟨hc69_0, hc69_1, hc69_2, hc69_3⟩ := zc4 BK109
         obtain ⟨hf69_0, hf69_1, hf69_2, hf69_3⟩ := zf4 BK109
         have hnb70 := NB103_101.out
         have hnc70 := NB101_103.out
         have hnb71 := NB103_102.out
         have hnc71 := NB102_103.out
         obtain ⟨hc72_0, hc72_1, hc72_2, hc72_3⟩ := zc4 BK103
         obtain ⟨hf72_0, hf72_1, hf72_2, hf72_3⟩ := zf4 BK103
         go_wp2
         refine bodyPost_ret (results_ct rfl _ _ gb103 51 #[.int .u64 t113, .int .u64 t111, .int .u64 t107, .bool t108] (0, 0) _ rfl (zw4 BK103) Try.underlying51 rfl (by kernel_rfl)) rfl ?_
         exact ⟨by first | rfl | (simp [errW_none, errW_some] <;> rfl) | (simp [*, errW_none, errW_some] <;> rfl), zh HB⟩
        ·
         replace c65 := Bool.eq_false_iff.mpr c65
         subst c65
         have H1 : (some (t105, t111, t107, t108, 1)) = some (r1, r2, r3, r4, r5) := by rw [if_neg (show ¬ (false = true) by decide)] at H; exact H
         clear H
         have H := H1
         clear H1
         simp only [Option.some.injEq, Prod.mk.injEq] at H
         obtain ⟨rfl, rfl, rfl, rfl, rfl⟩ := H
         have hnb73 := NB109_101.out
         have hnc73 := NB101_109.out
         have hnb74 := NB109_102.out
         have hnc74 := NB102_109.out
         have hnb75 := NB109_103.out
         have hnc75 := NB103_109.out
         obtain ⟨hc76_0, hc76_1, hc76_2, hc76_3⟩ := zc4 BK109
         obtain ⟨hf76_0, hf76_1, hf76_2, hf76_3⟩ := zf4 BK109
         have hnb77 := NB103_101.out
         have hnc77 := NB101_103.out
         have hnb78 := NB103_102.out
         have hnc78 := NB102_103.out
         obtain ⟨hc79_0, hc79_1, hc79_2, hc79_3⟩ := zc4 BK103
         obtain ⟨hf79_0, hf79_1, hf79_2, hf79_3⟩ := zf4 BK103
         go_wp2
         refine bodyPost_ret (results_ct rfl _ _ gb103 51 #[.int .u64 t105, .int .u64 t111, .int .u64 t107, .bool t108] (0, 0) _ rfl (zw4 BK103) Try.underlying51 rfl (by kernel_rfl)) rfl ?_
         exact ⟨by first | rfl | (simp [errW_none, errW_some] <;> rfl) | (simp [*, errW_none, errW_some] <;> rfl), zh HB⟩

end Go.Proofs.Ytiaoaoebghnpkaa.P
end
