/- Parts of the proof, in one text. -/
import Derived.Test.YtiaoaoebghnpkaaKP10
import Derived.Test.YtiaoaoebghnpkaaKP11
section
namespace Go.Proofs.Ytiaoaoebghnpkaa.P
open Go.RowKit Go.Proofs.YtiaoaoebghnpkaaW.PrintWords Go.Proofs.YtiaoaoebghnpkaaW.PrintLast Go.Proofs.YtiaoaoebghnpkaaW.PrintMore
attribute [local go_sem] max2_int min2_int max_two min_two max_three min_three max_four min_four   -- for this text's walks alone
set_option linter.unusedVariables false
set_option linter.unusedSimpArgs false

/-! ### wide_twice: function 72 -/
def wide_twice.f (a0_0 : Int) (a0_1 : Int) (a1 : Int) : Option (Int × Int) := some (Go.bits .or .u64 (IntKind.u64.wrap (a0_0 * 2)) (a0_1 / 9223372036854775808), Go.bits .or .u64 (IntKind.u64.wrap (a0_1 * 2)) a1)
set_option maxHeartbeats 8000000 in
set_option maxRecDepth 100000 in
theorem wide_twice.calls (a0_0 : Int) (a0_1 : Int) (a1 : Int) (r1 : Int) (r2 : Int) (w : World) (h : wide_twice.f a0_0 a0_1 a1 = some (r1, r2)) :
  Calls Try.prog 72 #[.agg #[.int .u64 a0_0, .int .u64 a0_1], .int .u64 a1] w fun e w' => e = .returned (.agg #[.int .u64 r1, .int .u64 r2]) ∧ Below w.heap.size w w' := by
 have hu42 := Try.underlying42
 have HB := zq3 (Below.refl w.heap.size w)
 have H : (some (Go.bits .or .u64 (IntKind.u64.wrap (a0_0 * 2)) (a0_1 / 9223372036854775808), Go.bits .or .u64 (IntKind.u64.wrap (a0_1 * 2)) a1)) = some (r1, r2) := h
 clear h
 simp only [Option.some.injEq, Prod.mk.injEq] at H
 obtain ⟨rfl, rfl⟩ := H
 go_enter Try.func72, Try.ntmps72
 go_wp2_with (first | ((with_reducible refine zd 2 rfl ?_); refine zb 2 #[.int .u64 a0_0, .int .u64 a0_1] 42 ?_; intro gb101 hg w3 hbox hb; have BK101 := zq3 (hbox); have GW101 := ze hg HB; have GE101 := GW101; replace HB := zt HB hb; clear hb hbox hg) | ((with_reducible refine zd 4 rfl ?_); refine zb 4 #[.int .u64 0, .int .u64 0] 42 ?_; intro gb102 hg w4 hbox hb; have BK102 := zq3 (hbox); have GW102 := ze hg HB; have GE102 := GW102; have NB101_102 := zl hg BK101; have NB102_101 := zg hg BK101; replace BK101 := zs BK101 hb; replace HB := zt HB hb; clear hb hbox hg; have hnb5 := NB101_102.out; have hnc5 := NB102_101.out; obtain ⟨hc6_0, hc6_1⟩ := zc2 BK101; obtain ⟨hf6_0, hf6_1⟩ := zf2 BK101; obtain ⟨hc7_0, hc7_1⟩ := zc2 BK102; obtain ⟨hf7_0, hf7_1⟩ := zf2 BK102))
 refine bodyPost_ret (results_cell_row rfl _ _ gb102 42 #[.int .u64 (Go.bits .or .u64 (IntKind.u64.wrap (a0_0 * 2)) (a0_1 / 9223372036854775808)), .int .u64 (Go.bits .or .u64 (IntKind.u64.wrap (a0_1 * 2)) a1)] (0, 0) _ rfl (zw2 BK102) Try.underlying42 rfl (by kernel_rfl)) rfl ?_
 exact ⟨by first | rfl | (simp [errW_none, errW_some] <;> rfl) | (simp [*, errW_none, errW_some] <;> rfl), zh HB⟩

end Go.Proofs.Ytiaoaoebghnpkaa.P
end
section
namespace Go.Proofs.Ytiaoaoebghnpkaa.P
open Go.RowKit Go.Proofs.YtiaoaoebghnpkaaW.PrintWords Go.Proofs.YtiaoaoebghnpkaaW.PrintLast Go.Proofs.YtiaoaoebghnpkaaW.PrintMore
attribute [local go_sem] max2_int min2_int max_two min_two max_three min_three max_four min_four   -- for this text's walks alone
set_option linter.unusedVariables false
set_option linter.unusedSimpArgs false

/-! ### wide_Div: function 44 -/
def wide_Div.l0 : Nat → Int → Int → Int → Int → Int → Int → Int → Int → Option (Int × Int × Int)
 | 0, _, _, _, _, _, _, _, _ => none
 | k + 1, x1, x8, x102000, x102001, x104000, x104001, x105000, x105001 => if x8 ≥ 0 then (if 0 ≤ (IntKind.u64.wrap (x8)) then ((wide_twice.f x105000 x105001 (Go.bits .and .u64 (shr .u64 x102001 (IntKind.u64.wrap (x8))) 1)).bind fun bt105 => ((wide_Of.f x1).bind fun bt107 => ((wide_Less.f bt105.1 bt105.2 bt107.1 bt107.2).bind fun t109 => (if t109 = true then (wide_Div.l0 k x1 (wrap64 (x8 - 1)) x102000 x102001 x104000 (IntKind.u64.wrap (x104001 * 2)) bt105.1 bt105.2) else ((wide_Of.f x1).bind fun bt110 => ((wide_Sub.f bt105.1 bt105.2 bt110.1 bt110.2).bind fun bt112 => (wide_Div.l0 k x1 (wrap64 (x8 - 1)) x102000 x102001 x104000 (Go.bits .or .u64 (IntKind.u64.wrap (x104001 * 2)) 1) bt112.1 bt112.2.1))))))) else (none)) else (some (x104000, x104001, x105001))
def wide_Div.f (k : Nat) (a0_0 : Int) (a0_1 : Int) (a1 : Int) : Option (Int × Int × Int) := if a1 = 0 then (some (0, 0, 0)) else (wide_Div.l0 k a1 63 a0_0 a0_1 (IntKind.u64.wrap (Int.tdiv a0_0 a1)) 0 0 (Int.tmod a0_0 a1))
def wide_Div.T11 : Bool × List (List Nat × List Nat) := (true, [([], []), ([], []), ([1], [1]), ([0, 2, 2], [0, 2]), ([3], [3]), ([4], [4]), ([4], [4]), ([5, 3, 0, 1, 2, 3, 4, 5], [5])])
def wide_Div.B11 : List Nat := [0, 0, 2, 7, 15, 31, 31, 63]
theorem wide_Div.tab11 : rtab .any (opsOf Try.f44 11) = wide_Div.T11 := by kernel_rfl
theorem wide_Div.bits11 : waitsOk wide_Div.T11.2 wide_Div.B11 = true := by kernel_rfl
set_option maxHeartbeats 8000000 in
set_option maxRecDepth 100000 in
theorem wide_Div.calls (k : Nat) (a0_0 : Int) (a0_1 : Int) (a1 : Int) (r1 : Int) (r2 : Int) (r3 : Int) (w : World) (h : wide_Div.f k a0_0 a0_1 a1 = some (r1, r2, r3)) :
  Calls Try.prog 44 #[.agg #[.int .u64 a0_0, .int .u64 a0_1], .int .u64 a1] w fun e w' => e = .returned (.tuple #[.agg #[.int .u64 r1, .int .u64 r2], .int .u64 r3]) ∧ Below w.heap.size w w' := by
 have hu42 := Try.underlying42
 have HB := zq3 (Below.refl w.heap.size w)
 have H : (if a1 = 0 then (some (0, 0, 0)) else (wide_Div.l0 k a1 63 a0_0 a0_1 (IntKind.u64.wrap (Int.tdiv a0_0 a1)) 0 0 (Int.tmod a0_0 a1))) = some (r1, r2, r3) := h
 clear h
 by_cases c3 : a1 = 0
 ·
  rw [if_pos c3] at H
  have c3b0 : (a1 == 0) = true := beq_iff_eq.mpr c3
  have c3b1 : (a1 != 0) = false := bne_eq_false_iff_eq.mpr c3
  clear c3
  simp only [Option.some.injEq, Prod.mk.injEq] at H
  obtain ⟨rfl, rfl, rfl⟩ := H
  go_enter Try.func44, Try.ntmps44
  go_wp2_with (first | ((with_reducible refine zd 2 rfl ?_); refine zb 2 #[.int .u64 a0_0, .int .u64 a0_1] 42 ?_; intro gb101 hg w4 hbox hb; have BK101 := zq3 (hbox); have GW101 := ze hg HB; have GE101 := GW101; replace HB := zt HB hb; clear hb hbox hg) | ((with_reducible refine zd 4 rfl ?_); refine zb 4 #[.int .u64 0, .int .u64 0] 42 ?_; intro gb102 hg w5 hbox hb; have BK102 := zq3 (hbox); have GW102 := ze hg HB; have GE102 := GW102; have NB101_102 := zl hg BK101; have NB102_101 := zg hg BK101; replace BK101 := zs BK101 hb; replace HB := zt HB hb; clear hb hbox hg; have hnb6 := NB102_101.out; have hnc6 := NB101_102.out; obtain ⟨hc7_0, hc7_1⟩ := zc2 BK102; obtain ⟨hf7_0, hf7_1⟩ := zf2 BK102))
  refine bodyPost_ret (results_ct rfl _ _ gb102 42 #[.int .u64 0, .int .u64 0] (0, 0) _ rfl (zw2 BK102) Try.underlying42 rfl (by kernel_rfl)) rfl ?_
  exact ⟨by first | rfl | (simp [errW_none, errW_some] <;> rfl) | (simp [*, errW_none, errW_some] <;> rfl), zh HB⟩
 ·
  rw [if_neg c3] at H
  have c3b0 : (a1 == 0) = false := beq_eq_false_iff_ne.mpr c3
  have c3b1 : (a1 != 0) = true := bne_iff_ne.mpr c3
  have H' := zq3 H
  clear H
  go_enter Try.func44, Try.ntmps44
  go_wp2_with (first | ((with_reducible refine zd 2 rfl ?_); refine zb 2 #[.int .u64 a0_0, .int .u64 a0_1] 42 ?_; intro gb101 hg w8 hbox hb; have BK101 := zq3 (hbox); have GW101 := ze hg HB; have GE101 := GW101; replace HB := zt HB hb; clear hb hbox hg) | ((with_reducible refine zd 4 rfl ?_); refine zb 4 #[.int .u64 0, .int .u64 0] 42 ?_; intro gb102 hg w9 hbox hb; have BK102 := zq3 (hbox); have GW102 := ze hg HB; have GE102 := GW102; have NB101_102 := zl hg BK101; have NB102_101 := zg hg BK101; replace BK101 := zs BK101 hb; replace HB := zt HB hb; clear hb hbox hg; have hnb10 := NB101_102.out; have hnc10 := NB102_101.out; obtain ⟨hc11_0, hc11_1⟩ := zc2 BK101; obtain ⟨hf11_0, hf11_1⟩ := zf2 BK101) | ((with_reducible refine zd 6 rfl ?_); refine zb 6 #[.int .u64 0, .int .u64 0] 42 ?_; intro gb103 hg w12 hbox hb; have BK103 := zq3 (hbox); have GW103 := ze hg HB; have GE103 := GW103; have NB101_103 := zl hg BK101; have NB103_101 := zg hg BK101; have NB102_103 := zl hg BK102; have NB103_102 := zg hg BK102; replace BK101 := zs BK101 hb; replace BK102 := zs BK102 hb; replace HB := zt HB hb; clear hb hbox hg; have hnb13 := NB103_101.out; have hnc13 := NB101_103.out; have hnb14 := NB103_102.out; have hnc14 := NB102_103.out; obtain ⟨hc15_0, hc15_1⟩ := zc2 BK103; obtain ⟨hf15_0, hf15_1⟩ := zf2 BK103; obtain ⟨hc16_0, hc16_1⟩ := zc2 BK101; obtain ⟨hf16_0, hf16_1⟩ := zf2 BK101) | ((with_reducible refine zd 7 rfl ?_); refine zb 7 #[.int .u64 0, .int .u64 0] 42 ?_; intro gb104 hg w17 hbox hb; have BK104 := zq3 (hbox); have GW104 := ze hg HB; have GE104 := GW104; have NB101_104 := zq3 ((by rw [hg]; exact Nat.ne_of_lt (blk_lt (g := gb101) (o := .cells #[.int .u64 a0_0, .int .u64 a0_1] 42 (0, 0)) (zw BK101)) : gb101 ≠ gb104)); have NB104_101 := zq3 ((by rw [hg]; exact Nat.ne_of_gt (blk_lt (g := gb101) (o := .cells #[.int .u64 a0_0, .int .u64 a0_1] 42 (0, 0)) (zw BK101)) : gb104 ≠ gb101)); have NB102_104 := zq3 ((by rw [hg]; exact Nat.ne_of_lt (blk_lt (g := gb102) (o := .cells #[.int .u64 0, .int .u64 0] 42 (0, 0)) (zw BK102)) : gb102 ≠ gb104)); have NB104_102 := zq3 ((by rw [hg]; exact Nat.ne_of_gt (blk_lt (g := gb102) (o := .cells #[.int .u64 0, .int .u64 0] 42 (0, 0)) (zw BK102)) : gb104 ≠ gb102)); have NB103_104 := zq3 ((by rw [hg]; exact Nat.ne_of_lt (blk_lt (g := gb103) (o := .cells #[.int .u64 (IntKind.u64.wrap (Int.tdiv a0_0 a1)), .int .u64 0] 42 (0, 0)) (zw2 BK103)) : gb103 ≠ gb104)); have NB104_103 := zq3 ((by rw [hg]; exact Nat.ne_of_gt (blk_lt (g := gb103) (o := .cells #[.int .u64 (IntKind.u64.wrap (Int.tdiv a0_0 a1)), .int .u64 0] 42 (0, 0)) (zw2 BK103)) : gb104 ≠ gb103)); replace BK101 := zsf BK101 hb; replace BK102 := zsf BK102 hb; replace BK103 := zq3 (zq10 (o := .cells #[.int .u64 (IntKind.u64.wrap (Int.tdiv a0_0 a1)), .int .u64 0] 42 (0, 0)) (zw2 BK103) hb); replace HB := zt HB hb; clear hb hbox hg; have hnb18 := NB104_101.out; have hnc18 := NB101_104.out; have hnb19 := NB104_102.out; have hnc19 := NB102_104.out; have hnb20 := NB104_103.out; have hnc20 := NB103_104.out; obtain ⟨hc21_0, hc21_1⟩ := zc2 BK104; obtain ⟨hf21_0, hf21_1⟩ := zf2 BK104))
  go_loopg [8] k (fun kq v8 w' => ∃ (x8_1 : Int) (x104001_1 : Int) (x105000_1 : Int) (x105001_1 : Int), v8 = .int .i64 x8_1 ∧ Aside0 (wide_Div.l0 kq a1 x8_1 a0_0 a0_1 (IntKind.u64.wrap (Int.tdiv a0_0 a1)) x104001_1 x105000_1 x105001_1 = some (r1, r2, r3)) ∧ Aside0 (kq ≤ k) ∧ Aside0 (w'.heap[gb101]? = some (.cells #[.int .u64 a0_0, .int .u64 a0_1] 42 (0, 0))) ∧ Aside0 (w'.heap[gb102]? = some (.cells #[.int .u64 0, .int .u64 0] 42 (0, 0))) ∧ Aside0 (w'.heap[gb103]? = some (.cells #[.int .u64 (IntKind.u64.wrap (Int.tdiv a0_0 a1)), .int .u64 x104001_1] 42 (0, 0))) ∧ Aside0 (w'.heap[gb104]? = some (.cells #[.int .u64 x105000_1, .int .u64 x105001_1] 42 (0, 0))) ∧ Aside0 (Below w.heap.size w w'))
  case atStart => exact ⟨(63), (0), (0), (Int.tmod a0_0 a1), (by first | rfl | (simp; done) | (simp [*]; done)), H', ⟨Nat.le_refl _⟩, ⟨zw BK101⟩, ⟨zw BK102⟩, ⟨zw BK103⟩, ⟨zw2 BK104⟩, ⟨zh HB⟩⟩
  case round =>
   clear H'
   (try clear c1); (try clear c2); (try clear p2); (try clear c3); (try clear c3b0); (try clear c3b1); (try clear c4); (try clear c6); (try clear c10); (try clear c13); (try clear c14); (try clear c18); (try clear c19); (try clear c20)
   try clear hc11_0 hc11_1 hc15_0 hc15_1 hc16_0 hc16_1 hc21_0 hc21_1 hc7_0 hc7_1 hf11_0 hf11_1 hf15_0 hf15_1 hf16_0 hf16_1 hf21_0 hf21_1 hf7_0 hf7_1
   obtain ⟨x8_1, x104001_1, x105000_1, x105001_1, rfl, HA, HK1, BK101, BK102, BK103, BK104, HB⟩ := hrel
   cases gk with
   | zero => exact absurd HA.out (by simp [wide_Div.l0])
   | succ k1 =>
    have H := HA.out
    clear HA
    simp only [wide_Div.l0] at H
    by_cases c22 : x8_1 ≥ 0
    ·
     rw [if_pos c22] at H
     have c22b0 : decide (0 ≤ x8_1) = true := decide_eq_true c22
     clear c22
     obtain ⟨ji23, hji23⟩ : ∃ j_ : Int, (IntKind.u64.wrap (x8_1)) = j_ := ⟨_, rfl⟩
     replace H : (if 0 ≤ (ji23) then ((wide_twice.f x105000_1 x105001_1 (Go.bits .and .u64 (shr .u64 a0_1 (ji23)) 1)).bind fun bt105 => ((wide_Of.f a1).bind fun bt107 => ((wide_Less.f bt105.1 bt105.2 bt107.1 bt107.2).bind fun t109 => (if t109 = true then (wide_Div.l0 k1 a1 (wrap64 (x8_1 - 1)) a0_0 a0_1 (IntKind.u64.wrap (Int.tdiv a0_0 a1)) (IntKind.u64.wrap (x104001_1 * 2)) bt105.1 bt105.2) else ((wide_Of.f a1).bind fun bt110 => ((wide_Sub.f bt105.1 bt105.2 bt110.1 bt110.2).bind fun bt112 => (wide_Div.l0 k1 a1 (wrap64 (x8_1 - 1)) a0_0 a0_1 (IntKind.u64.wrap (Int.tdiv a0_0 a1)) (Go.bits .or .u64 (IntKind.u64.wrap (x104001_1 * 2)) 1) bt112.1 bt112.2.1))))))) else (none)) = some (r1, r2, r3) := by first | (rw [hji23] at H; exact H) | (simp only [hji23] at H ⊢; exact H)
     by_cases c24 : 0 ≤ (ji23)
     ·
      rw [if_pos c24] at H
      have c24b0 := eq_true c24
      have c24b1 : decide (0 ≤ (ji23)) = true := decide_eq_true c24
      clear c24
      obtain ⟨ji25, hji25⟩ : ∃ j_ : Int, (shr .u64 a0_1 (ji23)) = j_ := ⟨_, rfl⟩
      replace H : ((wide_twice.f x105000_1 x105001_1 (Go.bits .and .u64 (ji25) 1)).bind fun bt105 => ((wide_Of.f a1).bind fun bt107 => ((wide_Less.f bt105.1 bt105.2 bt107.1 bt107.2).bind fun t109 => (if t109 = true then (wide_Div.l0 k1 a1 (wrap64 (x8_1 - 1)) a0_0 a0_1 (IntKind.u64.wrap (Int.tdiv a0_0 a1)) (IntKind.u64.wrap (x104001_1 * 2)) bt105.1 bt105.2) else ((wide_Of.f a1).bind fun bt110 => ((wide_Sub.f bt105.1 bt105.2 bt110.1 bt110.2).bind fun bt112 => (wide_Div.l0 k1 a1 (wrap64 (x8_1 - 1)) a0_0 a0_1 (IntKind.u64.wrap (Int.tdiv a0_0 a1)) (Go.bits .or .u64 (IntKind.u64.wrap (x104001_1 * 2)) 1) bt112.1 bt112.2.1))))))) = some (r1, r2, r3) := by first | (rw [hji25] at H; exact H) | (simp only [hji25] at H ⊢; exact H)
      have hji25_ : (a0_1 / 2 ^ min (ji23).toNat 64) = ji25 := hji25
      have hji25z : (ji23) ≤ 64 → (a0_1 / 2 ^ (ji23).toNat) = ji25 := shr_small hji25
      replace H := Option.bind_eq_some_iff.mp H
      obtain ⟨⟨t105, t106⟩, A260, H⟩ := H
      replace H : ((wide_Of.f a1).bind fun bt107 => ((wide_Less.f t105 t106 bt107.1 bt107.2).bind fun t109 => (if t109 = true then (wide_Div.l0 k1 a1 (wrap64 (x8_1 - 1)) a0_0 a0_1 (IntKind.u64.wrap (Int.tdiv a0_0 a1)) (IntKind.u64.wrap (x104001_1 * 2)) t105 t106) else ((wide_Of.f a1).bind fun bt110 => ((wide_Sub.f t105 t106 bt110.1 bt110.2).bind fun bt112 => (wide_Div.l0 k1 a1 (wrap64 (x8_1 - 1)) a0_0 a0_1 (IntKind.u64.wrap (Int.tdiv a0_0 a1)) (Go.bits .or .u64 (IntKind.u64.wrap (x104001_1 * 2)) 1) bt112.1 bt112.2.1)))))) = some (r1, r2, r3) := H
      have A26 := zq3 A260
      clear A260
      replace H := Option.bind_eq_some_iff.mp H
      obtain ⟨⟨t107, t108⟩, A270, H⟩ := H
      replace H : ((wide_Less.f t105 t106 t107 t108).bind fun t109 => (if t109 = true then (wide_Div.l0 k1 a1 (wrap64 (x8_1 - 1)) a0_0 a0_1 (IntKind.u64.wrap (Int.tdiv a0_0 a1)) (IntKind.u64.wrap (x104001_1 * 2)) t105 t106) else ((wide_Of.f a1).bind fun bt110 => ((wide_Sub.f t105 t106 bt110.1 bt110.2).bind fun bt112 => (wide_Div.l0 k1 a1 (wrap64 (x8_1 - 1)) a0_0 a0_1 (IntKind.u64.wrap (Int.tdiv a0_0 a1)) (Go.bits .or .u64 (IntKind.u64.wrap (x104001_1 * 2)) 1) bt112.1 bt112.2.1))))) = some (r1, r2, r3) := H
      have A27 := zq3 A270
      clear A270
      replace H := Option.bind_eq_some_iff.mp H
      obtain ⟨t109, A280, H⟩ := H
      replace H : (if t109 = true then (wide_Div.l0 k1 a1 (wrap64 (x8_1 - 1)) a0_0 a0_1 (IntKind.u64.wrap (Int.tdiv a0_0 a1)) (IntKind.u64.wrap (x104001_1 * 2)) t105 t106) else ((wide_Of.f a1).bind fun bt110 => ((wide_Sub.f t105 t106 bt110.1 bt110.2).bind fun bt112 => (wide_Div.l0 k1 a1 (wrap64 (x8_1 - 1)) a0_0 a0_1 (IntKind.u64.wrap (Int.tdiv a0_0 a1)) (Go.bits .or .u64 (IntKind.u64.wrap (x104001_1 * 2)) 1) bt112.1 bt112.2.1)))) = some (r1, r2, r3) := H
      have A28 := zq3 A280
      clear A280
      by_cases c29 : t109 = true
      ·
       subst c29
       have H1 : (wide_Div.l0 k1 a1 (wrap64 (x8_1 - 1)) a0_0 a0_1 (IntKind.u64.wrap (Int.tdiv a0_0 a1)) (IntKind.u64.wrap (x104001_1 * 2)) t105 t106) = some (r1, r2, r3) := by rw [if_pos rfl] at H; exact H
       clear H
       have H := H1
       clear H1
       have H' := zq3 H
       clear H
       have hnb30 := NB104_101.out
       have hnc30 := NB101_104.out
       have hnb31 := NB104_102.out
       have hnc31 := NB102_104.out
       have hnb32 := NB104_103.out
       have hnc32 := NB103_104.out
       obtain ⟨hc33_0, hc33_1⟩ := zc2 BK104
       obtain ⟨hf33_0, hf33_1⟩ := zf2 BK104
       have hnb34 := NB101_102.out
       have hnc34 := NB102_101.out
       have hnb35 := NB101_103.out
       have hnc35 := NB103_101.out
       obtain ⟨hc36_0, hc36_1⟩ := zc2 BK101
       obtain ⟨hf36_0, hf36_1⟩ := zf2 BK101
       try go_wp2_with (first | ((with_reducible refine gate_callee (f := 72) rfl ?_); refine goesL_ (some 33) rfl rfl Try.func72 (by kernel_rfl) rfl #[.agg #[.int .u64 x105000_1, .int .u64 x105001_1], .int .u64 (Go.bits .and .u64 (ji25) 1)] rfl (by (try simp only [List.map_toArray, List.map_cons, List.map_nil]); first | done | (simp only [hji25]; rfl) | rfl | (simp only [List.length_drop, List.length_take]; rfl)) ?_; (with_reducible refine (wide_twice.calls x105000_1 x105001_1 (Go.bits .and .u64 (ji25) 1) t105 t106 _ A26.out).mono ?_); rintro e w37 ⟨rfl, hb⟩; refine ⟨_, rfl, ?_⟩; replace BK101 := zs BK101 hb; replace BK102 := zs BK102 hb; replace BK103 := zs BK103 hb; replace BK104 := zs BK104 hb; replace HB := zt HB hb; (try clear hb); obtain ⟨hc38_0, hc38_1⟩ := zc2 BK104; obtain ⟨hf38_0, hf38_1⟩ := zf2 BK104; have hnb39 := NB103_102.out; have hnc39 := NB102_103.out; obtain ⟨hc40_0, hc40_1⟩ := zc2 BK103; obtain ⟨hf40_0, hf40_1⟩ := zf2 BK103))
       have n0_ : Aside0 ((((w37.setCell ⟨gb104, 0, none⟩ (.int .u64 t105)).setCell ⟨gb104, 1, none⟩ (.int .u64 t106)).setCell ⟨gb103, 1, none⟩ (.int .u64 (IntKind.u64.wrap (x104001_1 * 2)))).heap[gb101]? = some (.cells #[.int .u64 a0_0, .int .u64 a0_1] 42 (0, 0))) := ⟨zw BK101⟩
       have n1_ : Aside0 ((((w37.setCell ⟨gb104, 0, none⟩ (.int .u64 t105)).setCell ⟨gb104, 1, none⟩ (.int .u64 t106)).setCell ⟨gb103, 1, none⟩ (.int .u64 (IntKind.u64.wrap (x104001_1 * 2)))).heap[gb102]? = some (.cells #[.int .u64 0, .int .u64 0] 42 (0, 0))) := ⟨zw BK102⟩
       have n2_ : Aside0 ((((w37.setCell ⟨gb104, 0, none⟩ (.int .u64 t105)).setCell ⟨gb104, 1, none⟩ (.int .u64 t106)).setCell ⟨gb103, 1, none⟩ (.int .u64 (IntKind.u64.wrap (x104001_1 * 2)))).heap[gb103]? = some (.cells #[.int .u64 (IntKind.u64.wrap (Int.tdiv a0_0 a1)), .int .u64 (IntKind.u64.wrap (x104001_1 * 2))] 42 (0, 0))) := ⟨by (with_reducible repeat (first | refine zq0 ?_ _ | refine zq2 ?_ | refine zq1 ?_ _)); refine blk_put (cs := #[.int .u64 (IntKind.u64.wrap (Int.tdiv a0_0 a1)), .int .u64 x104001_1]) ?_ 1 _ rfl; (with_reducible repeat (first | refine zq0 ?_ _ | refine zq2 ?_ | refine zq1 ?_ _)); refine zq11 ?_ NB103_104.out _; (with_reducible repeat (first | refine zq0 ?_ _ | refine zq2 ?_ | refine zq1 ?_ _)); refine zq11 ?_ NB103_104.out _; (with_reducible repeat (first | refine zq0 ?_ _ | refine zq2 ?_ | refine zq1 ?_ _)); exact BK103.out⟩
       have n3_ : Aside0 ((((w37.setCell ⟨gb104, 0, none⟩ (.int .u64 t105)).setCell ⟨gb104, 1, none⟩ (.int .u64 t106)).setCell ⟨gb103, 1, none⟩ (.int .u64 (IntKind.u64.wrap (x104001_1 * 2)))).heap[gb104]? = some (.cells #[.int .u64 t105, .int .u64 t106] 42 (0, 0))) := ⟨zw2 BK104⟩
       have n4_ : Aside0 (Below w.heap.size w (((w37.setCell ⟨gb104, 0, none⟩ (.int .u64 t105)).setCell ⟨gb104, 1, none⟩ (.int .u64 t106)).setCell ⟨gb103, 1, none⟩ (.int .u64 (IntKind.u64.wrap (x104001_1 * 2))))) := ⟨zh HB⟩
       (try clear BK101)
       (try clear BK102)
       (try clear BK103)
       (try clear BK104)
       (try clear HB)
       generalize (((w37.setCell ⟨gb104, 0, none⟩ (.int .u64 t105)).setCell ⟨gb104, 1, none⟩ (.int .u64 t106)).setCell ⟨gb103, 1, none⟩ (.int .u64 (IntKind.u64.wrap (x104001_1 * 2)))) = w41 at n0_ n1_ n2_ n3_ n4_ ⊢
       have BK101 := n0_
       have BK102 := n1_
       have BK103 := n2_
       have BK104 := n3_
       have HB := n4_
       clear n0_ n1_ n2_ n3_ n4_
       replace BK101 := zq3 (zq2 BK101.out); replace BK102 := zq3 (zq2 BK102.out); replace BK103 := zq3 (zq2 BK103.out); replace BK104 := zq3 (zq2 BK104.out); replace HB := zq3 (zq8 HB.out)
       refine start_ (n := 5) (S := fun w' => w'.cell? ⟨gb104, 0, none⟩ = some (.int .u64 t105) ∧ w'.cell? ⟨gb104, 1, none⟩ = some (.int .u64 t106)) (ds := []) #[false, false, false, false, false] (by kernel_rfl) rfl rfl ⟨(zq5 BK104.out 0).trans rfl, (zq5 BK104.out 1).trans rfl⟩ (fun hHeld => ?_)
       generalize w41.drew = w42 at BK101 BK102 BK103 BK104 HB hHeld ⊢
       refine pure_ (i := 1) (N := some 39) (v := ?_) (a' := ?_) #[false, true, false, false, false] rfl rfl (by kernel_rfl) (fun _ _ _ h => h) (Or.inl ⟨by rfl, ?_⟩) ?_ ?_
       rotate_left
       ·
        intro w'
        go_simp
        with_reducible rfl
       rotate_left
       ·
        simp only [Act.put, List.setIfInBounds_toArray, List.set_cons_zero, List.set_cons_succ, i64_w, i32_w]
        rfl
       refine take_ (i := 0) (N := some 38) (v := ?_) (a' := ?_) #[true, true, false, false, false] rfl rfl (by kernel_rfl) (fun _ _ _ h => h) (Or.inl ⟨by rfl, ?_⟩) hHeld ?_ ?_
       rotate_left
       ·
        rintro w' ⟨s0, s1⟩
        go_simp
        with_reducible rfl
       rotate_left
       ·
        simp only [Act.put, List.setIfInBounds_toArray, List.set_cons_zero, List.set_cons_succ, i64_w, i32_w]
        rfl
       refine one_ (i := 2) (N := some 40) #[true, true, true, false, false] rfl rfl (by kernel_rfl) (by decide) (fun K hK => ?_)
       refine goes_ Try.func45 (by kernel_rfl) rfl #[.int .u64 a1] (by rfl) rfl rfl (by (try simp only [List.map_toArray, List.map_cons, List.map_nil]); first | done | rfl | (simp only [List.length_drop, List.length_take]; rfl)) ?_
       with_reducible refine (wide_Of.calls a1 t107 t108 _ A27.out).mono ?_
       rintro e w43 ⟨rfl, hb⟩
       refine ⟨_, rfl, ?_⟩
       replace BK101 := zs BK101 hb; replace BK102 := zs BK102 hb; replace BK103 := zs BK103 hb; replace BK104 := zs BK104 hb; replace HB := zt HB hb
       (try clear hb)
       (try clear hb2)
       (try clear hk)
       (try clear hi)
       refine hK.out _ _ ⟨(zq5 BK104.out 0).trans rfl, (zq5 BK104.out 1).trans rfl⟩ (fun hHeld => ?_)
       clear hK K
       refine norm_ (a' := ?_) ?_ ?_
       rotate_left
       ·
        show Act.put _ (some 40) _ = _
        simp only [Act.put, List.setIfInBounds_toArray, List.set_cons_zero, List.set_cons_succ, i64_w, i32_w]
        rfl
       refine one_ (i := 3) (N := some 41) #[true, true, true, true, false] rfl rfl (by kernel_rfl) (by decide) (fun K hK => ?_)
       refine goes_ Try.func25 (by kernel_rfl) rfl #[.agg #[.int .u64 t105, .int .u64 t106], .agg #[.int .u64 t107, .int .u64 t108]] (by rfl) rfl rfl (by (try simp only [List.map_toArray, List.map_cons, List.map_nil]); first | done | rfl | (simp only [List.length_drop, List.length_take]; rfl)) ?_
       with_reducible refine (wide_Less.calls t105 t106 t107 t108 true _ A28.out).mono ?_
       rintro e w44 ⟨rfl, hb⟩
       refine ⟨_, rfl, ?_⟩
       replace BK101 := zs BK101 hb; replace BK102 := zs BK102 hb; replace BK103 := zs BK103 hb; replace BK104 := zs BK104 hb; replace HB := zt HB hb
       (try clear hb)
       (try clear hb2)
       (try clear hk)
       (try clear hi)
       refine hK.out _ _ ⟨(zq5 BK104.out 0).trans rfl, (zq5 BK104.out 1).trans rfl⟩ (fun hHeld => ?_)
       clear hK K
       refine norm_ (a' := ?_) ?_ ?_
       rotate_left
       ·
        show Act.put _ (some 41) _ = _
        simp only [Act.put, List.setIfInBounds_toArray, List.set_cons_zero, List.set_cons_succ, i64_w, i32_w]
        rfl
       refine pure_ (i := 4) (N := some 42) (v := ?_) (a' := ?_) #[true, true, true, true, true] rfl rfl (by kernel_rfl) (fun _ _ _ h => h) (Or.inl ⟨by rfl, ?_⟩) ?_ ?_
       rotate_left
       ·
        intro w'
        go_simp
        with_reducible rfl
       rotate_left
       ·
        simp only [Act.put, List.setIfInBounds_toArray, List.set_cons_zero, List.set_cons_succ, i64_w, i32_w]
        rfl
       refine done_ (by kernel_rfl) ?_
       try go_wp2
       go_roundg k1
       case measure => have := HK1.out; omega
       case rel => exact ⟨(wrap64 (x8_1 - 1)), (IntKind.u64.wrap (x104001_1 * 2)), (t105), (t106), (by first | rfl | (simp; done) | (simp [*]; done)), H', ⟨by have := HK1.out; omega⟩, ⟨zw BK101⟩, ⟨zw BK102⟩, ⟨zw BK103⟩, ⟨zw BK104⟩, ⟨zh HB⟩⟩
      ·
       replace c29 := Bool.eq_false_iff.mpr c29
       subst c29
       have H1 : ((wide_Of.f a1).bind fun bt110 => ((wide_Sub.f t105 t106 bt110.1 bt110.2).bind fun bt112 => (wide_Div.l0 k1 a1 (wrap64 (x8_1 - 1)) a0_0 a0_1 (IntKind.u64.wrap (Int.tdiv a0_0 a1)) (Go.bits .or .u64 (IntKind.u64.wrap (x104001_1 * 2)) 1) bt112.1 bt112.2.1))) = some (r1, r2, r3) := by rw [if_neg (show ¬ (false = true) by decide)] at H; exact H
       clear H
       have H := H1
       clear H1
       replace H := Option.bind_eq_some_iff.mp H
       obtain ⟨⟨t110, t111⟩, A450, H⟩ := H
       replace H : ((wide_Sub.f t105 t106 t110 t111).bind fun bt112 => (wide_Div.l0 k1 a1 (wrap64 (x8_1 - 1)) a0_0 a0_1 (IntKind.u64.wrap (Int.tdiv a0_0 a1)) (Go.bits .or .u64 (IntKind.u64.wrap (x104001_1 * 2)) 1) bt112.1 bt112.2.1)) = some (r1, r2, r3) := H
       have A45 := zq3 A450
       clear A450
       replace H := Option.bind_eq_some_iff.mp H
       obtain ⟨⟨t112, t113, t114⟩, A460, H⟩ := H
       replace H : (wide_Div.l0 k1 a1 (wrap64 (x8_1 - 1)) a0_0 a0_1 (IntKind.u64.wrap (Int.tdiv a0_0 a1)) (Go.bits .or .u64 (IntKind.u64.wrap (x104001_1 * 2)) 1) t112 t113) = some (r1, r2, r3) := H
       have A46 := zq3 A460
       clear A460
       have H' := zq3 H
       clear H
       have hnb47 := NB104_101.out
       have hnc47 := NB101_104.out
       have hnb48 := NB104_102.out
       have hnc48 := NB102_104.out
       have hnb49 := NB104_103.out
       have hnc49 := NB103_104.out
       obtain ⟨hc50_0, hc50_1⟩ := zc2 BK104
       obtain ⟨hf50_0, hf50_1⟩ := zf2 BK104
       have hnb51 := NB101_102.out
       have hnc51 := NB102_101.out
       have hnb52 := NB101_103.out
       have hnc52 := NB103_101.out
       obtain ⟨hc53_0, hc53_1⟩ := zc2 BK101
       obtain ⟨hf53_0, hf53_1⟩ := zf2 BK101
       try go_wp2_with (first | ((with_reducible refine gate_callee (f := 72) rfl ?_); refine goesL_ (some 33) rfl rfl Try.func72 (by kernel_rfl) rfl #[.agg #[.int .u64 x105000_1, .int .u64 x105001_1], .int .u64 (Go.bits .and .u64 (ji25) 1)] rfl (by (try simp only [List.map_toArray, List.map_cons, List.map_nil]); first | done | (simp only [hji25]; rfl) | rfl | (simp only [List.length_drop, List.length_take]; rfl)) ?_; (with_reducible refine (wide_twice.calls x105000_1 x105001_1 (Go.bits .and .u64 (ji25) 1) t105 t106 _ A26.out).mono ?_); rintro e w54 ⟨rfl, hb⟩; refine ⟨_, rfl, ?_⟩; replace BK101 := zs BK101 hb; replace BK102 := zs BK102 hb; replace BK103 := zs BK103 hb; replace BK104 := zs BK104 hb; replace HB := zt HB hb; (try clear hb); obtain ⟨hc55_0, hc55_1⟩ := zc2 BK104; obtain ⟨hf55_0, hf55_1⟩ := zf2 BK104; have hnb56 := NB103_102.out; have hnc56 := NB102_103.out; obtain ⟨hc57_0, hc57_1⟩ := zc2 BK103; obtain ⟨hf57_0, hf57_1⟩ := zf2 BK103))
       have n0_ : Aside0 ((((w54.setCell ⟨gb104, 0, none⟩ (.int .u64 t105)).setCell ⟨gb104, 1, none⟩ (.int .u64 t106)).setCell ⟨gb103, 1, none⟩ (.int .u64 (IntKind.u64.wrap (x104001_1 * 2)))).heap[gb101]? = some (.cells #[.int .u64 a0_0, .int .u64 a0_1] 42 (0, 0))) := ⟨zw BK101⟩
       have n1_ : Aside0 ((((w54.setCell ⟨gb104, 0, none⟩ (.int .u64 t105)).setCell ⟨gb104, 1, none⟩ (.int .u64 t106)).setCell ⟨gb103, 1, none⟩ (.int .u64 (IntKind.u64.wrap (x104001_1 * 2)))).heap[gb102]? = some (.cells #[.int .u64 0, .int .u64 0] 42 (0, 0))) := ⟨zw BK102⟩
       have n2_ : Aside0 ((((w54.setCell ⟨gb104, 0, none⟩ (.int .u64 t105)).setCell ⟨gb104, 1, none⟩ (.int .u64 t106)).setCell ⟨gb103, 1, none⟩ (.int .u64 (IntKind.u64.wrap (x104001_1 * 2)))).heap[gb103]? = some (.cells #[.int .u64 (IntKind.u64.wrap (Int.tdiv a0_0 a1)), .int .u64 (IntKind.u64.wrap (x104001_1 * 2))] 42 (0, 0))) := ⟨by (with_reducible repeat (first | refine zq0 ?_ _ | refine zq2 ?_ | refine zq1 ?_ _)); refine blk_put (cs := #[.int .u64 (IntKind.u64.wrap (Int.tdiv a0_0 a1)), .int .u64 x104001_1]) ?_ 1 _ rfl; (with_reducible repeat (first | refine zq0 ?_ _ | refine zq2 ?_ | refine zq1 ?_ _)); refine zq11 ?_ NB103_104.out _; (with_reducible repeat (first | refine zq0 ?_ _ | refine zq2 ?_ | refine zq1 ?_ _)); refine zq11 ?_ NB103_104.out _; (with_reducible repeat (first | refine zq0 ?_ _ | refine zq2 ?_ | refine zq1 ?_ _)); exact BK103.out⟩
       have n3_ : Aside0 ((((w54.setCell ⟨gb104, 0, none⟩ (.int .u64 t105)).setCell ⟨gb104, 1, none⟩ (.int .u64 t106)).setCell ⟨gb103, 1, none⟩ (.int .u64 (IntKind.u64.wrap (x104001_1 * 2)))).heap[gb104]? = some (.cells #[.int .u64 t105, .int .u64 t106] 42 (0, 0))) := ⟨zw2 BK104⟩
       have n4_ : Aside0 (Below w.heap.size w (((w54.setCell ⟨gb104, 0, none⟩ (.int .u64 t105)).setCell ⟨gb104, 1, none⟩ (.int .u64 t106)).setCell ⟨gb103, 1, none⟩ (.int .u64 (IntKind.u64.wrap (x104001_1 * 2))))) := ⟨zh HB⟩
       (try clear BK101)
       (try clear BK102)
       (try clear BK103)
       (try clear BK104)
       (try clear HB)
       generalize (((w54.setCell ⟨gb104, 0, none⟩ (.int .u64 t105)).setCell ⟨gb104, 1, none⟩ (.int .u64 t106)).setCell ⟨gb103, 1, none⟩ (.int .u64 (IntKind.u64.wrap (x104001_1 * 2)))) = w58 at n0_ n1_ n2_ n3_ n4_ ⊢
       have BK101 := n0_
       have BK102 := n1_
       have BK103 := n2_
       have BK104 := n3_
       have HB := n4_
       clear n0_ n1_ n2_ n3_ n4_
       replace BK101 := zq3 (zq2 BK101.out); replace BK102 := zq3 (zq2 BK102.out); replace BK103 := zq3 (zq2 BK103.out); replace BK104 := zq3 (zq2 BK104.out); replace HB := zq3 (zq8 HB.out)
       refine start_ (n := 5) (S := fun w' => w'.cell? ⟨gb104, 0, none⟩ = some (.int .u64 t105) ∧ w'.cell? ⟨gb104, 1, none⟩ = some (.int .u64 t106)) (ds := []) #[false, false, false, false, false] (by kernel_rfl) rfl rfl ⟨(zq5 BK104.out 0).trans rfl, (zq5 BK104.out 1).trans rfl⟩ (fun hHeld => ?_)
       generalize w58.drew = w59 at BK101 BK102 BK103 BK104 HB hHeld ⊢
       refine pure_ (i := 1) (N := some 39) (v := ?_) (a' := ?_) #[false, true, false, false, false] rfl rfl (by kernel_rfl) (fun _ _ _ h => h) (Or.inl ⟨by rfl, ?_⟩) ?_ ?_
       rotate_left
       ·
        intro w'
        go_simp
        with_reducible rfl
       rotate_left
       ·
        simp only [Act.put, List.setIfInBounds_toArray, List.set_cons_zero, List.set_cons_succ, i64_w, i32_w]
        rfl
       refine take_ (i := 0) (N := some 38) (v := ?_) (a' := ?_) #[true, true, false, false, false] rfl rfl (by kernel_rfl) (fun _ _ _ h => h) (Or.inl ⟨by rfl, ?_⟩) hHeld ?_ ?_
       rotate_left
       ·
        rintro w' ⟨s0, s1⟩
        go_simp
        with_reducible rfl
       rotate_left
       ·
        simp only [Act.put, List.setIfInBounds_toArray, List.set_cons_zero, List.set_cons_succ, i64_w, i32_w]
        rfl
       refine one_ (i := 2) (N := some 40) #[true, true, true, false, false] rfl rfl (by kernel_rfl) (by decide) (fun K hK => ?_)
       refine goes_ Try.func45 (by kernel_rfl) rfl #[.int .u64 a1] (by rfl) rfl rfl (by (try simp only [List.map_toArray, List.map_cons, List.map_nil]); first | done | rfl | (simp only [List.length_drop, List.length_take]; rfl)) ?_
       with_reducible refine (wide_Of.calls a1 t107 t108 _ A27.out).mono ?_
       rintro e w60 ⟨rfl, hb⟩
       refine ⟨_, rfl, ?_⟩
       replace BK101 := zs BK101 hb; replace BK102 := zs BK102 hb; replace BK103 := zs BK103 hb; replace BK104 := zs BK104 hb; replace HB := zt HB hb
       (try clear hb)
       (try clear hb2)
       (try clear hk)
       (try clear hi)
       refine hK.out _ _ ⟨(zq5 BK104.out 0).trans rfl, (zq5 BK104.out 1).trans rfl⟩ (fun hHeld => ?_)
       clear hK K
       refine norm_ (a' := ?_) ?_ ?_
       rotate_left
       ·
        show Act.put _ (some 40) _ = _
        simp only [Act.put, List.setIfInBounds_toArray, List.set_cons_zero, List.set_cons_succ, i64_w, i32_w]
        rfl
       refine one_ (i := 3) (N := some 41) #[true, true, true, true, false] rfl rfl (by kernel_rfl) (by decide) (fun K hK => ?_)
       refine goes_ Try.func25 (by kernel_rfl) rfl #[.agg #[.int .u64 t105, .int .u64 t106], .agg #[.int .u64 t107, .int .u64 t108]] (by rfl) rfl rfl (by (try simp only [List.map_toArray, List.map_cons, List.map_nil]); first | done | rfl | (simp only [List.length_drop, List.length_take]; rfl)) ?_
       with_reducible refine (wide_Less.calls t105 t106 t107 t108 false _ A28.out).mono ?_
       rintro e w61 ⟨rfl, hb⟩
       refine ⟨_, rfl, ?_⟩
       replace BK101 := zs BK101 hb; replace BK102 := zs BK102 hb; replace BK103 := zs BK103 hb; replace BK104 := zs BK104 hb; replace HB := zt HB hb
       (try clear hb)
       (try clear hb2)
       (try clear hk)
       (try clear hi)
       refine hK.out _ _ ⟨(zq5 BK104.out 0).trans rfl, (zq5 BK104.out 1).trans rfl⟩ (fun hHeld => ?_)
       clear hK K
       refine norm_ (a' := ?_) ?_ ?_
       rotate_left
       ·
        show Act.put _ (some 41) _ = _
        simp only [Act.put, List.setIfInBounds_toArray, List.set_cons_zero, List.set_cons_succ, i64_w, i32_w]
        rfl
       refine pure_ (i := 4) (N := some 42) (v := ?_) (a' := ?_) #[true, true, true, true, true] rfl rfl (by kernel_rfl) (fun _ _ _ h => h) (Or.inl ⟨by rfl, ?_⟩) ?_ ?_
       rotate_left
       ·
        intro w'
        go_simp
        with_reducible rfl
       rotate_left
       ·
        simp only [Act.put, List.setIfInBounds_toArray, List.set_cons_zero, List.set_cons_succ, i64_w, i32_w]
        rfl
       refine done_ (by kernel_rfl) ?_
       try go_wp2
       replace BK101 := zq3 (zq2 BK101.out); replace BK102 := zq3 (zq2 BK102.out); replace BK103 := zq3 (zq2 BK103.out); replace BK104 := zq3 (zq2 BK104.out); replace HB := zq3 (zq8 HB.out)
       refine start_ (n := 8) (S := fun w' => w'.cell? ⟨gb104, 0, none⟩ = some (.int .u64 t105) ∧ w'.cell? ⟨gb104, 1, none⟩ = some (.int .u64 t106)) (ds := [7]) #[false, false, false, false, false, false, false, false] (by kernel_rfl) rfl rfl ⟨(zq5 BK104.out 0).trans rfl, (zq5 BK104.out 1).trans rfl⟩ (fun hHeld => ?_); refine with_tabW wide_Div.tab11 wide_Div.bits11 (fun HT_ HW_ => ?_)
       generalize w61.drew = w62 at BK101 BK102 BK103 BK104 HB hHeld ⊢
       refine pure_ (i := 1) (N := some 45) (v := ?_) (a' := ?_) #[false, true, false, false, false, false, false, false] rfl rfl (any_of HT_.out (by kernel_rfl)) (fun _ _ _ h => h) (Or.inl ⟨by rfl, ?_⟩) ?_ ?_
       rotate_left
       ·
        intro w'
        go_simp
        with_reducible rfl
       rotate_left
       ·
        simp only [Act.put, List.setIfInBounds_toArray, List.set_cons_zero, List.set_cons_succ, i64_w, i32_w]
        rfl
       refine take_ (i := 0) (N := some 44) (v := ?_) (a' := ?_) #[true, true, false, false, false, false, false, false] rfl rfl (take_ofW HT_.out HW_.out (by kernel_rfl)) (fun _ _ _ h => h) (Or.inl ⟨by rfl, ?_⟩) hHeld ?_ ?_
       rotate_left
       ·
        rintro w' ⟨s0, s1⟩
        go_simp
        with_reducible rfl
       rotate_left
       ·
        simp only [Act.put, List.setIfInBounds_toArray, List.set_cons_zero, List.set_cons_succ, i64_w, i32_w]
        rfl
       refine one_ (i := 2) (N := some 46) #[true, true, true, false, false, false, false, false] rfl rfl (one_of HT_.out (by kernel_rfl)) (by decide) (fun K hK => ?_)
       refine goes_ Try.func45 (by kernel_rfl) rfl #[.int .u64 a1] (by rfl) rfl rfl (by (try simp only [List.map_toArray, List.map_cons, List.map_nil]); first | done | rfl | (simp only [List.length_drop, List.length_take]; rfl)) ?_
       with_reducible refine (wide_Of.calls a1 t110 t111 _ A45.out).mono ?_
       rintro e w63 ⟨rfl, hb⟩
       refine ⟨_, rfl, ?_⟩
       replace BK101 := zs BK101 hb; replace BK102 := zs BK102 hb; replace BK103 := zs BK103 hb; replace BK104 := zs BK104 hb; replace HB := zt HB hb
       (try clear hb)
       (try clear hb2)
       (try clear hk)
       (try clear hi)
       refine hK.out _ _ ⟨(zq5 BK104.out 0).trans rfl, (zq5 BK104.out 1).trans rfl⟩ (fun hHeld => ?_)
       clear hK K
       refine norm_ (a' := ?_) ?_ ?_
       rotate_left
       ·
        show Act.put _ (some 46) _ = _
        simp only [Act.put, List.setIfInBounds_toArray, List.set_cons_zero, List.set_cons_succ, i64_w, i32_w]
        rfl
       refine one_ (i := 3) (N := some 47) #[true, true, true, true, false, false, false, false] rfl rfl (one_of HT_.out (by kernel_rfl)) (by decide) (fun K hK => ?_)
       refine goes_ Try.func73 (by kernel_rfl) rfl #[.agg #[.int .u64 t105, .int .u64 t106], .agg #[.int .u64 t110, .int .u64 t111]] (by rfl) rfl rfl (by (try simp only [List.map_toArray, List.map_cons, List.map_nil]); first | done | rfl | (simp only [List.length_drop, List.length_take]; rfl)) ?_
       with_reducible refine (wide_Sub.calls t105 t106 t110 t111 t112 t113 t114 _ A46.out).mono ?_
       rintro e w64 ⟨rfl, hb⟩
       refine ⟨_, rfl, ?_⟩
       replace BK101 := zs BK101 hb; replace BK102 := zs BK102 hb; replace BK103 := zs BK103 hb; replace BK104 := zs BK104 hb; replace HB := zt HB hb
       (try clear hb)
       (try clear hb2)
       (try clear hk)
       (try clear hi)
       refine hK.out _ _ ⟨(zq5 BK104.out 0).trans rfl, (zq5 BK104.out 1).trans rfl⟩ (fun hHeld => ?_)
       clear hK K
       refine norm_ (a' := ?_) ?_ ?_
       rotate_left
       ·
        show Act.put _ (some 47) _ = _
        simp only [Act.put, List.setIfInBounds_toArray, List.set_cons_zero, List.set_cons_succ, i64_w, i32_w]
        rfl
       refine pure_ (i := 4) (N := some 43) (v := ?_) (a' := ?_) #[true, true, true, true, true, false, false, false] rfl rfl (any_of HT_.out (by kernel_rfl)) (fun _ _ _ h => h) (Or.inl ⟨by rfl, ?_⟩) ?_ ?_
       rotate_left
       ·
        intro w'
        go_simp
        with_reducible rfl
       rotate_left
       ·
        simp only [Act.put, List.setIfInBounds_toArray, List.set_cons_zero, List.set_cons_succ, i64_w, i32_w]
        rfl
       refine pure_ (i := 5) (N := some 48) (v := ?_) (a' := ?_) #[true, true, true, true, true, true, false, false] rfl rfl (any_of HT_.out (by kernel_rfl)) (fun _ _ _ h => h) (Or.inl ⟨by rfl, ?_⟩) ?_ ?_
       rotate_left
       ·
        intro w'
        go_simp
        with_reducible rfl
       rotate_left
       ·
        simp only [Act.put, List.setIfInBounds_toArray, List.set_cons_zero, List.set_cons_succ, i64_w, i32_w]
        rfl
       refine pure_ (i := 6) (N := some 49) (v := ?_) (a' := ?_) #[true, true, true, true, true, true, true, false] rfl rfl (any_of HT_.out (by kernel_rfl)) (fun _ _ _ h => h) (Or.inl ⟨by rfl, ?_⟩) ?_ ?_
       rotate_left
       ·
        intro w'
        go_simp
        with_reducible rfl
       rotate_left
       ·
        simp only [Act.put, List.setIfInBounds_toArray, List.set_cons_zero, List.set_cons_succ, i64_w, i32_w]
        rfl
       refine last_ (i := 7) (N := none) #[true, true, true, true, true, true, true, true] rfl rfl (one_of HT_.out (by kernel_rfl)) (by decide) (fun K hK => ?_)
       have hs65 : w64.cell? ⟨gb104, 0, none⟩ = some (.int .u64 t105) := (zq5 BK104.out 0).trans rfl
       have hfs65 := zq4 BK104.out 0
       have hns65_0 := NB101_104.out
       have hns65_1 := NB102_104.out
       have hns65_2 := NB103_104.out
       have hms65_0 := NB104_101.out
       have hms65_1 := NB104_102.out
       have hms65_2 := NB104_103.out
       have hs66 : w64.cell? ⟨gb104, 1, none⟩ = some (.int .u64 t106) := (zq5 BK104.out 1).trans rfl
       have hfs66 := zq4 BK104.out 1
       have hns66_0 := NB101_104.out
       have hns66_1 := NB102_104.out
       have hns66_2 := NB103_104.out
       have hms66_0 := NB104_101.out
       have hms66_1 := NB104_102.out
       have hms66_2 := NB104_103.out
       refine skip_ (w1 := ?_) (by rfl) rfl ?_ ?_
       rotate_left
       ·
        go_simp
        rfl
       refine hK.out _ _ ?_
       clear hK K
       refine done_ (done_of HT_.out (by kernel_rfl)) ?_
       obtain ⟨hc67_0, hc67_1⟩ := zc2 BK103
       obtain ⟨hf67_0, hf67_1⟩ := zf2 BK103
       try go_wp2
       go_roundg k1
       case measure => have := HK1.out; omega
       case rel => exact ⟨(wrap64 (x8_1 - 1)), (Go.bits .or .u64 (IntKind.u64.wrap (x104001_1 * 2)) 1), (t112), (t113), (by first | rfl | (simp; done) | (simp [*]; done)), H', ⟨by have := HK1.out; omega⟩, ⟨zw BK101⟩, ⟨zw BK102⟩, ⟨by (with_reducible repeat (first | refine zq0 ?_ _ | refine zq2 ?_ | refine zq1 ?_ _)); refine blk_put (cs := #[.int .u64 (IntKind.u64.wrap (Int.tdiv a0_0 a1)), .int .u64 (IntKind.u64.wrap (x104001_1 * 2))]) ?_ 1 _ rfl; (with_reducible repeat (first | refine zq0 ?_ _ | refine zq2 ?_ | refine zq1 ?_ _)); refine zq11 ?_ NB103_104.out _; (with_reducible repeat (first | refine zq0 ?_ _ | refine zq2 ?_ | refine zq1 ?_ _)); refine zq11 ?_ NB103_104.out _; (with_reducible repeat (first | refine zq0 ?_ _ | refine zq2 ?_ | refine zq1 ?_ _)); exact BK103.out⟩, ⟨zw2 BK104⟩, ⟨zh HB⟩⟩
     ·
      rw [if_neg c24] at H
      exact absurd H (by simp)
    ·
     rw [if_neg c22] at H
     have c22b0 : decide (0 ≤ x8_1) = false := decide_eq_false c22
     clear c22
     simp only [Option.some.injEq, Prod.mk.injEq] at H
     obtain ⟨rfl, rfl, rfl⟩ := H
     try go_wp2
     replace BK101 := zq3 (zq2 BK101.out); replace BK102 := zq3 (zq2 BK102.out); replace BK103 := zq3 (zq2 BK103.out); replace BK104 := zq3 (zq2 BK104.out); replace HB := zq3 (zq8 HB.out)
     refine start_ (n := 5) (S := fun w' => w'.cell? ⟨gb103, 0, none⟩ = some (.int .u64 (IntKind.u64.wrap (Int.tdiv a0_0 a1))) ∧ w'.cell? ⟨gb103, 1, none⟩ = some (.int .u64 x104001_1) ∧ w'.cell? ⟨gb104, 0, none⟩ = some (.int .u64 x105000_1) ∧ w'.cell? ⟨gb104, 1, none⟩ = some (.int .u64 x105001_1)) (ds := []) #[false, false, false, false, false] (by kernel_rfl) rfl rfl ⟨(zq5 BK103.out 0).trans rfl, (zq5 BK103.out 1).trans rfl, (zq5 BK104.out 0).trans rfl, (zq5 BK104.out 1).trans rfl⟩ (fun hHeld => ?_)
     generalize wr.drew = w68 at BK101 BK102 BK103 BK104 HB hHeld ⊢
     refine pure_ (i := 1) (N := some 55) (v := ?_) (a' := ?_) #[false, true, false, false, false] rfl rfl (by kernel_rfl) (fun _ _ _ h => h) (Or.inl ⟨by rfl, ?_⟩) ?_ ?_
     rotate_left
     ·
      intro w'
      go_simp
      with_reducible rfl
     rotate_left
     ·
      simp only [Act.put, List.setIfInBounds_toArray, List.set_cons_zero, List.set_cons_succ, i64_w, i32_w]
      rfl
     refine take_ (i := 0) (N := some 54) (v := ?_) (a' := ?_) #[true, true, false, false, false] rfl rfl (by kernel_rfl) (fun _ _ _ h => h) (Or.inl ⟨by rfl, ?_⟩) hHeld ?_ ?_
     rotate_left
     ·
      rintro w' ⟨s0, s1, s2, s3⟩
      go_simp
      with_reducible rfl
     rotate_left
     ·
      simp only [Act.put, List.setIfInBounds_toArray, List.set_cons_zero, List.set_cons_succ, i64_w, i32_w]
      rfl
     refine take_ (i := 2) (N := some 56) (v := ?_) (a' := ?_) #[true, true, true, false, false] rfl rfl (by kernel_rfl) (fun _ _ _ h => h) (Or.inl ⟨by rfl, ?_⟩) hHeld ?_ ?_
     rotate_left
     ·
      rintro w' ⟨s0, s1, s2, s3⟩
      go_simp
      with_reducible rfl
     rotate_left
     ·
      simp only [Act.put, List.setIfInBounds_toArray, List.set_cons_zero, List.set_cons_succ, i64_w, i32_w]
      rfl
     refine one_ (i := 3) (N := none) #[true, true, true, true, false] rfl rfl (by kernel_rfl) (by decide) (fun K hK => ?_)
     have hs69 : w68.cell? ⟨gb102, 0, none⟩ = some (.int .u64 0) := (zq5 BK102.out 0).trans rfl
     have hfs69 := zq4 BK102.out 0
     have hns69_0 := NB101_102.out
     have hns69_2 := NB103_102.out
     have hns69_3 := NB104_102.out
     have hms69_0 := NB102_101.out
     have hms69_2 := NB102_103.out
     have hms69_3 := NB102_104.out
     have hs70 : w68.cell? ⟨gb102, 1, none⟩ = some (.int .u64 0) := (zq5 BK102.out 1).trans rfl
     have hfs70 := zq4 BK102.out 1
     have hns70_0 := NB101_102.out
     have hns70_2 := NB103_102.out
     have hns70_3 := NB104_102.out
     have hms70_0 := NB102_101.out
     have hms70_2 := NB102_103.out
     have hms70_3 := NB102_104.out
     refine skip_ (w1 := ?_) (by rfl) rfl ?_ ?_
     rotate_left
     ·
      go_simp
      rfl
     refine hK.out _ _ ⟨((cell_far (p := ⟨gb102, _, none⟩) NB103_102.out _).trans (((cell_far (p := ⟨gb102, _, none⟩) NB103_102.out _).trans (hHeld.1)))), ((cell_far (p := ⟨gb102, _, none⟩) NB103_102.out _).trans (((cell_far (p := ⟨gb102, _, none⟩) NB103_102.out _).trans (hHeld.2.1)))), ((cell_far (p := ⟨gb102, _, none⟩) NB104_102.out _).trans (((cell_far (p := ⟨gb102, _, none⟩) NB104_102.out _).trans (hHeld.2.2.1)))), ((cell_far (p := ⟨gb102, _, none⟩) NB104_102.out _).trans (((cell_far (p := ⟨gb102, _, none⟩) NB104_102.out _).trans (hHeld.2.2.2))))⟩ (fun hHeld => ?_)
     clear hK K
     refine pure_ (i := 4) (N := some 5) (v := ?_) (a' := ?_) #[true, true, true, true, true] rfl rfl (by kernel_rfl) (fun _ _ _ h => h) (Or.inl ⟨by rfl, ?_⟩) ?_ ?_
     rotate_left
     ·
      intro w'
      go_simp
      with_reducible rfl
     rotate_left
     ·
      simp only [Act.put, List.setIfInBounds_toArray, List.set_cons_zero, List.set_cons_succ, i64_w, i32_w]
      rfl
     refine done_ (by kernel_rfl) ?_
     try go_wp2
     refine bodyPost_ret (results_ct rfl _ _ gb102 42 #[.int .u64 (IntKind.u64.wrap (Int.tdiv a0_0 a1)), .int .u64 x104001_1] (0, 0) _ rfl (zw2 BK102) Try.underlying42 rfl (by kernel_rfl)) rfl ?_
     exact ⟨by first | rfl | (simp [errW_none, errW_some] <;> rfl) | (simp [*, errW_none, errW_some] <;> rfl), zh HB⟩

end Go.Proofs.Ytiaoaoebghnpkaa.P
end
section
namespace Go.Proofs.Ytiaoaoebghnpkaa.P
open Go.RowKit Go.Proofs.YtiaoaoebghnpkaaW.PrintWords Go.Proofs.YtiaoaoebghnpkaaW.PrintLast Go.Proofs.YtiaoaoebghnpkaaW.PrintMore
attribute [local go_sem] max2_int min2_int max_two min_two max_three min_three max_four min_four   -- for this text's walks alone
set_option linter.unusedVariables false
set_option linter.unusedSimpArgs false

theorem eqA26 (d : Nat) (w : World) (x0 y0 : Int) (x1 y1 : Int) :
    (Op.equalIn (d + 2) 26 (.agg #[.int .i64 x0, .int .i64 x1]) (.agg #[.int .i64 y0, .int .i64 y1])).run Try.prog w = .ok (x0 == y0 && (x1 == y1)) w := by
  refine eqA_of Try.underlying26 (by kernel_rfl) ?_
  refine eqf_cons (by rfl) (by go_simp; rfl) (by go_simp; rfl) (by go_simp) ?_
  exact eqf_last (by rfl) (by go_simp; rfl) (by go_simp; rfl) (by go_simp)
end Go.Proofs.Ytiaoaoebghnpkaa.P
end
