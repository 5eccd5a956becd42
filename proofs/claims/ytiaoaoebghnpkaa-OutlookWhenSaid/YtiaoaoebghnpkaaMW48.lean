/- Part of the proof. -/
import Derived.Test.YtiaoaoebghnpkaaMW18
import Derived.Test.YtiaoaoebghnpkaaMW19
import Derived.Test.YtiaoaoebghnpkaaMW42
import Derived.Test.YtiaoaoebghnpkaaMW30
import Derived.Test.YtiaoaoebghnpkaaMW46
namespace Go.Proofs.Ytiaoaoebghnpkaa.P
open Go.RowKit Go.Proofs.YtiaoaoebghnpkaaW.PrintWords Go.Proofs.YtiaoaoebghnpkaaW.PrintLast Go.Proofs.YtiaoaoebghnpkaaW.PrintMore
attribute [local go_sem] max2_int min2_int max_two min_two max_three min_three max_four min_four   -- for this text's walks alone
set_option linter.unusedVariables false
set_option linter.unusedSimpArgs false

/-! ### weighbridgelaw30_OutlookWhen: function 6 -/
def weighbridgelaw30_OutlookWhen.f (k : Nat) (a0_0 : Int) (a0_1 : Bool) (a0_2 : Int) (a0_3 : Int) (a0_4 : Int) (a0_5 : Int) (a1_0 : Int) (a1_1 : Int) (a1_2 : Int) (a1_3 : Bool) (a2_0 : Int) (a2_1 : Int) : Option (Bool) := (outlook_When.f k a0_0 a0_1 a0_2 a0_3 a0_4 a0_5 a1_0 a1_1 a1_2 a1_3 a2_0 a2_1).bind fun bt104 => ((weighbridgeref30_When.f k a0_0 a0_1 a0_2 a0_3 a0_4 a0_5 a1_0 a1_1 a1_2 a1_3 a2_0 a2_1).bind fun bt106 => ((outlook_Idle.f a0_0 a0_1 a0_2 a0_3 a0_4 a0_5 a1_0 a1_1 a1_2 a1_3).bind fun bt108 => ((weighbridgeref30_Idle.f k a0_0 a0_1 a0_2 a0_3 a0_4 a0_5 a1_0 a1_1 a1_2 a1_3).bind fun bt110 => ((weighbridgelaw30_live.f k).bind fun t112 => (if t112 = true then (if bt104.1 = bt106.1 then (if (bt104.2 == bt106.2) = true then (if bt108.1 = bt110.1 then (some (bt108.2 == bt110.2)) else (none)) else (none)) else (none)) else (none))))))
set_option maxHeartbeats 8000000 in
set_option maxRecDepth 100000 in
theorem weighbridgelaw30_OutlookWhen.calls (k : Nat) (a0_0 : Int) (a0_1 : Bool) (a0_2 : Int) (a0_3 : Int) (a0_4 : Int) (a0_5 : Int) (a1_0 : Int) (a1_1 : Int) (a1_2 : Int) (a1_3 : Bool) (a2_0 : Int) (a2_1 : Int) (r : Bool) (w : World) (h : weighbridgelaw30_OutlookWhen.f k a0_0 a0_1 a0_2 a0_3 a0_4 a0_5 a1_0 a1_1 a1_2 a1_3 a2_0 a2_1 = some r) :
    Calls Try.prog 6 #[.agg #[.int .i64 a0_0, .bool a0_1, .int .u64 a0_2, .int .u64 a0_3, .int .u64 a0_4, .int .u64 a0_5], .agg #[.int .u64 a1_0, .int .u64 a1_1, .int .u64 a1_2, .bool a1_3], .agg #[.int .i64 a2_0, .int .i64 a2_1]] w fun e w' => e = .returned (.bool r) ∧ Below w.heap.size w w' := by
  have hu49 := Try.underlying49
  have hu51 := Try.underlying51
  have hu52 := Try.underlying52
  have HB := zq3 (Below.refl w.heap.size w)
  have H : ((outlook_When.f k a0_0 a0_1 a0_2 a0_3 a0_4 a0_5 a1_0 a1_1 a1_2 a1_3 a2_0 a2_1).bind fun bt104 => ((weighbridgeref30_When.f k a0_0 a0_1 a0_2 a0_3 a0_4 a0_5 a1_0 a1_1 a1_2 a1_3 a2_0 a2_1).bind fun bt106 => ((outlook_Idle.f a0_0 a0_1 a0_2 a0_3 a0_4 a0_5 a1_0 a1_1 a1_2 a1_3).bind fun bt108 => ((weighbridgeref30_Idle.f k a0_0 a0_1 a0_2 a0_3 a0_4 a0_5 a1_0 a1_1 a1_2 a1_3).bind fun bt110 => ((weighbridgelaw30_live.f k).bind fun t112 => (if t112 = true then (if bt104.1 = bt106.1 then (if (bt104.2 == bt106.2) = true then (if bt108.1 = bt110.1 then (some (bt108.2 == bt110.2)) else (none)) else (none)) else (none)) else (none))))))) = some r := h
  clear h
  replace H := Option.bind_eq_some_iff.mp H
  obtain ⟨⟨t104, t105⟩, A40, H⟩ := H
  replace H : ((weighbridgeref30_When.f k a0_0 a0_1 a0_2 a0_3 a0_4 a0_5 a1_0 a1_1 a1_2 a1_3 a2_0 a2_1).bind fun bt106 => ((outlook_Idle.f a0_0 a0_1 a0_2 a0_3 a0_4 a0_5 a1_0 a1_1 a1_2 a1_3).bind fun bt108 => ((weighbridgeref30_Idle.f k a0_0 a0_1 a0_2 a0_3 a0_4 a0_5 a1_0 a1_1 a1_2 a1_3).bind fun bt110 => ((weighbridgelaw30_live.f k).bind fun t112 => (if t112 = true then (if t104 = bt106.1 then (if (t105 == bt106.2) = true then (if bt108.1 = bt110.1 then (some (bt108.2 == bt110.2)) else (none)) else (none)) else (none)) else (none)))))) = some r := H
  have A4 := zq3 A40
  clear A40
  replace H := Option.bind_eq_some_iff.mp H
  obtain ⟨⟨t106, t107⟩, A50, H⟩ := H
  replace H : ((outlook_Idle.f a0_0 a0_1 a0_2 a0_3 a0_4 a0_5 a1_0 a1_1 a1_2 a1_3).bind fun bt108 => ((weighbridgeref30_Idle.f k a0_0 a0_1 a0_2 a0_3 a0_4 a0_5 a1_0 a1_1 a1_2 a1_3).bind fun bt110 => ((weighbridgelaw30_live.f k).bind fun t112 => (if t112 = true then (if t104 = t106 then (if (t105 == t107) = true then (if bt108.1 = bt110.1 then (some (bt108.2 == bt110.2)) else (none)) else (none)) else (none)) else (none))))) = some r := H
  have A5 := zq3 A50
  clear A50
  replace H := Option.bind_eq_some_iff.mp H
  obtain ⟨⟨t108, t109⟩, A60, H⟩ := H
  replace H : ((weighbridgeref30_Idle.f k a0_0 a0_1 a0_2 a0_3 a0_4 a0_5 a1_0 a1_1 a1_2 a1_3).bind fun bt110 => ((weighbridgelaw30_live.f k).bind fun t112 => (if t112 = true then (if t104 = t106 then (if (t105 == t107) = true then (if t108 = bt110.1 then (some (t109 == bt110.2)) else (none)) else (none)) else (none)) else (none)))) = some r := H
  have A6 := zq3 A60
  clear A60
  replace H := Option.bind_eq_some_iff.mp H
  obtain ⟨⟨t110, t111⟩, A70, H⟩ := H
  replace H : ((weighbridgelaw30_live.f k).bind fun t112 => (if t112 = true then (if t104 = t106 then (if (t105 == t107) = true then (if t108 = t110 then (some (t109 == t111)) else (none)) else (none)) else (none)) else (none))) = some r := H
  have A7 := zq3 A70
  clear A70
  replace H := Option.bind_eq_some_iff.mp H
  obtain ⟨t112, A80, H⟩ := H
  replace H : (if t112 = true then (if t104 = t106 then (if (t105 == t107) = true then (if t108 = t110 then (some (t109 == t111)) else (none)) else (none)) else (none)) else (none)) = some r := H
  have A8 := zq3 A80
  clear A80
  by_cases c9 : t112 = true
  · subst c9
    have H1 : (if t104 = t106 then (if (t105 == t107) = true then (if t108 = t110 then (some (t109 == t111)) else (none)) else (none)) else (none)) = some r := by rw [if_pos rfl] at H; exact H
    clear H
    have H := H1
    clear H1
    by_cases c10 : t104 = t106
    · rw [if_pos c10] at H
      have c10b0 : (t104 == t106) = true := beq_iff_eq.mpr c10
      have c10b1 : (t104 != t106) = false := bne_eq_false_iff_eq.mpr c10
      clear c10
      by_cases c11 : (t105 == t107) = true
      · rw [if_pos c11] at H
        have c11b0 : (t105 == t107) = true := c11
        (try (have c11b1 : decide (t105 = t107) = true := by simpa using c11))
        (try (have c11b2 : (t105 == t107) = true := by simpa using c11))
        clear c11
        by_cases c12 : t108 = t110
        · rw [if_pos c12] at H
          have c12b0 : (t108 == t110) = true := beq_iff_eq.mpr c12
          have c12b1 : (t108 != t110) = false := bne_eq_false_iff_eq.mpr c12
          clear c12
          obtain rfl := Option.some.inj H
          go_enter Try.func6, Try.ntmps6
          go_wp2_with (first | ((with_reducible refine zd 3 rfl ?_); refine zb 3 #[.int .i64 a0_0, .bool a0_1, .int .u64 a0_2, .int .u64 a0_3, .int .u64 a0_4, .int .u64 a0_5] 49 ?_; intro gb101 hg w13 hbox hb; have BK101 := zq3 (hbox); have GW101 := ze hg HB; have GE101 := GW101; replace HB := zt HB hb; clear hb hbox hg) | ((with_reducible refine zd 4 rfl ?_); refine zb 4 #[.int .u64 a1_0, .int .u64 a1_1, .int .u64 a1_2, .bool a1_3] 51 ?_; intro gb102 hg w14 hbox hb; have BK102 := zq3 (hbox); have GW102 := ze hg HB; have GE102 := GW102; have NB101_102 := zl hg BK101; have NB102_101 := zg hg BK101; replace BK101 := zs BK101 hb; replace HB := zt HB hb; clear hb hbox hg) | ((with_reducible refine zd 5 rfl ?_); refine zb 5 #[.int .i64 a2_0, .int .i64 a2_1] 52 ?_; intro gb103 hg w15 hbox hb; have BK103 := zq3 (hbox); have GW103 := ze hg HB; have GE103 := GW103; have NB101_103 := zl hg BK101; have NB103_101 := zg hg BK101; have NB102_103 := zl hg BK102; have NB103_102 := zg hg BK102; replace BK101 := zs BK101 hb; replace BK102 := zs BK102 hb; replace HB := zt HB hb; clear hb hbox hg; have hnb16 := NB101_102.out; have hnc16 := NB102_101.out; have hnb17 := NB101_103.out; have hnc17 := NB103_101.out; obtain ⟨hc18_0, hc18_1, hc18_2, hc18_3, hc18_4, hc18_5⟩ := zc6 BK101; obtain ⟨hf18_0, hf18_1, hf18_2, hf18_3, hf18_4, hf18_5⟩ := zf6 BK101; have hnb19 := NB102_103.out; have hnc19 := NB103_102.out; obtain ⟨hc20_0, hc20_1, hc20_2, hc20_3⟩ := zc4 BK102; obtain ⟨hf20_0, hf20_1, hf20_2, hf20_3⟩ := zf4 BK102; obtain ⟨hc21_0, hc21_1⟩ := zc2 BK103; obtain ⟨hf21_0, hf21_1⟩ := zf2 BK103) | ((with_reducible refine gate_callee (f := 26) rfl ?_); refine zgo (some 22) Try.func26 #[.agg #[.int .i64 a0_0, .bool a0_1, .int .u64 a0_2, .int .u64 a0_3, .int .u64 a0_4, .int .u64 a0_5], .agg #[.int .u64 a1_0, .int .u64 a1_1, .int .u64 a1_2, .bool a1_3], .int .i64 a2_0, .int .i64 a2_1] ?_; (with_reducible refine (outlook_When.calls k a0_0 a0_1 a0_2 a0_3 a0_4 a0_5 a1_0 a1_1 a1_2 a1_3 a2_0 a2_1 t104 t105 _ A4.out).mono ?_); rintro e w22 ⟨rfl, hb⟩; refine ⟨_, rfl, ?_⟩; replace BK101 := zs BK101 hb; replace BK102 := zs BK102 hb; replace BK103 := zs BK103 hb; replace HB := zt HB hb; (try clear hb); obtain ⟨hc23_0, hc23_1, hc23_2, hc23_3, hc23_4, hc23_5⟩ := zc6 BK101; obtain ⟨hf23_0, hf23_1, hf23_2, hf23_3, hf23_4, hf23_5⟩ := zf6 BK101; obtain ⟨hc24_0, hc24_1, hc24_2, hc24_3⟩ := zc4 BK102; obtain ⟨hf24_0, hf24_1, hf24_2, hf24_3⟩ := zf4 BK102; obtain ⟨hc25_0, hc25_1⟩ := zc2 BK103; obtain ⟨hf25_0, hf25_1⟩ := zf2 BK103) | ((with_reducible refine gate_callee (f := 27) rfl ?_); refine zgo (some 32) Try.func27 #[.agg #[.int .i64 a0_0, .bool a0_1, .int .u64 a0_2, .int .u64 a0_3, .int .u64 a0_4, .int .u64 a0_5], .agg #[.int .u64 a1_0, .int .u64 a1_1, .int .u64 a1_2, .bool a1_3], .int .i64 a2_0, .int .i64 a2_1] ?_; (with_reducible refine (weighbridgeref30_When.calls k a0_0 a0_1 a0_2 a0_3 a0_4 a0_5 a1_0 a1_1 a1_2 a1_3 a2_0 a2_1 t106 t107 _ A5.out).mono ?_); rintro e w26 ⟨rfl, hb⟩; refine ⟨_, rfl, ?_⟩; replace BK101 := zs BK101 hb; replace BK102 := zs BK102 hb; replace BK103 := zs BK103 hb; replace HB := zt HB hb; (try clear hb); obtain ⟨hc27_0, hc27_1, hc27_2, hc27_3, hc27_4, hc27_5⟩ := zc6 BK101; obtain ⟨hf27_0, hf27_1, hf27_2, hf27_3, hf27_4, hf27_5⟩ := zf6 BK101; obtain ⟨hc28_0, hc28_1, hc28_2, hc28_3⟩ := zc4 BK102; obtain ⟨hf28_0, hf28_1, hf28_2, hf28_3⟩ := zf4 BK102) | ((with_reducible refine gate_callee (f := 28) rfl ?_); refine zgo (some 38) Try.func28 #[.agg #[.int .i64 a0_0, .bool a0_1, .int .u64 a0_2, .int .u64 a0_3, .int .u64 a0_4, .int .u64 a0_5], .agg #[.int .u64 a1_0, .int .u64 a1_1, .int .u64 a1_2, .bool a1_3]] ?_; (with_reducible refine (outlook_Idle.calls a0_0 a0_1 a0_2 a0_3 a0_4 a0_5 a1_0 a1_1 a1_2 a1_3 t108 t109 _ A6.out).mono ?_); rintro e w29 ⟨rfl, hb⟩; refine ⟨_, rfl, ?_⟩; replace BK101 := zs BK101 hb; replace BK102 := zs BK102 hb; replace BK103 := zs BK103 hb; replace HB := zt HB hb; (try clear hb); obtain ⟨hc30_0, hc30_1, hc30_2, hc30_3, hc30_4, hc30_5⟩ := zc6 BK101; obtain ⟨hf30_0, hf30_1, hf30_2, hf30_3, hf30_4, hf30_5⟩ := zf6 BK101; obtain ⟨hc31_0, hc31_1, hc31_2, hc31_3⟩ := zc4 BK102; obtain ⟨hf31_0, hf31_1, hf31_2, hf31_3⟩ := zf4 BK102) | ((with_reducible refine gate_callee (f := 29) rfl ?_); refine zgo (some 44) Try.func29 #[.agg #[.int .i64 a0_0, .bool a0_1, .int .u64 a0_2, .int .u64 a0_3, .int .u64 a0_4, .int .u64 a0_5], .agg #[.int .u64 a1_0, .int .u64 a1_1, .int .u64 a1_2, .bool a1_3]] ?_; (with_reducible refine (weighbridgeref30_Idle.calls k a0_0 a0_1 a0_2 a0_3 a0_4 a0_5 a1_0 a1_1 a1_2 a1_3 t110 t111 _ A7.out).mono ?_); rintro e w32 ⟨rfl, hb⟩; refine ⟨_, rfl, ?_⟩; replace BK101 := zs BK101 hb; replace BK102 := zs BK102 hb; replace BK103 := zs BK103 hb; replace HB := zt HB hb; (try clear hb)) | ((with_reducible refine gate_callee (f := 30) rfl ?_); refine zgo (some 47) Try.func30 #[] ?_; (with_reducible refine (weighbridgelaw30_live.calls k  true _ A8.out).mono ?_); rintro e w33 ⟨rfl, hb⟩; refine ⟨_, rfl, ?_⟩; replace BK101 := zs BK101 hb; replace BK102 := zs BK102 hb; replace BK103 := zs BK103 hb; replace HB := zt HB hb; (try clear hb)))
          go_ret
          exact ⟨by first | rfl | (simp [errW_none, errW_some] <;> rfl) | (simp [*, errW_none, errW_some] <;> rfl), by repeat (first | (with_reducible first | exact HB.out | apply zq9 | apply zq7 | apply zq8 | refine zq6 ?_ GE101.out | refine zq6 ?_ GE102.out | refine zq6 ?_ GE103.out) | exact HB.out)⟩
        · rw [if_neg c12] at H
          exact absurd H (by simp)
      · rw [if_neg c11] at H
        exact absurd H (by simp)
    · rw [if_neg c10] at H
      exact absurd H (by simp)
  · replace c9 := Bool.eq_false_iff.mpr c9
    subst c9
    have H1 : (none) = some r := by rw [if_neg (show ¬ (false = true) by decide)] at H; exact H
    clear H
    have H := H1
    clear H1
    exact absurd H (by simp)

end Go.Proofs.Ytiaoaoebghnpkaa.P
