/- Parts of the proof, in one text. -/
import Derived.Test.YtiaoaoebghnpkaaKP10
import Derived.Test.YtiaoaoebghnpkaaKP11
import Derived.Test.YtiaoaoebghnpkaaKP22
section
namespace Go.Proofs.Ytiaoaoebghnpkaa.P
open Go.RowKit Go.Proofs.YtiaoaoebghnpkaaW.PrintWords Go.Proofs.YtiaoaoebghnpkaaW.PrintLast Go.Proofs.YtiaoaoebghnpkaaW.PrintMore
attribute [local go_sem] max2_int min2_int max_two min_two max_three min_three max_four min_four   -- for this text's walks alone
set_option linter.unusedVariables false
set_option linter.unusedSimpArgs false

/-! ### single_Step: function 130 -/
def single_Step.j0 : Nat → Int → Int → Int → Bool → Int → Bool → Int → Int → Int → Int → Int → Int → Int → Bool → Option (Int × Int × Int × Bool × Int)
 | 0, _, _, _, _, _, _, _, _, _, _, _, _, _, _ => none
 | k + 1, x2, x3, x4, x19, x102000, x102001, x102002, x102003, x102004, x102005, x103000, x103001, x103002, x103003 => if x19 = true then (some (x103000, x103001, x103002, x103003, 2)) else ((single_grown.f x102000 x102001 x102002 x102003 x102004 x102005 x103000 x103001 x103002 x103003 x2).bind fun bt105 => ((single_counts.f x102000 x102001 x102002 x102003 x102004 x102005 x4).bind fun t109 => (if t109 = 0 then ((bucket_Take.f bt105.1 x3).bind fun bt112 => (if bt112.2 = true then (some (bt112.1, bt105.2.1, bt105.2.2.1, bt105.2.2.2, 0)) else ((bucket_Take.f bt105.2.1 x3).bind fun bt114 => (if bt114.2 = true then (some (bt112.1, bt114.1, bt105.2.2.1, bt105.2.2.2, 1)) else (some (bt112.1, bt114.1, bt105.2.2.1, bt105.2.2.2, 2)))))) else (if t109 = 1 then ((bucket_Take.f bt105.2.1 x3).bind fun bt110 => (if bt110.2 = true then (some (bt105.1, bt110.1, bt105.2.2.1, bt105.2.2.2, 1)) else (some (bt105.1, bt110.1, bt105.2.2.1, bt105.2.2.2, 2)))) else (some (bt105.1, bt105.2.1, bt105.2.2.1, bt105.2.2.2, 2))))))
def single_Step.f (k : Nat) (a0_0 : Int) (a0_1 : Bool) (a0_2 : Int) (a0_3 : Int) (a0_4 : Int) (a0_5 : Int) (a1_0 : Int) (a1_1 : Int) (a1_2 : Int) (a1_3 : Bool) (a2 : Int) (a3 : Int) (a4 : Int) : Option (Int × Int × Int × Bool × Int) := (single_Check.f k a0_0 a0_1 a0_2 a0_3 a0_4 a0_5).bind fun t104 => (if t104 = 0 then (single_Step.j0 k a2 a3 a4 (decide (a3 < 0)) a0_0 a0_1 a0_2 a0_3 a0_4 a0_5 a1_0 a1_1 a1_2 a1_3) else (single_Step.j0 k a2 a3 a4 true a0_0 a0_1 a0_2 a0_3 a0_4 a0_5 a1_0 a1_1 a1_2 a1_3))
set_option maxHeartbeats 8000000 in
set_option maxRecDepth 100000 in
theorem single_Step.calls (k : Nat) (a0_0 : Int) (a0_1 : Bool) (a0_2 : Int) (a0_3 : Int) (a0_4 : Int) (a0_5 : Int) (a1_0 : Int) (a1_1 : Int) (a1_2 : Int) (a1_3 : Bool) (a2 : Int) (a3 : Int) (a4 : Int) (r1 : Int) (r2 : Int) (r3 : Int) (r4 : Bool) (r5 : Int) (w : World) (h : single_Step.f k a0_0 a0_1 a0_2 a0_3 a0_4 a0_5 a1_0 a1_1 a1_2 a1_3 a2 a3 a4 = some (r1, r2, r3, r4, r5)) :
  Calls Try.prog 130 #[.agg #[.int .i64 a0_0, .bool a0_1, .int .u64 a0_2, .int .u64 a0_3, .int .u64 a0_4, .int .u64 a0_5], .agg #[.int .u64 a1_0, .int .u64 a1_1, .int .u64 a1_2, .bool a1_3], .int .u64 a2, .int .i64 a3, .int .i64 a4] w fun e w' => e = .returned (.tuple #[.agg #[.int .u64 r1, .int .u64 r2, .int .u64 r3, .bool r4], .int .i64 r5]) ∧ Below w.heap.size w w' := by
 have hu49 := Try.underlying49
 have hu51 := Try.underlying51
 have HB := zq3 (Below.refl w.heap.size w)
 have H : ((single_Check.f k a0_0 a0_1 a0_2 a0_3 a0_4 a0_5).bind fun t104 => (if t104 = 0 then (single_Step.j0 k a2 a3 a4 (decide (a3 < 0)) a0_0 a0_1 a0_2 a0_3 a0_4 a0_5 a1_0 a1_1 a1_2 a1_3) else (single_Step.j0 k a2 a3 a4 true a0_0 a0_1 a0_2 a0_3 a0_4 a0_5 a1_0 a1_1 a1_2 a1_3))) = some (r1, r2, r3, r4, r5) := h
 clear h
 have HC6 := zq3 H
 clear H
 go_enter Try.func130, Try.ntmps130
 go_upto_region 1 with (first | ((with_reducible refine zd 5 rfl ?_); refine zb 5 #[.int .i64 a0_0, .bool a0_1, .int .u64 a0_2, .int .u64 a0_3, .int .u64 a0_4, .int .u64 a0_5] 49 ?_; intro gb101 hg w7 hbox hb; have BK101 := zq3 (hbox); have GW101 := ze hg HB; have GE101 := GW101; replace HB := zt HB hb; clear hb hbox hg) | ((with_reducible refine zd 6 rfl ?_); refine zb 6 #[.int .u64 a1_0, .int .u64 a1_1, .int .u64 a1_2, .bool a1_3] 51 ?_; intro gb102 hg w8 hbox hb; have BK102 := zq3 (hbox); have GW102 := ze hg HB; have GE102 := GW102; have NB101_102 := zl hg BK101; have NB102_101 := zg hg BK101; replace BK101 := zs BK101 hb; replace HB := zt HB hb; clear hb hbox hg) | ((with_reducible refine zd 10 rfl ?_); refine zb 10 #[.int .u64 0, .int .u64 0, .int .u64 0, .bool false] 51 ?_; intro gb103 hg w9 hbox hb; have BK103 := zq3 (hbox); have GW103 := ze hg HB; have GE103 := GW103; have NB101_103 := zl hg BK101; have NB103_101 := zg hg BK101; have NB102_103 := zl hg BK102; have NB103_102 := zg hg BK102; replace BK101 := zs BK101 hb; replace BK102 := zs BK102 hb; replace HB := zt HB hb; clear hb hbox hg))
 (try simp only [Act.put, List.setIfInBounds_toArray, List.set_cons_zero, List.set_cons_succ])
 go_cut [19] (fun v19 wc => ∃ (kq : Nat) (x19_5 : Bool), v19 = .bool x19_5 ∧ Aside0 (single_Step.j0 kq a2 a3 a4 x19_5 a0_0 a0_1 a0_2 a0_3 a0_4 a0_5 a1_0 a1_1 a1_2 a1_3 = some (r1, r2, r3, r4, r5)) ∧ Aside0 (kq ≤ k) ∧ Aside0 (wc.heap[gb101]? = some (.cells #[.int .i64 a0_0, .bool a0_1, .int .u64 a0_2, .int .u64 a0_3, .int .u64 a0_4, .int .u64 a0_5] 49 (0, 0))) ∧ Aside0 (wc.heap[gb102]? = some (.cells #[.int .u64 a1_0, .int .u64 a1_1, .int .u64 a1_2, .bool a1_3] 51 (0, 0))) ∧ Aside0 (wc.heap[gb103]? = some (.cells #[.int .u64 0, .int .u64 0, .int .u64 0, .bool false] 51 (0, 0))) ∧ Aside0 (Below w.heap.size w wc))
 case first =>
  have H := HC6.out
  clear HC6
  replace H := Option.bind_eq_some_iff.mp H
  obtain ⟨t104, A100, H⟩ := H
  replace H : (if t104 = 0 then (single_Step.j0 k a2 a3 a4 (decide (a3 < 0)) a0_0 a0_1 a0_2 a0_3 a0_4 a0_5 a1_0 a1_1 a1_2 a1_3) else (single_Step.j0 k a2 a3 a4 true a0_0 a0_1 a0_2 a0_3 a0_4 a0_5 a1_0 a1_1 a1_2 a1_3)) = some (r1, r2, r3, r4, r5) := H
  have A10 := zq3 A100
  clear A100
  by_cases c11 : t104 = 0
  ·
   rw [if_pos c11] at H
   have c11b0 : (t104 == 0) = true := beq_iff_eq.mpr c11
   have c11b1 : (t104 != 0) = false := bne_eq_false_iff_eq.mpr c11
   clear c11
   (first | rw [c11b0] | (simp only [i64_w, i32_w]; rw [c11b0]) | skip)
   have H' := zq3 H
   clear H
   have hnb12 := NB101_102.out
   have hnc12 := NB102_101.out
   have hnb13 := NB101_103.out
   have hnc13 := NB103_101.out
   obtain ⟨hc14_0, hc14_1, hc14_2, hc14_3, hc14_4, hc14_5⟩ := zc6 BK101
   obtain ⟨hf14_0, hf14_1, hf14_2, hf14_3, hf14_4, hf14_5⟩ := zf6 BK101
   go_wp2_with (first | ((with_reducible refine gate_callee (f := 128) rfl ?_); refine zgo (some 14) Try.func128 #[.agg #[.int .i64 a0_0, .bool a0_1, .int .u64 a0_2, .int .u64 a0_3, .int .u64 a0_4, .int .u64 a0_5]] ?_; (with_reducible refine (single_Check.calls k a0_0 a0_1 a0_2 a0_3 a0_4 a0_5 t104 _ A10.out).mono ?_); rintro e w15 ⟨rfl, hb⟩; refine ⟨_, rfl, ?_⟩; replace BK101 := zs BK101 hb; replace BK102 := zs BK102 hb; replace BK103 := zs BK103 hb; replace HB := zt HB hb; (try clear hb)))
   go_meet
   case rel => exact ⟨_, (decide (a3 < 0)), (by first | rfl | (simp; done) | (simp [*]; done)), H', ⟨by first | omega | exact Nat.le_refl _⟩, ⟨zw BK101⟩, ⟨zw BK102⟩, ⟨zw BK103⟩, ⟨zh HB⟩⟩
  ·
   rw [if_neg c11] at H
   have c11b0 : (t104 == 0) = false := beq_eq_false_iff_ne.mpr c11
   have c11b1 : (t104 != 0) = true := bne_iff_ne.mpr c11
   (first | rw [c11b0] | (simp only [i64_w, i32_w]; rw [c11b0]) | skip)
   have H' := zq3 H
   clear H
   have hnb16 := NB101_102.out
   have hnc16 := NB102_101.out
   have hnb17 := NB101_103.out
   have hnc17 := NB103_101.out
   obtain ⟨hc18_0, hc18_1, hc18_2, hc18_3, hc18_4, hc18_5⟩ := zc6 BK101
   obtain ⟨hf18_0, hf18_1, hf18_2, hf18_3, hf18_4, hf18_5⟩ := zf6 BK101
   go_wp2_with (first | ((with_reducible refine gate_callee (f := 128) rfl ?_); refine zgo (some 14) Try.func128 #[.agg #[.int .i64 a0_0, .bool a0_1, .int .u64 a0_2, .int .u64 a0_3, .int .u64 a0_4, .int .u64 a0_5]] ?_; (with_reducible refine (single_Check.calls k a0_0 a0_1 a0_2 a0_3 a0_4 a0_5 t104 _ A10.out).mono ?_); rintro e w19 ⟨rfl, hb⟩; refine ⟨_, rfl, ?_⟩; replace BK101 := zs BK101 hb; replace BK102 := zs BK102 hb; replace BK103 := zs BK103 hb; replace HB := zt HB hb; (try clear hb)))
   go_meet
   case rel => exact ⟨_, (true), (by first | rfl | (simp; done) | (simp [*]; done)), H', ⟨by first | omega | exact Nat.le_refl _⟩, ⟨zw BK101⟩, ⟨zw BK102⟩, ⟨zw BK103⟩, ⟨zh HB⟩⟩
 case rest =>
  clear HC6
  (try clear c1); (try clear p2); (try clear c11); (try clear c11b0); (try clear c11b1); (try clear c12); (try clear c13); (try clear c16); (try clear c17)
  try clear hc14_0 hc14_1 hc14_2 hc14_3 hc14_4 hc14_5 hc18_0 hc18_1 hc18_2 hc18_3 hc18_4 hc18_5 hf14_0 hf14_1 hf14_2 hf14_3 hf14_4 hf14_5 hf18_0 hf18_1 hf18_2 hf18_3 hf18_4 hf18_5
  obtain ⟨kq, x19_5, rfl, HA, HJ5, BK101, BK102, BK103, HB⟩ := hcut
  cases kq with
  | zero => exact absurd HA.out (by simp [single_Step.j0])
  | succ kj5 =>
   have H := HA.out
   clear HA
   simp only [single_Step.j0] at H
   by_cases c20 : x19_5 = true
   ·
    subst c20
    have H1 : (some (a1_0, a1_1, a1_2, a1_3, 2)) = some (r1, r2, r3, r4, r5) := by rw [if_pos rfl] at H; exact H
    clear H
    have H := H1
    clear H1
    simp only [Option.some.injEq, Prod.mk.injEq] at H
    obtain ⟨rfl, rfl, rfl, rfl, rfl⟩ := H
    have hnb21 := NB102_101.out
    have hnc21 := NB101_102.out
    have hnb22 := NB102_103.out
    have hnc22 := NB103_102.out
    obtain ⟨hc23_0, hc23_1, hc23_2, hc23_3⟩ := zc4 BK102
    obtain ⟨hf23_0, hf23_1, hf23_2, hf23_3⟩ := zf4 BK102
    have hnb24 := NB103_101.out
    have hnc24 := NB101_103.out
    obtain ⟨hc25_0, hc25_1, hc25_2, hc25_3⟩ := zc4 BK103
    obtain ⟨hf25_0, hf25_1, hf25_2, hf25_3⟩ := zf4 BK103
    go_wp2
    refine bodyPost_ret (results_ct rfl _ _ gb103 51 #[.int .u64 a1_0, .int .u64 a1_1, .int .u64 a1_2, .bool a1_3] (0, 0) _ rfl (zw4 BK103) Try.underlying51 rfl (by kernel_rfl)) rfl ?_
    exact ⟨by first | rfl | (simp [errW_none, errW_some] <;> rfl) | (simp [*, errW_none, errW_some] <;> rfl), zh HB⟩
   ·
    replace c20 := Bool.eq_false_iff.mpr c20
    subst c20
    have H1 : ((single_grown.f a0_0 a0_1 a0_2 a0_3 a0_4 a0_5 a1_0 a1_1 a1_2 a1_3 a2).bind fun bt105 => ((single_counts.f a0_0 a0_1 a0_2 a0_3 a0_4 a0_5 a4).bind fun t109 => (if t109 = 0 then ((bucket_Take.f bt105.1 a3).bind fun bt112 => (if bt112.2 = true then (some (bt112.1, bt105.2.1, bt105.2.2.1, bt105.2.2.2, 0)) else ((bucket_Take.f bt105.2.1 a3).bind fun bt114 => (if bt114.2 = true then (some (bt112.1, bt114.1, bt105.2.2.1, bt105.2.2.2, 1)) else (some (bt112.1, bt114.1, bt105.2.2.1, bt105.2.2.2, 2)))))) else (if t109 = 1 then ((bucket_Take.f bt105.2.1 a3).bind fun bt110 => (if bt110.2 = true then (some (bt105.1, bt110.1, bt105.2.2.1, bt105.2.2.2, 1)) else (some (bt105.1, bt110.1, bt105.2.2.1, bt105.2.2.2, 2)))) else (some (bt105.1, bt105.2.1, bt105.2.2.1, bt105.2.2.2, 2)))))) = some (r1, r2, r3, r4, r5) := by rw [if_neg (show ¬ (false = true) by decide)] at H; exact H
    clear H
    have H := H1
    clear H1
    replace H := Option.bind_eq_some_iff.mp H
    obtain ⟨⟨t105, t106, t107, t108⟩, A260, H⟩ := H
    replace H : ((single_counts.f a0_0 a0_1 a0_2 a0_3 a0_4 a0_5 a4).bind fun t109 => (if t109 = 0 then ((bucket_Take.f t105 a3).bind fun bt112 => (if bt112.2 = true then (some (bt112.1, t106, t107, t108, 0)) else ((bucket_Take.f t106 a3).bind fun bt114 => (if bt114.2 = true then (some (bt112.1, bt114.1, t107, t108, 1)) else (some (bt112.1, bt114.1, t107, t108, 2)))))) else (if t109 = 1 then ((bucket_Take.f t106 a3).bind fun bt110 => (if bt110.2 = true then (some (t105, bt110.1, t107, t108, 1)) else (some (t105, bt110.1, t107, t108, 2)))) else (some (t105, t106, t107, t108, 2))))) = some (r1, r2, r3, r4, r5) := H
    have A26 := zq3 A260
    clear A260
    replace H := Option.bind_eq_some_iff.mp H
    obtain ⟨t109, A270, H⟩ := H
    replace H : (if t109 = 0 then ((bucket_Take.f t105 a3).bind fun bt112 => (if bt112.2 = true then (some (bt112.1, t106, t107, t108, 0)) else ((bucket_Take.f t106 a3).bind fun bt114 => (if bt114.2 = true then (some (bt112.1, bt114.1, t107, t108, 1)) else (some (bt112.1, bt114.1, t107, t108, 2)))))) else (if t109 = 1 then ((bucket_Take.f t106 a3).bind fun bt110 => (if bt110.2 = true then (some (t105, bt110.1, t107, t108, 1)) else (some (t105, bt110.1, t107, t108, 2)))) else (some (t105, t106, t107, t108, 2)))) = some (r1, r2, r3, r4, r5) := H
    have A27 := zq3 A270
    clear A270
    by_cases c28 : t109 = 0
    ·
     rw [if_pos c28] at H
     have c28b0 : (t109 == 0) = true := beq_iff_eq.mpr c28
     have c28b1 : (t109 != 0) = false := bne_eq_false_iff_eq.mpr c28
     clear c28
     replace H := Option.bind_eq_some_iff.mp H
     obtain ⟨⟨t112, t113⟩, A290, H⟩ := H
     replace H : (if t113 = true then (some (t112, t106, t107, t108, 0)) else ((bucket_Take.f t106 a3).bind fun bt114 => (if bt114.2 = true then (some (t112, bt114.1, t107, t108, 1)) else (some (t112, bt114.1, t107, t108, 2))))) = some (r1, r2, r3, r4, r5) := H
     have A29 := zq3 A290
     clear A290
     by_cases c30 : t113 = true
     ·
      subst c30
      have H1 : (some (t112, t106, t107, t108, 0)) = some (r1, r2, r3, r4, r5) := by rw [if_pos rfl] at H; exact H
      clear H
      have H := H1
      clear H1
      simp only [Option.some.injEq, Prod.mk.injEq] at H
      obtain ⟨rfl, rfl, rfl, rfl, rfl⟩ := H
      have hnb31 := NB101_102.out
      have hnc31 := NB102_101.out
      have hnb32 := NB101_103.out
      have hnc32 := NB103_101.out
      obtain ⟨hc33_0, hc33_1, hc33_2, hc33_3, hc33_4, hc33_5⟩ := zc6 BK101
      obtain ⟨hf33_0, hf33_1, hf33_2, hf33_3, hf33_4, hf33_5⟩ := zf6 BK101
      have hnb34 := NB102_103.out
      have hnc34 := NB103_102.out
      obtain ⟨hc35_0, hc35_1, hc35_2, hc35_3⟩ := zc4 BK102
      obtain ⟨hf35_0, hf35_1, hf35_2, hf35_3⟩ := zf4 BK102
      go_wp2_with (first | ((with_reducible refine gate_callee (f := 132) rfl ?_); refine zgo (some 24) Try.func132 #[.agg #[.int .i64 a0_0, .bool a0_1, .int .u64 a0_2, .int .u64 a0_3, .int .u64 a0_4, .int .u64 a0_5], .agg #[.int .u64 a1_0, .int .u64 a1_1, .int .u64 a1_2, .bool a1_3], .int .u64 a2] ?_; (with_reducible refine (single_grown.calls a0_0 a0_1 a0_2 a0_3 a0_4 a0_5 a1_0 a1_1 a1_2 a1_3 a2 t105 t106 t107 t108 _ A26.out).mono ?_); rintro e w36 ⟨rfl, hb⟩; refine ⟨_, rfl, ?_⟩; replace BK101 := zs BK101 hb; replace BK102 := zs BK102 hb; replace BK103 := zs BK103 hb; replace HB := zt HB hb; (try clear hb); obtain ⟨hc37_0, hc37_1, hc37_2, hc37_3⟩ := zc4 BK102; obtain ⟨hf37_0, hf37_1, hf37_2, hf37_3⟩ := zf4 BK102; obtain ⟨hc38_0, hc38_1, hc38_2, hc38_3, hc38_4, hc38_5⟩ := zc6 BK101; obtain ⟨hf38_0, hf38_1, hf38_2, hf38_3, hf38_4, hf38_5⟩ := zf6 BK101) | ((with_reducible refine gate_callee (f := 133) rfl ?_); refine zgo (some 27) Try.func133 #[.agg #[.int .i64 a0_0, .bool a0_1, .int .u64 a0_2, .int .u64 a0_3, .int .u64 a0_4, .int .u64 a0_5], .int .i64 a4] ?_; (with_reducible refine (single_counts.calls a0_0 a0_1 a0_2 a0_3 a0_4 a0_5 a4 t109 _ A27.out).mono ?_); rintro e w39 ⟨rfl, hb⟩; refine ⟨_, rfl, ?_⟩; replace BK101 := zsf BK101 hb; replace BK102 := zq3 (zq10 (o := .cells #[.int .u64 t105, .int .u64 t106, .int .u64 t107, .bool t108] 51 (0, 0)) (zw4 BK102) hb); replace BK103 := zsf BK103 hb; replace HB := zt HB hb; (try clear hb); obtain ⟨hc40_0, hc40_1, hc40_2, hc40_3⟩ := zc4 BK102; obtain ⟨hf40_0, hf40_1, hf40_2, hf40_3⟩ := zf4 BK102) | ((with_reducible refine gate_callee (f := 124) rfl ?_); refine zgo (some 36) Try.func124 #[.int .u64 t105, .int .i64 a3] ?_; (with_reducible refine (bucket_Take.calls t105 a3 t112 true _ A29.out).mono ?_); rintro e w41 ⟨rfl, hb⟩; refine ⟨_, rfl, ?_⟩; replace BK101 := zs BK101 hb; replace BK102 := zs BK102 hb; replace BK103 := zs BK103 hb; replace HB := zt HB hb; (try clear hb); obtain ⟨hc42_0, hc42_1, hc42_2, hc42_3⟩ := zc4 BK102; obtain ⟨hf42_0, hf42_1, hf42_2, hf42_3⟩ := zf4 BK102; obtain ⟨hc43_0, hc43_1, hc43_2, hc43_3⟩ := zc4 BK103; obtain ⟨hf43_0, hf43_1, hf43_2, hf43_3⟩ := zf4 BK103))
      refine bodyPost_ret (results_ct rfl _ _ gb103 51 #[.int .u64 t112, .int .u64 t106, .int .u64 t107, .bool t108] (0, 0) _ rfl (zw4 BK103) Try.underlying51 rfl (by kernel_rfl)) rfl ?_
      exact ⟨by first | rfl | (simp [errW_none, errW_some] <;> rfl) | (simp [*, errW_none, errW_some] <;> rfl), zh HB⟩
     ·
      replace c30 := Bool.eq_false_iff.mpr c30
      subst c30
      have H1 : ((bucket_Take.f t106 a3).bind fun bt114 => (if bt114.2 = true then (some (t112, bt114.1, t107, t108, 1)) else (some (t112, bt114.1, t107, t108, 2)))) = some (r1, r2, r3, r4, r5) := by rw [if_neg (show ¬ (false = true) by decide)] at H; exact H
      clear H
      have H := H1
      clear H1
      replace H := Option.bind_eq_some_iff.mp H
      obtain ⟨⟨t114, t115⟩, A440, H⟩ := H
      replace H : (if t115 = true then (some (t112, t114, t107, t108, 1)) else (some (t112, t114, t107, t108, 2))) = some (r1, r2, r3, r4, r5) := H
      have A44 := zq3 A440
      clear A440
      by_cases c45 : t115 = true
      ·
       subst c45
       have H1 : (some (t112, t114, t107, t108, 1)) = some (r1, r2, r3, r4, r5) := by rw [if_pos rfl] at H; exact H
       clear H
       have H := H1
       clear H1
       simp only [Option.some.injEq, Prod.mk.injEq] at H
       obtain ⟨rfl, rfl, rfl, rfl, rfl⟩ := H
       have hnb46 := NB101_102.out
       have hnc46 := NB102_101.out
       have hnb47 := NB101_103.out
       have hnc47 := NB103_101.out
       obtain ⟨hc48_0, hc48_1, hc48_2, hc48_3, hc48_4, hc48_5⟩ := zc6 BK101
       obtain ⟨hf48_0, hf48_1, hf48_2, hf48_3, hf48_4, hf48_5⟩ := zf6 BK101
       have hnb49 := NB102_103.out
       have hnc49 := NB103_102.out
       obtain ⟨hc50_0, hc50_1, hc50_2, hc50_3⟩ := zc4 BK102
       obtain ⟨hf50_0, hf50_1, hf50_2, hf50_3⟩ := zf4 BK102
       go_wp2_with (first | ((with_reducible refine gate_callee (f := 132) rfl ?_); refine zgo (some 24) Try.func132 #[.agg #[.int .i64 a0_0, .bool a0_1, .int .u64 a0_2, .int .u64 a0_3, .int .u64 a0_4, .int .u64 a0_5], .agg #[.int .u64 a1_0, .int .u64 a1_1, .int .u64 a1_2, .bool a1_3], .int .u64 a2] ?_; (with_reducible refine (single_grown.calls a0_0 a0_1 a0_2 a0_3 a0_4 a0_5 a1_0 a1_1 a1_2 a1_3 a2 t105 t106 t107 t108 _ A26.out).mono ?_); rintro e w51 ⟨rfl, hb⟩; refine ⟨_, rfl, ?_⟩; replace BK101 := zs BK101 hb; replace BK102 := zs BK102 hb; replace BK103 := zs BK103 hb; replace HB := zt HB hb; (try clear hb); obtain ⟨hc52_0, hc52_1, hc52_2, hc52_3⟩ := zc4 BK102; obtain ⟨hf52_0, hf52_1, hf52_2, hf52_3⟩ := zf4 BK102; obtain ⟨hc53_0, hc53_1, hc53_2, hc53_3, hc53_4, hc53_5⟩ := zc6 BK101; obtain ⟨hf53_0, hf53_1, hf53_2, hf53_3, hf53_4, hf53_5⟩ := zf6 BK101) | ((with_reducible refine gate_callee (f := 133) rfl ?_); refine zgo (some 27) Try.func133 #[.agg #[.int .i64 a0_0, .bool a0_1, .int .u64 a0_2, .int .u64 a0_3, .int .u64 a0_4, .int .u64 a0_5], .int .i64 a4] ?_; (with_reducible refine (single_counts.calls a0_0 a0_1 a0_2 a0_3 a0_4 a0_5 a4 t109 _ A27.out).mono ?_); rintro e w54 ⟨rfl, hb⟩; refine ⟨_, rfl, ?_⟩; replace BK101 := zsf BK101 hb; replace BK102 := zq3 (zq10 (o := .cells #[.int .u64 t105, .int .u64 t106, .int .u64 t107, .bool t108] 51 (0, 0)) (zw4 BK102) hb); replace BK103 := zsf BK103 hb; replace HB := zt HB hb; (try clear hb); obtain ⟨hc55_0, hc55_1, hc55_2, hc55_3⟩ := zc4 BK102; obtain ⟨hf55_0, hf55_1, hf55_2, hf55_3⟩ := zf4 BK102) | ((with_reducible refine gate_callee (f := 124) rfl ?_); refine zgo (some 36) Try.func124 #[.int .u64 t105, .int .i64 a3] ?_; (with_reducible refine (bucket_Take.calls t105 a3 t112 false _ A29.out).mono ?_); rintro e w56 ⟨rfl, hb⟩; refine ⟨_, rfl, ?_⟩; replace BK101 := zs BK101 hb; replace BK102 := zs BK102 hb; replace BK103 := zs BK103 hb; replace HB := zt HB hb; (try clear hb); obtain ⟨hc57_0, hc57_1, hc57_2, hc57_3⟩ := zc4 BK102; obtain ⟨hf57_0, hf57_1, hf57_2, hf57_3⟩ := zf4 BK102) | ((with_reducible refine gate_callee (f := 124) rfl ?_); refine zgo (some 46) Try.func124 #[.int .u64 t106, .int .i64 a3] ?_; (with_reducible refine (bucket_Take.calls t106 a3 t114 true _ A44.out).mono ?_); rintro e w58 ⟨rfl, hb⟩; refine ⟨_, rfl, ?_⟩; replace BK101 := zsf BK101 hb; replace BK102 := zq3 (zq10 (g := gb102) (o := .cells #[.int .u64 t112, .int .u64 t106, .int .u64 t107, .bool t108] 51 (0, 0)) (by (with_reducible repeat (first | refine zq0 ?_ _ | refine zq2 ?_ | refine zq1 ?_ _)); refine blk_put (cs := #[.int .u64 t105, .int .u64 t106, .int .u64 t107, .bool t108]) ?_ 0 _ rfl; (with_reducible repeat (first | refine zq0 ?_ _ | refine zq2 ?_ | refine zq1 ?_ _)); exact BK102.out) hb); replace BK103 := zsf BK103 hb; replace HB := zt HB hb; (try clear hb); obtain ⟨hc59_0, hc59_1, hc59_2, hc59_3⟩ := zc4 BK102; obtain ⟨hf59_0, hf59_1, hf59_2, hf59_3⟩ := zf4 BK102; obtain ⟨hc60_0, hc60_1, hc60_2, hc60_3⟩ := zc4 BK103; obtain ⟨hf60_0, hf60_1, hf60_2, hf60_3⟩ := zf4 BK103))
       refine bodyPost_ret (results_ct rfl _ _ gb103 51 #[.int .u64 t112, .int .u64 t114, .int .u64 t107, .bool t108] (0, 0) _ rfl (zw4 BK103) Try.underlying51 rfl (by kernel_rfl)) rfl ?_
       exact ⟨by first | rfl | (simp [errW_none, errW_some] <;> rfl) | (simp [*, errW_none, errW_some] <;> rfl), zh HB⟩
      ·
       replace c45 := Bool.eq_false_iff.mpr c45
       subst c45
       have H1 : (some (t112, t114, t107, t108, 2)) = some (r1, r2, r3, r4, r5) := by rw [if_neg (show ¬ (false = true) by decide)] at H; exact H
       clear H
       have H := H1
       clear H1
       simp only [Option.some.injEq, Prod.mk.injEq] at H
       obtain ⟨rfl, rfl, rfl, rfl, rfl⟩ := H
       have hnb61 := NB101_102.out
       have hnc61 := NB102_101.out
       have hnb62 := NB101_103.out
       have hnc62 := NB103_101.out
       obtain ⟨hc63_0, hc63_1, hc63_2, hc63_3, hc63_4, hc63_5⟩ := zc6 BK101
       obtain ⟨hf63_0, hf63_1, hf63_2, hf63_3, hf63_4, hf63_5⟩ := zf6 BK101
       have hnb64 := NB102_103.out
       have hnc64 := NB103_102.out
       obtain ⟨hc65_0, hc65_1, hc65_2, hc65_3⟩ := zc4 BK102
       obtain ⟨hf65_0, hf65_1, hf65_2, hf65_3⟩ := zf4 BK102
       go_wp2_with (first | ((with_reducible refine gate_callee (f := 132) rfl ?_); refine zgo (some 24) Try.func132 #[.agg #[.int .i64 a0_0, .bool a0_1, .int .u64 a0_2, .int .u64 a0_3, .int .u64 a0_4, .int .u64 a0_5], .agg #[.int .u64 a1_0, .int .u64 a1_1, .int .u64 a1_2, .bool a1_3], .int .u64 a2] ?_; (with_reducible refine (single_grown.calls a0_0 a0_1 a0_2 a0_3 a0_4 a0_5 a1_0 a1_1 a1_2 a1_3 a2 t105 t106 t107 t108 _ A26.out).mono ?_); rintro e w66 ⟨rfl, hb⟩; refine ⟨_, rfl, ?_⟩; replace BK101 := zs BK101 hb; replace BK102 := zs BK102 hb; replace BK103 := zs BK103 hb; replace HB := zt HB hb; (try clear hb); obtain ⟨hc67_0, hc67_1, hc67_2, hc67_3⟩ := zc4 BK102; obtain ⟨hf67_0, hf67_1, hf67_2, hf67_3⟩ := zf4 BK102; obtain ⟨hc68_0, hc68_1, hc68_2, hc68_3, hc68_4, hc68_5⟩ := zc6 BK101; obtain ⟨hf68_0, hf68_1, hf68_2, hf68_3, hf68_4, hf68_5⟩ := zf6 BK101) | ((with_reducible refine gate_callee (f := 133) rfl ?_); refine zgo (some 27) Try.func133 #[.agg #[.int .i64 a0_0, .bool a0_1, .int .u64 a0_2, .int .u64 a0_3, .int .u64 a0_4, .int .u64 a0_5], .int .i64 a4] ?_; (with_reducible refine (single_counts.calls a0_0 a0_1 a0_2 a0_3 a0_4 a0_5 a4 t109 _ A27.out).mono ?_); rintro e w69 ⟨rfl, hb⟩; refine ⟨_, rfl, ?_⟩; replace BK101 := zsf BK101 hb; replace BK102 := zq3 (zq10 (o := .cells #[.int .u64 t105, .int .u64 t106, .int .u64 t107, .bool t108] 51 (0, 0)) (zw4 BK102) hb); replace BK103 := zsf BK103 hb; replace HB := zt HB hb; (try clear hb); obtain ⟨hc70_0, hc70_1, hc70_2, hc70_3⟩ := zc4 BK102; obtain ⟨hf70_0, hf70_1, hf70_2, hf70_3⟩ := zf4 BK102) | ((with_reducible refine gate_callee (f := 124) rfl ?_); refine zgo (some 36) Try.func124 #[.int .u64 t105, .int .i64 a3] ?_; (with_reducible refine (bucket_Take.calls t105 a3 t112 false _ A29.out).mono ?_); rintro e w71 ⟨rfl, hb⟩; refine ⟨_, rfl, ?_⟩; replace BK101 := zs BK101 hb; replace BK102 := zs BK102 hb; replace BK103 := zs BK103 hb; replace HB := zt HB hb; (try clear hb); obtain ⟨hc72_0, hc72_1, hc72_2, hc72_3⟩ := zc4 BK102; obtain ⟨hf72_0, hf72_1, hf72_2, hf72_3⟩ := zf4 BK102) | ((with_reducible refine gate_callee (f := 124) rfl ?_); refine zgo (some 46) Try.func124 #[.int .u64 t106, .int .i64 a3] ?_; (with_reducible refine (bucket_Take.calls t106 a3 t114 false _ A44.out).mono ?_); rintro e w73 ⟨rfl, hb⟩; refine ⟨_, rfl, ?_⟩; replace BK101 := zsf BK101 hb; replace BK102 := zq3 (zq10 (g := gb102) (o := .cells #[.int .u64 t112, .int .u64 t106, .int .u64 t107, .bool t108] 51 (0, 0)) (by (with_reducible repeat (first | refine zq0 ?_ _ | refine zq2 ?_ | refine zq1 ?_ _)); refine blk_put (cs := #[.int .u64 t105, .int .u64 t106, .int .u64 t107, .bool t108]) ?_ 0 _ rfl; (with_reducible repeat (first | refine zq0 ?_ _ | refine zq2 ?_ | refine zq1 ?_ _)); exact BK102.out) hb); replace BK103 := zsf BK103 hb; replace HB := zt HB hb; (try clear hb); obtain ⟨hc74_0, hc74_1, hc74_2, hc74_3⟩ := zc4 BK102; obtain ⟨hf74_0, hf74_1, hf74_2, hf74_3⟩ := zf4 BK102; obtain ⟨hc75_0, hc75_1, hc75_2, hc75_3⟩ := zc4 BK103; obtain ⟨hf75_0, hf75_1, hf75_2, hf75_3⟩ := zf4 BK103))
       refine bodyPost_ret (results_ct rfl _ _ gb103 51 #[.int .u64 t112, .int .u64 t114, .int .u64 t107, .bool t108] (0, 0) _ rfl (zw4 BK103) Try.underlying51 rfl (by kernel_rfl)) rfl ?_
       exact ⟨by first | rfl | (simp [errW_none, errW_some] <;> rfl) | (simp [*, errW_none, errW_some] <;> rfl), zh HB⟩
    ·
     rw [if_neg c28] at H
     have c28b0 : (t109 == 0) = false := beq_eq_false_iff_ne.mpr c28
     have c28b1 : (t109 != 0) = true := bne_iff_ne.mpr c28
     by_cases c76 : t109 = 1
     ·
      rw [if_pos c76] at H
      have c76b0 : (t109 == 1) = true := beq_iff_eq.mpr c76
      have c76b1 : (t109 != 1) = false := bne_eq_false_iff_eq.mpr c76
      clear c76
      replace H := Option.bind_eq_some_iff.mp H
      obtain ⟨⟨t110, t111⟩, A770, H⟩ := H
      replace H : (if t111 = true then (some (t105, t110, t107, t108, 1)) else (some (t105, t110, t107, t108, 2))) = some (r1, r2, r3, r4, r5) := H
      have A77 := zq3 A770
      clear A770
      by_cases c78 : t111 = true
      ·
       subst c78
       have H1 : (some (t105, t110, t107, t108, 1)) = some (r1, r2, r3, r4, r5) := by rw [if_pos rfl] at H; exact H
       clear H
       have H := H1
       clear H1
       simp only [Option.some.injEq, Prod.mk.injEq] at H
       obtain ⟨rfl, rfl, rfl, rfl, rfl⟩ := H
       have hnb79 := NB101_102.out
       have hnc79 := NB102_101.out
       have hnb80 := NB101_103.out
       have hnc80 := NB103_101.out
       obtain ⟨hc81_0, hc81_1, hc81_2, hc81_3, hc81_4, hc81_5⟩ := zc6 BK101
       obtain ⟨hf81_0, hf81_1, hf81_2, hf81_3, hf81_4, hf81_5⟩ := zf6 BK101
       have hnb82 := NB102_103.out
       have hnc82 := NB103_102.out
       obtain ⟨hc83_0, hc83_1, hc83_2, hc83_3⟩ := zc4 BK102
       obtain ⟨hf83_0, hf83_1, hf83_2, hf83_3⟩ := zf4 BK102
       go_wp2_with (first | ((with_reducible refine gate_callee (f := 132) rfl ?_); refine zgo (some 24) Try.func132 #[.agg #[.int .i64 a0_0, .bool a0_1, .int .u64 a0_2, .int .u64 a0_3, .int .u64 a0_4, .int .u64 a0_5], .agg #[.int .u64 a1_0, .int .u64 a1_1, .int .u64 a1_2, .bool a1_3], .int .u64 a2] ?_; (with_reducible refine (single_grown.calls a0_0 a0_1 a0_2 a0_3 a0_4 a0_5 a1_0 a1_1 a1_2 a1_3 a2 t105 t106 t107 t108 _ A26.out).mono ?_); rintro e w84 ⟨rfl, hb⟩; refine ⟨_, rfl, ?_⟩; replace BK101 := zs BK101 hb; replace BK102 := zs BK102 hb; replace BK103 := zs BK103 hb; replace HB := zt HB hb; (try clear hb); obtain ⟨hc85_0, hc85_1, hc85_2, hc85_3⟩ := zc4 BK102; obtain ⟨hf85_0, hf85_1, hf85_2, hf85_3⟩ := zf4 BK102; obtain ⟨hc86_0, hc86_1, hc86_2, hc86_3, hc86_4, hc86_5⟩ := zc6 BK101; obtain ⟨hf86_0, hf86_1, hf86_2, hf86_3, hf86_4, hf86_5⟩ := zf6 BK101) | ((with_reducible refine gate_callee (f := 133) rfl ?_); refine zgo (some 27) Try.func133 #[.agg #[.int .i64 a0_0, .bool a0_1, .int .u64 a0_2, .int .u64 a0_3, .int .u64 a0_4, .int .u64 a0_5], .int .i64 a4] ?_; (with_reducible refine (single_counts.calls a0_0 a0_1 a0_2 a0_3 a0_4 a0_5 a4 t109 _ A27.out).mono ?_); rintro e w87 ⟨rfl, hb⟩; refine ⟨_, rfl, ?_⟩; replace BK101 := zsf BK101 hb; replace BK102 := zq3 (zq10 (o := .cells #[.int .u64 t105, .int .u64 t106, .int .u64 t107, .bool t108] 51 (0, 0)) (zw4 BK102) hb); replace BK103 := zsf BK103 hb; replace HB := zt HB hb; (try clear hb); obtain ⟨hc88_0, hc88_1, hc88_2, hc88_3⟩ := zc4 BK102; obtain ⟨hf88_0, hf88_1, hf88_2, hf88_3⟩ := zf4 BK102) | ((with_reducible refine gate_callee (f := 124) rfl ?_); refine zgo (some 46) Try.func124 #[.int .u64 t106, .int .i64 a3] ?_; (with_reducible refine (bucket_Take.calls t106 a3 t110 true _ A77.out).mono ?_); rintro e w89 ⟨rfl, hb⟩; refine ⟨_, rfl, ?_⟩; replace BK101 := zs BK101 hb; replace BK102 := zs BK102 hb; replace BK103 := zs BK103 hb; replace HB := zt HB hb; (try clear hb); obtain ⟨hc90_0, hc90_1, hc90_2, hc90_3⟩ := zc4 BK102; obtain ⟨hf90_0, hf90_1, hf90_2, hf90_3⟩ := zf4 BK102; obtain ⟨hc91_0, hc91_1, hc91_2, hc91_3⟩ := zc4 BK103; obtain ⟨hf91_0, hf91_1, hf91_2, hf91_3⟩ := zf4 BK103))
       refine bodyPost_ret (results_ct rfl _ _ gb103 51 #[.int .u64 t105, .int .u64 t110, .int .u64 t107, .bool t108] (0, 0) _ rfl (zw4 BK103) Try.underlying51 rfl (by kernel_rfl)) rfl ?_
       exact ⟨by first | rfl | (simp [errW_none, errW_some] <;> rfl) | (simp [*, errW_none, errW_some] <;> rfl), zh HB⟩
      ·
       replace c78 := Bool.eq_false_iff.mpr c78
       subst c78
       have H1 : (some (t105, t110, t107, t108, 2)) = some (r1, r2, r3, r4, r5) := by rw [if_neg (show ¬ (false = true) by decide)] at H; exact H
       clear H
       have H := H1
       clear H1
       simp only [Option.some.injEq, Prod.mk.injEq] at H
       obtain ⟨rfl, rfl, rfl, rfl, rfl⟩ := H
       have hnb92 := NB101_102.out
       have hnc92 := NB102_101.out
       have hnb93 := NB101_103.out
       have hnc93 := NB103_101.out
       obtain ⟨hc94_0, hc94_1, hc94_2, hc94_3, hc94_4, hc94_5⟩ := zc6 BK101
       obtain ⟨hf94_0, hf94_1, hf94_2, hf94_3, hf94_4, hf94_5⟩ := zf6 BK101
       have hnb95 := NB102_103.out
       have hnc95 := NB103_102.out
       obtain ⟨hc96_0, hc96_1, hc96_2, hc96_3⟩ := zc4 BK102
       obtain ⟨hf96_0, hf96_1, hf96_2, hf96_3⟩ := zf4 BK102
       go_wp2_with (first | ((with_reducible refine gate_callee (f := 132) rfl ?_); refine zgo (some 24) Try.func132 #[.agg #[.int .i64 a0_0, .bool a0_1, .int .u64 a0_2, .int .u64 a0_3, .int .u64 a0_4, .int .u64 a0_5], .agg #[.int .u64 a1_0, .int .u64 a1_1, .int .u64 a1_2, .bool a1_3], .int .u64 a2] ?_; (with_reducible refine (single_grown.calls a0_0 a0_1 a0_2 a0_3 a0_4 a0_5 a1_0 a1_1 a1_2 a1_3 a2 t105 t106 t107 t108 _ A26.out).mono ?_); rintro e w97 ⟨rfl, hb⟩; refine ⟨_, rfl, ?_⟩; replace BK101 := zs BK101 hb; replace BK102 := zs BK102 hb; replace BK103 := zs BK103 hb; replace HB := zt HB hb; (try clear hb); obtain ⟨hc98_0, hc98_1, hc98_2, hc98_3⟩ := zc4 BK102; obtain ⟨hf98_0, hf98_1, hf98_2, hf98_3⟩ := zf4 BK102; obtain ⟨hc99_0, hc99_1, hc99_2, hc99_3, hc99_4, hc99_5⟩ := zc6 BK101; obtain ⟨hf99_0, hf99_1, hf99_2, hf99_3, hf99_4, hf99_5⟩ := zf6 BK101) | ((with_reducible refine gate_callee (f := 133) rfl ?_); refine zgo (some 27) Try.func133 #[.agg #[.int .i64 a0_0, .bool a0_1, .int .u64 a0_2, .int .u64 a0_3, .int .u64 a0_4, .int .u64 a0_5], .int .i64 a4] ?_; (with_reducible refine (single_counts.calls a0_0 a0_1 a0_2 a0_3 a0_4 a0_5 a4 t109 _ A27.out).mono ?_); rintro e w100 ⟨rfl, hb⟩; refine ⟨_, rfl, ?_⟩; replace BK101 := zsf BK101 hb; replace BK102 := zq3 (zq10 (o := .cells #[.int .u64 t105, .int .u64 t106, .int .u64 t107, .bool t108] 51 (0, 0)) (zw4 BK102) hb); replace BK103 := zsf BK103 hb; replace HB := zt HB hb; (try clear hb); obtain ⟨hc101_0, hc101_1, hc101_2, hc101_3⟩ := zc4 BK102; obtain ⟨hf101_0, hf101_1, hf101_2, hf101_3⟩ := zf4 BK102) | ((with_reducible refine gate_callee (f := 124) rfl ?_); refine zgo (some 46) Try.func124 #[.int .u64 t106, .int .i64 a3] ?_; (with_reducible refine (bucket_Take.calls t106 a3 t110 false _ A77.out).mono ?_); rintro e w102 ⟨rfl, hb⟩; refine ⟨_, rfl, ?_⟩; replace BK101 := zs BK101 hb; replace BK102 := zs BK102 hb; replace BK103 := zs BK103 hb; replace HB := zt HB hb; (try clear hb); obtain ⟨hc103_0, hc103_1, hc103_2, hc103_3⟩ := zc4 BK102; obtain ⟨hf103_0, hf103_1, hf103_2, hf103_3⟩ := zf4 BK102; obtain ⟨hc104_0, hc104_1, hc104_2, hc104_3⟩ := zc4 BK103; obtain ⟨hf104_0, hf104_1, hf104_2, hf104_3⟩ := zf4 BK103))
       refine bodyPost_ret (results_ct rfl _ _ gb103 51 #[.int .u64 t105, .int .u64 t110, .int .u64 t107, .bool t108] (0, 0) _ rfl (zw4 BK103) Try.underlying51 rfl (by kernel_rfl)) rfl ?_
       exact ⟨by first | rfl | (simp [errW_none, errW_some] <;> rfl) | (simp [*, errW_none, errW_some] <;> rfl), zh HB⟩
     ·
      rw [if_neg c76] at H
      have c76b0 : (t109 == 1) = false := beq_eq_false_iff_ne.mpr c76
      have c76b1 : (t109 != 1) = true := bne_iff_ne.mpr c76
      simp only [Option.some.injEq, Prod.mk.injEq] at H
      obtain ⟨rfl, rfl, rfl, rfl, rfl⟩ := H
      have hnb105 := NB101_102.out
      have hnc105 := NB102_101.out
      have hnb106 := NB101_103.out
      have hnc106 := NB103_101.out
      obtain ⟨hc107_0, hc107_1, hc107_2, hc107_3, hc107_4, hc107_5⟩ := zc6 BK101
      obtain ⟨hf107_0, hf107_1, hf107_2, hf107_3, hf107_4, hf107_5⟩ := zf6 BK101
      have hnb108 := NB102_103.out
      have hnc108 := NB103_102.out
      obtain ⟨hc109_0, hc109_1, hc109_2, hc109_3⟩ := zc4 BK102
      obtain ⟨hf109_0, hf109_1, hf109_2, hf109_3⟩ := zf4 BK102
      go_wp2_with (first | ((with_reducible refine gate_callee (f := 132) rfl ?_); refine zgo (some 24) Try.func132 #[.agg #[.int .i64 a0_0, .bool a0_1, .int .u64 a0_2, .int .u64 a0_3, .int .u64 a0_4, .int .u64 a0_5], .agg #[.int .u64 a1_0, .int .u64 a1_1, .int .u64 a1_2, .bool a1_3], .int .u64 a2] ?_; (with_reducible refine (single_grown.calls a0_0 a0_1 a0_2 a0_3 a0_4 a0_5 a1_0 a1_1 a1_2 a1_3 a2 t105 t106 t107 t108 _ A26.out).mono ?_); rintro e w110 ⟨rfl, hb⟩; refine ⟨_, rfl, ?_⟩; replace BK101 := zs BK101 hb; replace BK102 := zs BK102 hb; replace BK103 := zs BK103 hb; replace HB := zt HB hb; (try clear hb); obtain ⟨hc111_0, hc111_1, hc111_2, hc111_3⟩ := zc4 BK102; obtain ⟨hf111_0, hf111_1, hf111_2, hf111_3⟩ := zf4 BK102; obtain ⟨hc112_0, hc112_1, hc112_2, hc112_3, hc112_4, hc112_5⟩ := zc6 BK101; obtain ⟨hf112_0, hf112_1, hf112_2, hf112_3, hf112_4, hf112_5⟩ := zf6 BK101) | ((with_reducible refine gate_callee (f := 133) rfl ?_); refine zgo (some 27) Try.func133 #[.agg #[.int .i64 a0_0, .bool a0_1, .int .u64 a0_2, .int .u64 a0_3, .int .u64 a0_4, .int .u64 a0_5], .int .i64 a4] ?_; (with_reducible refine (single_counts.calls a0_0 a0_1 a0_2 a0_3 a0_4 a0_5 a4 t109 _ A27.out).mono ?_); rintro e w113 ⟨rfl, hb⟩; refine ⟨_, rfl, ?_⟩; replace BK101 := zsf BK101 hb; replace BK102 := zq3 (zq10 (o := .cells #[.int .u64 t105, .int .u64 t106, .int .u64 t107, .bool t108] 51 (0, 0)) (zw4 BK102) hb); replace BK103 := zsf BK103 hb; replace HB := zt HB hb; (try clear hb); obtain ⟨hc114_0, hc114_1, hc114_2, hc114_3⟩ := zc4 BK102; obtain ⟨hf114_0, hf114_1, hf114_2, hf114_3⟩ := zf4 BK102; obtain ⟨hc115_0, hc115_1, hc115_2, hc115_3⟩ := zc4 BK103; obtain ⟨hf115_0, hf115_1, hf115_2, hf115_3⟩ := zf4 BK103))
      refine bodyPost_ret (results_ct rfl _ _ gb103 51 #[.int .u64 t105, .int .u64 t106, .int .u64 t107, .bool t108] (0, 0) _ rfl (zw4 BK103) Try.underlying51 rfl (by kernel_rfl)) rfl ?_
      exact ⟨by first | rfl | (simp [errW_none, errW_some] <;> rfl) | (simp [*, errW_none, errW_some] <;> rfl), zh HB⟩

end Go.Proofs.Ytiaoaoebghnpkaa.P
end
section
namespace Go.Proofs.Ytiaoaoebghnpkaa.P
open Go.RowKit Go.Proofs.YtiaoaoebghnpkaaW.PrintWords Go.Proofs.YtiaoaoebghnpkaaW.PrintLast Go.Proofs.YtiaoaoebghnpkaaW.PrintMore
attribute [local go_sem] max2_int min2_int max_two min_two max_three min_three max_four min_four   -- for this text's walks alone
set_option linter.unusedVariables false
set_option linter.unusedSimpArgs false

/-! ### double_sides: function 118 -/
def double_sides.f (a0_0 : Int) (a0_1 : Bool) (a0_2 : Int) (a0_3 : Int) (a0_4 : Int) (a0_5 : Int) (a1_0 : Int) (a1_1 : Int) (a1_2 : Int) (a1_3 : Bool) : Option (Int × Int × Int × Int × Int × Int) := (bucket_Full.f a0_4).bind fun bt104 => ((bucket_Full.f a0_5).bind fun bt106 => (some (a1_0, bt104.1, a0_2, a1_1, bt106.1, a0_3)))
set_option maxHeartbeats 8000000 in
set_option maxRecDepth 100000 in
theorem double_sides.calls (a0_0 : Int) (a0_1 : Bool) (a0_2 : Int) (a0_3 : Int) (a0_4 : Int) (a0_5 : Int) (a1_0 : Int) (a1_1 : Int) (a1_2 : Int) (a1_3 : Bool) (r1 : Int) (r2 : Int) (r3 : Int) (r4 : Int) (r5 : Int) (r6 : Int) (w : World) (h : double_sides.f a0_0 a0_1 a0_2 a0_3 a0_4 a0_5 a1_0 a1_1 a1_2 a1_3 = some (r1, r2, r3, r4, r5, r6)) :
  Calls Try.prog 118 #[.agg #[.int .i64 a0_0, .bool a0_1, .int .u64 a0_2, .int .u64 a0_3, .int .u64 a0_4, .int .u64 a0_5], .agg #[.int .u64 a1_0, .int .u64 a1_1, .int .u64 a1_2, .bool a1_3]] w fun e w' => e = .returned (.agg #[.int .u64 r1, .int .u64 r2, .int .u64 r3, .int .u64 r4, .int .u64 r5, .int .u64 r6]) ∧ Below w.heap.size w w' := by
 have hu49 := Try.underlying49
 have hu51 := Try.underlying51
 have hu156 := Try.underlying156
 have hu155 := Try.underlying155
 have HB := zq3 (Below.refl w.heap.size w)
 have H : ((bucket_Full.f a0_4).bind fun bt104 => ((bucket_Full.f a0_5).bind fun bt106 => (some (a1_0, bt104.1, a0_2, a1_1, bt106.1, a0_3)))) = some (r1, r2, r3, r4, r5, r6) := h
 clear h
 replace H := Option.bind_eq_some_iff.mp H
 obtain ⟨⟨t104, t105⟩, A30, H⟩ := H
 replace H : ((bucket_Full.f a0_5).bind fun bt106 => (some (a1_0, t104, a0_2, a1_1, bt106.1, a0_3))) = some (r1, r2, r3, r4, r5, r6) := H
 have A3 := zq3 A30
 clear A30
 replace H := Option.bind_eq_some_iff.mp H
 obtain ⟨⟨t106, t107⟩, A40, H⟩ := H
 replace H : (some (a1_0, t104, a0_2, a1_1, t106, a0_3)) = some (r1, r2, r3, r4, r5, r6) := H
 have A4 := zq3 A40
 clear A40
 simp only [Option.some.injEq, Prod.mk.injEq] at H
 obtain ⟨rfl, rfl, rfl, rfl, rfl, rfl⟩ := H
 go_enter Try.func118, Try.ntmps118
 go_wp2_with (first | ((with_reducible refine zd 2 rfl ?_); refine zb 2 #[.int .i64 a0_0, .bool a0_1, .int .u64 a0_2, .int .u64 a0_3, .int .u64 a0_4, .int .u64 a0_5] 49 ?_; intro gb101 hg w5 hbox hb; have BK101 := zq3 (hbox); have GW101 := ze hg HB; have GE101 := GW101; replace HB := zt HB hb; clear hb hbox hg) | ((with_reducible refine zd 3 rfl ?_); refine zb 3 #[.int .u64 a1_0, .int .u64 a1_1, .int .u64 a1_2, .bool a1_3] 51 ?_; intro gb102 hg w6 hbox hb; have BK102 := zq3 (hbox); have GW102 := ze hg HB; have GE102 := GW102; have NB101_102 := zl hg BK101; have NB102_101 := zg hg BK101; replace BK101 := zs BK101 hb; replace HB := zt HB hb; clear hb hbox hg) | ((with_reducible refine zd 4 rfl ?_); refine zb 4 #[.int .u64 0, .int .u64 0, .int .u64 0, .int .u64 0, .int .u64 0, .int .u64 0] 156 ?_; intro gb103 hg w7 hbox hb; have BK103 := zq3 (hbox); have GW103 := ze hg HB; have GE103 := GW103; have NB101_103 := zl hg BK101; have NB103_101 := zg hg BK101; have NB102_103 := zl hg BK102; have NB103_102 := zg hg BK102; replace BK101 := zs BK101 hb; replace BK102 := zs BK102 hb; replace HB := zt HB hb; clear hb hbox hg; have hnb8 := NB101_102.out; have hnc8 := NB102_101.out; have hnb9 := NB101_103.out; have hnc9 := NB103_101.out; obtain ⟨hc10_0, hc10_1, hc10_2, hc10_3, hc10_4, hc10_5⟩ := zc6 BK101; obtain ⟨hf10_0, hf10_1, hf10_2, hf10_3, hf10_4, hf10_5⟩ := zf6 BK101) | ((with_reducible refine gate_callee (f := 80) rfl ?_); refine zgo (some 12) Try.func80 #[.int .u64 a0_4] ?_; (with_reducible refine (bucket_Full.calls a0_4 t104 t105 _ A3.out).mono ?_); rintro e w11 ⟨rfl, hb⟩; refine ⟨_, rfl, ?_⟩; replace BK101 := zs BK101 hb; replace BK102 := zs BK102 hb; replace BK103 := zs BK103 hb; replace HB := zt HB hb; (try clear hb); obtain ⟨hc12_0, hc12_1, hc12_2, hc12_3, hc12_4, hc12_5⟩ := zc6 BK101; obtain ⟨hf12_0, hf12_1, hf12_2, hf12_3, hf12_4, hf12_5⟩ := zf6 BK101) | ((with_reducible refine gate_callee (f := 80) rfl ?_); refine zgo (some 18) Try.func80 #[.int .u64 a0_5] ?_; (with_reducible refine (bucket_Full.calls a0_5 t106 t107 _ A4.out).mono ?_); rintro e w13 ⟨rfl, hb⟩; refine ⟨_, rfl, ?_⟩; replace BK101 := zs BK101 hb; replace BK102 := zs BK102 hb; replace BK103 := zs BK103 hb; replace HB := zt HB hb; (try clear hb); have hnb14 := NB102_103.out; have hnc14 := NB103_102.out; obtain ⟨hc15_0, hc15_1, hc15_2, hc15_3⟩ := zc4 BK102; obtain ⟨hf15_0, hf15_1, hf15_2, hf15_3⟩ := zf4 BK102; obtain ⟨hc16_0, hc16_1, hc16_2, hc16_3, hc16_4, hc16_5⟩ := zc6 BK101; obtain ⟨hf16_0, hf16_1, hf16_2, hf16_3, hf16_4, hf16_5⟩ := zf6 BK101; obtain ⟨hc17_0, hc17_1, hc17_2, hc17_3, hc17_4, hc17_5⟩ := zc6 BK103; obtain ⟨hf17_0, hf17_1, hf17_2, hf17_3, hf17_4, hf17_5⟩ := zf6 BK103))
 refine bodyPost_ret (results_cell_row rfl _ _ gb103 156 #[.int .u64 a1_0, .int .u64 t104, .int .u64 a0_2, .int .u64 a1_1, .int .u64 t106, .int .u64 a0_3] (0, 0) _ rfl (zw6 BK103) Try.underlying156 rfl (by kernel_rfl)) rfl ?_
 exact ⟨by first | rfl | (simp [errW_none, errW_some] <;> rfl) | (simp [*, errW_none, errW_some] <;> rfl), zh HB⟩

end Go.Proofs.Ytiaoaoebghnpkaa.P
end
section
namespace Go.Proofs.Ytiaoaoebghnpkaa.P
open Go.RowKit Go.Proofs.YtiaoaoebghnpkaaW.PrintWords Go.Proofs.YtiaoaoebghnpkaaW.PrintLast Go.Proofs.YtiaoaoebghnpkaaW.PrintMore
attribute [local go_sem] max2_int min2_int max_two min_two max_three min_three max_four min_four   -- for this text's walks alone
set_option linter.unusedVariables false
set_option linter.unusedSimpArgs false

/-! ### double_side_take: function 122 -/
def double_side_take.f (a0_0 : Int) (a0_1 : Int) (a0_2 : Int) (a1 : Int) : Option (Int × Int × Int × Bool) := (bucket_Take.f a0_0 a1).bind fun bt103 => (some (bt103.1, a0_1, a0_2, bt103.2))
set_option maxHeartbeats 8000000 in
set_option maxRecDepth 100000 in
theorem double_side_take.calls (a0_0 : Int) (a0_1 : Int) (a0_2 : Int) (a1 : Int) (r1 : Int) (r2 : Int) (r3 : Int) (r4 : Bool) (w : World) (h : double_side_take.f a0_0 a0_1 a0_2 a1 = some (r1, r2, r3, r4)) :
  Calls Try.prog 122 #[.agg #[.int .u64 a0_0, .int .u64 a0_1, .int .u64 a0_2], .int .i64 a1] w fun e w' => e = .returned (.tuple #[.agg #[.int .u64 r1, .int .u64 r2, .int .u64 r3], .bool r4]) ∧ Below w.heap.size w w' := by
 have hu155 := Try.underlying155
 have HB := zq3 (Below.refl w.heap.size w)
 have H : ((bucket_Take.f a0_0 a1).bind fun bt103 => (some (bt103.1, a0_1, a0_2, bt103.2))) = some (r1, r2, r3, r4) := h
 clear h
 replace H := Option.bind_eq_some_iff.mp H
 obtain ⟨⟨t103, t104⟩, A30, H⟩ := H
 replace H : (some (t103, a0_1, a0_2, t104)) = some (r1, r2, r3, r4) := H
 have A3 := zq3 A30
 clear A30
 simp only [Option.some.injEq, Prod.mk.injEq] at H
 obtain ⟨rfl, rfl, rfl, rfl⟩ := H
 go_enter Try.func122, Try.ntmps122
 go_wp2_with (first | ((with_reducible refine zd 2 rfl ?_); refine zb 2 #[.int .u64 a0_0, .int .u64 a0_1, .int .u64 a0_2] 155 ?_; intro gb101 hg w4 hbox hb; have BK101 := zq3 (hbox); have GW101 := ze hg HB; have GE101 := GW101; replace HB := zt HB hb; clear hb hbox hg) | ((with_reducible refine zd 4 rfl ?_); refine zb 4 #[.int .u64 0, .int .u64 0, .int .u64 0] 155 ?_; intro gb102 hg w5 hbox hb; have BK102 := zq3 (hbox); have GW102 := ze hg HB; have GE102 := GW102; have NB101_102 := zl hg BK101; have NB102_101 := zg hg BK101; replace BK101 := zs BK101 hb; replace HB := zt HB hb; clear hb hbox hg; have hnb6 := NB101_102.out; have hnc6 := NB102_101.out; obtain ⟨hc7_0, hc7_1, hc7_2⟩ := zc3 BK101; obtain ⟨hf7_0, hf7_1, hf7_2⟩ := zf3 BK101) | ((with_reducible refine gate_callee (f := 124) rfl ?_); refine zgo (some 12) Try.func124 #[.int .u64 a0_0, .int .i64 a1] ?_; (with_reducible refine (bucket_Take.calls a0_0 a1 t103 t104 _ A3.out).mono ?_); rintro e w8 ⟨rfl, hb⟩; refine ⟨_, rfl, ?_⟩; replace BK101 := zs BK101 hb; replace BK102 := zs BK102 hb; replace HB := zt HB hb; (try clear hb); obtain ⟨hc9_0, hc9_1, hc9_2⟩ := zc3 BK101; obtain ⟨hf9_0, hf9_1, hf9_2⟩ := zf3 BK101; obtain ⟨hc10_0, hc10_1, hc10_2⟩ := zc3 BK102; obtain ⟨hf10_0, hf10_1, hf10_2⟩ := zf3 BK102))
 refine bodyPost_ret (results_ct rfl _ _ gb102 155 #[.int .u64 t103, .int .u64 a0_1, .int .u64 a0_2] (0, 0) _ rfl (zw3 BK102) Try.underlying155 rfl (by kernel_rfl)) rfl ?_
 exact ⟨by first | rfl | (simp [errW_none, errW_some] <;> rfl) | (simp [*, errW_none, errW_some] <;> rfl), zh HB⟩

end Go.Proofs.Ytiaoaoebghnpkaa.P
end
section
namespace Go.Proofs.Ytiaoaoebghnpkaa.P
open Go.RowKit Go.Proofs.YtiaoaoebghnpkaaW.PrintWords Go.Proofs.YtiaoaoebghnpkaaW.PrintLast Go.Proofs.YtiaoaoebghnpkaaW.PrintMore
attribute [local go_sem] max2_int min2_int max_two min_two max_three min_three max_four min_four   -- for this text's walks alone
set_option linter.unusedVariables false
set_option linter.unusedSimpArgs false

/-! ### double_paint: function 120 -/
mutual
def double_paint.j0 : Nat → Int → Int → Int → Int → Int → Int → Int → Int → Option (Int × Int × Int × Int × Int × Int × Int)
 | 0, _, _, _, _, _, _, _, _ => none
 | k + 1, x2, x3, x103000, x103001, x103002, x103003, x103004, x103005 => (double_side_take.f x103003 x103004 x103005 x2).bind fun bt104 => ((double_side_take.f x103000 x103001 x103002 x2).bind fun bt109 => (if x3 = 0 then (double_paint.j1 k x3 bt109.2.2.2 (!bt104.2.2.2) x103000 x103001 x103002 x103003 x103004 x103005 bt104.1 bt104.2.1 bt104.2.2.1 bt109.1 bt109.2.1 bt109.2.2.1) else (if x3 = 1 then (double_paint.j1 k x3 bt109.2.2.2 (!bt104.2.2.2) x103000 x103001 x103002 x103003 x103004 x103005 bt104.1 bt104.2.1 bt104.2.2.1 bt109.1 bt109.2.1 bt109.2.2.1) else (double_paint.j1 k x3 bt109.2.2.2 true x103000 x103001 x103002 x103003 x103004 x103005 bt104.1 bt104.2.1 bt104.2.2.1 bt109.1 bt109.2.1 bt109.2.2.1))))
def double_paint.j1 : Nat → Int → Bool → Bool → Int → Int → Int → Int → Int → Int → Int → Int → Int → Int → Int → Int → Option (Int × Int × Int × Int × Int × Int × Int)
 | 0, _, _, _, _, _, _, _, _, _, _, _, _, _, _, _ => none
 | k + 1, x3, x13, x31, x103000, x103001, x103002, x103003, x103004, x103005, x109000, x109001, x109002, x114000, x114001, x114002 => if x31 = true then (some (x103000, x103001, x103002, x103003, x103004, x103005, 2)) else (if x3 = 1 then (some (x103000, x103001, x103002, x109000, x109001, x109002, 1)) else (if x13 = true then (some (x114000, x114001, x114002, x109000, x109001, x109002, 0)) else (some (x103000, x103001, x103002, x109000, x109001, x109002, 1))))
end
def double_paint.f (k : Nat) (a0_0 : Int) (a0_1 : Bool) (a0_2 : Int) (a0_3 : Int) (a0_4 : Int) (a0_5 : Int) (a1_0 : Int) (a1_1 : Int) (a1_2 : Int) (a1_3 : Int) (a1_4 : Int) (a1_5 : Int) (a2 : Int) (a3 : Int) : Option (Int × Int × Int × Int × Int × Int × Int) := if a0_1 = true then (double_paint.j0 k a2 a3 a1_0 a1_1 a1_2 a1_3 a1_4 a1_5) else (double_paint.j0 k a2 0 a1_0 a1_1 a1_2 a1_3 a1_4 a1_5)
set_option maxHeartbeats 8000000 in
set_option maxRecDepth 100000 in
theorem double_paint.calls (k : Nat) (a0_0 : Int) (a0_1 : Bool) (a0_2 : Int) (a0_3 : Int) (a0_4 : Int) (a0_5 : Int) (a1_0 : Int) (a1_1 : Int) (a1_2 : Int) (a1_3 : Int) (a1_4 : Int) (a1_5 : Int) (a2 : Int) (a3 : Int) (r1 : Int) (r2 : Int) (r3 : Int) (r4 : Int) (r5 : Int) (r6 : Int) (r7 : Int) (w : World) (h : double_paint.f k a0_0 a0_1 a0_2 a0_3 a0_4 a0_5 a1_0 a1_1 a1_2 a1_3 a1_4 a1_5 a2 a3 = some (r1, r2, r3, r4, r5, r6, r7)) :
  Calls Try.prog 120 #[.agg #[.int .i64 a0_0, .bool a0_1, .int .u64 a0_2, .int .u64 a0_3, .int .u64 a0_4, .int .u64 a0_5], .agg #[.int .u64 a1_0, .int .u64 a1_1, .int .u64 a1_2, .int .u64 a1_3, .int .u64 a1_4, .int .u64 a1_5], .int .i64 a2, .int .i64 a3] w fun e w' => e = .returned (.tuple #[.agg #[.int .u64 r1, .int .u64 r2, .int .u64 r3, .int .u64 r4, .int .u64 r5, .int .u64 r6], .int .i64 r7]) ∧ Below w.heap.size w w' := by
 have hu49 := Try.underlying49
 have hu156 := Try.underlying156
 have hu155 := Try.underlying155
 have HB := zq3 (Below.refl w.heap.size w)
 have H : (if a0_1 = true then (double_paint.j0 k a2 a3 a1_0 a1_1 a1_2 a1_3 a1_4 a1_5) else (double_paint.j0 k a2 0 a1_0 a1_1 a1_2 a1_3 a1_4 a1_5)) = some (r1, r2, r3, r4, r5, r6, r7) := h
 clear h
 have HC5 := zq3 H
 clear H
 go_enter Try.func120, Try.ntmps120
 go_upto_if 16 with (first | ((with_reducible refine zd 4 rfl ?_); refine zb 4 #[.int .i64 a0_0, .bool a0_1, .int .u64 a0_2, .int .u64 a0_3, .int .u64 a0_4, .int .u64 a0_5] 49 ?_; intro gb101 hg w6 hbox hb; have BK101 := zq3 (hbox); have GW101 := ze hg HB; have GE101 := GW101; replace HB := zt HB hb; clear hb hbox hg) | ((with_reducible refine zd 5 rfl ?_); refine zb 5 #[.int .u64 a1_0, .int .u64 a1_1, .int .u64 a1_2, .int .u64 a1_3, .int .u64 a1_4, .int .u64 a1_5] 156 ?_; intro gb102 hg w7 hbox hb; have BK102 := zq3 (hbox); have GW102 := ze hg HB; have GE102 := GW102; have NB101_102 := zl hg BK101; have NB102_101 := zg hg BK101; replace BK101 := zs BK101 hb; replace HB := zt HB hb; clear hb hbox hg) | ((with_reducible refine zd 8 rfl ?_); refine zb 8 #[.int .u64 0, .int .u64 0, .int .u64 0, .int .u64 0, .int .u64 0, .int .u64 0] 156 ?_; intro gb103 hg w8 hbox hb; have BK103 := zq3 (hbox); have GW103 := ze hg HB; have GE103 := GW103; have NB101_103 := zl hg BK101; have NB103_101 := zg hg BK101; have NB102_103 := zl hg BK102; have NB103_102 := zg hg BK102; replace BK101 := zs BK101 hb; replace BK102 := zs BK102 hb; replace HB := zt HB hb; clear hb hbox hg; have hnb9 := NB101_102.out; have hnc9 := NB102_101.out; have hnb10 := NB101_103.out; have hnc10 := NB103_101.out; obtain ⟨hc11_0, hc11_1, hc11_2, hc11_3, hc11_4, hc11_5⟩ := zc6 BK101; obtain ⟨hf11_0, hf11_1, hf11_2, hf11_3, hf11_4, hf11_5⟩ := zf6 BK101))
 (try simp only [Act.put, List.setIfInBounds_toArray, List.set_cons_zero, List.set_cons_succ])
 go_cut [3] (fun v3 wc => ∃ (kq : Nat) (x3_4 : Int), v3 = .int .i64 x3_4 ∧ Aside0 (double_paint.j0 kq a2 x3_4 a1_0 a1_1 a1_2 a1_3 a1_4 a1_5 = some (r1, r2, r3, r4, r5, r6, r7)) ∧ Aside0 (kq ≤ k) ∧ Aside0 (wc.heap[gb101]? = some (.cells #[.int .i64 a0_0, .bool a0_1, .int .u64 a0_2, .int .u64 a0_3, .int .u64 a0_4, .int .u64 a0_5] 49 (0, 0))) ∧ Aside0 (wc.heap[gb102]? = some (.cells #[.int .u64 a1_0, .int .u64 a1_1, .int .u64 a1_2, .int .u64 a1_3, .int .u64 a1_4, .int .u64 a1_5] 156 (0, 0))) ∧ Aside0 (wc.heap[gb103]? = some (.cells #[.int .u64 0, .int .u64 0, .int .u64 0, .int .u64 0, .int .u64 0, .int .u64 0] 156 (0, 0))) ∧ Aside0 (Below w.heap.size w wc))
 case first =>
  have H := HC5.out
  clear HC5
  by_cases c12 : a0_1 = true
  ·
   subst c12
   have H1 : (double_paint.j0 k a2 a3 a1_0 a1_1 a1_2 a1_3 a1_4 a1_5) = some (r1, r2, r3, r4, r5, r6, r7) := by rw [if_pos rfl] at H; exact H
   clear H
   have H := H1
   clear H1
   have H' := zq3 H
   clear H
   go_wp2
   go_meet
   case rel => exact ⟨_, (a3), (by first | rfl | (simp; done) | (simp [*]; done)), H', ⟨by first | omega | exact Nat.le_refl _⟩, ⟨zw BK101⟩, ⟨zw BK102⟩, ⟨zw BK103⟩, ⟨zh HB⟩⟩
  ·
   replace c12 := Bool.eq_false_iff.mpr c12
   subst c12
   have H1 : (double_paint.j0 k a2 0 a1_0 a1_1 a1_2 a1_3 a1_4 a1_5) = some (r1, r2, r3, r4, r5, r6, r7) := by rw [if_neg (show ¬ (false = true) by decide)] at H; exact H
   clear H
   have H := H1
   clear H1
   have H' := zq3 H
   clear H
   go_wp2
   go_meet
   case rel => exact ⟨_, (0), (by first | rfl | (simp; done) | (simp [*]; done)), H', ⟨by first | omega | exact Nat.le_refl _⟩, ⟨zw BK101⟩, ⟨zw BK102⟩, ⟨zw BK103⟩, ⟨zh HB⟩⟩
 case rest =>
  clear HC5
  (try clear c1); (try clear p2); (try clear c9); (try clear c10); (try clear c12)
  try clear hc11_0 hc11_1 hc11_2 hc11_3 hc11_4 hc11_5 hf11_0 hf11_1 hf11_2 hf11_3 hf11_4 hf11_5
  obtain ⟨kq, x3_4, rfl, HA, HJ4, BK101, BK102, BK103, HB⟩ := hcut
  cases kq with
  | zero => exact absurd HA.out (by simp [double_paint.j0])
  | succ kj4 =>
   have H := HA.out
   clear HA
   simp only [double_paint.j0] at H
   replace H := Option.bind_eq_some_iff.mp H
   obtain ⟨⟨t104, t105, t106, t107⟩, A130, H⟩ := H
   replace H : ((double_side_take.f a1_0 a1_1 a1_2 a2).bind fun bt109 => (if x3_4 = 0 then (double_paint.j1 kj4 x3_4 bt109.2.2.2 (!t107) a1_0 a1_1 a1_2 a1_3 a1_4 a1_5 t104 t105 t106 bt109.1 bt109.2.1 bt109.2.2.1) else (if x3_4 = 1 then (double_paint.j1 kj4 x3_4 bt109.2.2.2 (!t107) a1_0 a1_1 a1_2 a1_3 a1_4 a1_5 t104 t105 t106 bt109.1 bt109.2.1 bt109.2.2.1) else (double_paint.j1 kj4 x3_4 bt109.2.2.2 true a1_0 a1_1 a1_2 a1_3 a1_4 a1_5 t104 t105 t106 bt109.1 bt109.2.1 bt109.2.2.1)))) = some (r1, r2, r3, r4, r5, r6, r7) := H
   have A13 := zq3 A130
   clear A130
   replace H := Option.bind_eq_some_iff.mp H
   obtain ⟨⟨t109, t110, t111, t112⟩, A140, H⟩ := H
   replace H : (if x3_4 = 0 then (double_paint.j1 kj4 x3_4 t112 (!t107) a1_0 a1_1 a1_2 a1_3 a1_4 a1_5 t104 t105 t106 t109 t110 t111) else (if x3_4 = 1 then (double_paint.j1 kj4 x3_4 t112 (!t107) a1_0 a1_1 a1_2 a1_3 a1_4 a1_5 t104 t105 t106 t109 t110 t111) else (double_paint.j1 kj4 x3_4 t112 true a1_0 a1_1 a1_2 a1_3 a1_4 a1_5 t104 t105 t106 t109 t110 t111))) = some (r1, r2, r3, r4, r5, r6, r7) := H
   have A14 := zq3 A140
   clear A140
   have HC15 := zq3 H
   clear H
   have hnb16 := NB102_101.out
   have hnc16 := NB101_102.out
   have hnb17 := NB102_103.out
   have hnc17 := NB103_102.out
   obtain ⟨hc18_0, hc18_1, hc18_2, hc18_3, hc18_4, hc18_5⟩ := zc6 BK102
   obtain ⟨hf18_0, hf18_1, hf18_2, hf18_3, hf18_4, hf18_5⟩ := zf6 BK102
   go_upto_region 5 with (first | ((with_reducible refine gate_callee (f := 122) rfl ?_); refine zgo (some 21) Try.func122 #[.agg #[.int .u64 a1_3, .int .u64 a1_4, .int .u64 a1_5], .int .i64 a2] ?_; (with_reducible refine (double_side_take.calls a1_3 a1_4 a1_5 a2 t104 t105 t106 t107 _ A13.out).mono ?_); rintro e w19 ⟨rfl, hb⟩; refine ⟨_, rfl, ?_⟩; replace BK101 := zs BK101 hb; replace BK102 := zs BK102 hb; replace BK103 := zs BK103 hb; replace HB := zt HB hb; (try clear hb)) | ((with_reducible refine zd 10 rfl ?_); refine zb 10 #[.int .u64 0, .int .u64 0, .int .u64 0] 155 ?_; intro gb108 hg w20 hbox hb; have BK108 := zq3 (hbox); have GW108 := ze hg HB; have GE108 := GW108; have NB101_108 := zl hg BK101; have NB108_101 := zg hg BK101; have NB102_108 := zl hg BK102; have NB108_102 := zg hg BK102; have NB103_108 := zl hg BK103; have NB108_103 := zg hg BK103; replace BK101 := zs BK101 hb; replace BK102 := zs BK102 hb; replace BK103 := zs BK103 hb; replace HB := zt HB hb; clear hb hbox hg; have hnb21 := NB108_101.out; have hnc21 := NB101_108.out; have hnb22 := NB108_102.out; have hnc22 := NB102_108.out; have hnb23 := NB108_103.out; have hnc23 := NB103_108.out; obtain ⟨hc24_0, hc24_1, hc24_2⟩ := zc3 BK108; obtain ⟨hf24_0, hf24_1, hf24_2⟩ := zf3 BK108; obtain ⟨hc25_0, hc25_1, hc25_2, hc25_3, hc25_4, hc25_5⟩ := zc6 BK102; obtain ⟨hf25_0, hf25_1, hf25_2, hf25_3, hf25_4, hf25_5⟩ := zf6 BK102) | ((with_reducible refine gate_callee (f := 122) rfl ?_); refine zgo (some 28) Try.func122 #[.agg #[.int .u64 a1_0, .int .u64 a1_1, .int .u64 a1_2], .int .i64 a2] ?_; (with_reducible refine (double_side_take.calls a1_0 a1_1 a1_2 a2 t109 t110 t111 t112 _ A14.out).mono ?_); rintro e w26 ⟨rfl, hb⟩; refine ⟨_, rfl, ?_⟩; replace BK101 := zsf BK101 hb; replace BK102 := zsf BK102 hb; replace BK103 := zsf BK103 hb; replace BK108 := zq3 (zq10 (o := .cells #[.int .u64 t104, .int .u64 t105, .int .u64 t106] 155 (0, 0)) (zw3 BK108) hb); replace HB := zt HB hb; (try clear hb)) | ((with_reducible refine zd 12 rfl ?_); refine zb 12 #[.int .u64 0, .int .u64 0, .int .u64 0] 155 ?_; intro gb113 hg w27 hbox hb; have BK113 := zq3 (hbox); have GW113 := ze hg HB; have GE113 := GW113; have NB101_113 := zl hg BK101; have NB113_101 := zg hg BK101; have NB102_113 := zl hg BK102; have NB113_102 := zg hg BK102; have NB103_113 := zl hg BK103; have NB113_103 := zg hg BK103; have NB108_113 := zl hg BK108; have NB113_108 := zg hg BK108; replace BK101 := zs BK101 hb; replace BK102 := zs BK102 hb; replace BK103 := zs BK103 hb; replace BK108 := zs BK108 hb; replace HB := zt HB hb; clear hb hbox hg; have hnb28 := NB113_101.out; have hnc28 := NB101_113.out; have hnb29 := NB113_102.out; have hnc29 := NB102_113.out; have hnb30 := NB113_103.out; have hnc30 := NB103_113.out; have hnb31 := NB113_108.out; have hnc31 := NB108_113.out; obtain ⟨hc32_0, hc32_1, hc32_2⟩ := zc3 BK113; obtain ⟨hf32_0, hf32_1, hf32_2⟩ := zf3 BK113))
   (try simp only [Act.put, List.setIfInBounds_toArray, List.set_cons_zero, List.set_cons_succ])
   go_cut [31] (fun v31 wc => ∃ (kq : Nat) (x31_14 : Bool), v31 = .bool x31_14 ∧ Aside0 (double_paint.j1 kq x3_4 t112 x31_14 a1_0 a1_1 a1_2 a1_3 a1_4 a1_5 t104 t105 t106 t109 t110 t111 = some (r1, r2, r3, r4, r5, r6, r7)) ∧ Aside0 (kq ≤ kj4) ∧ Aside0 (wc.heap[gb101]? = some (.cells #[.int .i64 a0_0, .bool a0_1, .int .u64 a0_2, .int .u64 a0_3, .int .u64 a0_4, .int .u64 a0_5] 49 (0, 0))) ∧ Aside0 (wc.heap[gb102]? = some (.cells #[.int .u64 a1_0, .int .u64 a1_1, .int .u64 a1_2, .int .u64 a1_3, .int .u64 a1_4, .int .u64 a1_5] 156 (0, 0))) ∧ Aside0 (wc.heap[gb103]? = some (.cells #[.int .u64 0, .int .u64 0, .int .u64 0, .int .u64 0, .int .u64 0, .int .u64 0] 156 (0, 0))) ∧ Aside0 (wc.heap[gb108]? = some (.cells #[.int .u64 t104, .int .u64 t105, .int .u64 t106] 155 (0, 0))) ∧ Aside0 (wc.heap[gb113]? = some (.cells #[.int .u64 t109, .int .u64 t110, .int .u64 t111] 155 (0, 0))) ∧ Aside0 (Below w.heap.size w wc))
   case first =>
    have H := HC15.out
    clear HC15
    by_cases c33 : x3_4 = 0
    ·
     rw [if_pos c33] at H
     have c33b0 : (x3_4 == 0) = true := beq_iff_eq.mpr c33
     have c33b1 : (x3_4 != 0) = false := bne_eq_false_iff_eq.mpr c33
     clear c33
     (first | rw [c33b0] | (simp only [i64_w, i32_w]; rw [c33b0]) | skip)
     have H' := zq3 H
     clear H
     go_wp2
     go_meet
     case rel => exact ⟨_, (!t107), (by first | rfl | (simp; done) | (simp [*]; done)), H', ⟨by have := HJ4.out; first | omega | exact Nat.le_refl _⟩, ⟨zw BK101⟩, ⟨zw BK102⟩, ⟨zw BK103⟩, ⟨zw BK108⟩, ⟨zw3 BK113⟩, ⟨zh HB⟩⟩
    ·
     rw [if_neg c33] at H
     have c33b0 : (x3_4 == 0) = false := beq_eq_false_iff_ne.mpr c33
     have c33b1 : (x3_4 != 0) = true := bne_iff_ne.mpr c33
     (first | rw [c33b0] | (simp only [i64_w, i32_w]; rw [c33b0]) | skip)
     by_cases c34 : x3_4 = 1
     ·
      rw [if_pos c34] at H
      have c34b0 : (x3_4 == 1) = true := beq_iff_eq.mpr c34
      have c34b1 : (x3_4 != 1) = false := bne_eq_false_iff_eq.mpr c34
      clear c34
      have H' := zq3 H
      clear H
      go_wp2
      go_meet
      case rel => exact ⟨_, (!t107), (by first | rfl | (simp; done) | (simp [*]; done)), H', ⟨by have := HJ4.out; first | omega | exact Nat.le_refl _⟩, ⟨zw BK101⟩, ⟨zw BK102⟩, ⟨zw BK103⟩, ⟨zw BK108⟩, ⟨zw3 BK113⟩, ⟨zh HB⟩⟩
     ·
      rw [if_neg c34] at H
      have c34b0 : (x3_4 == 1) = false := beq_eq_false_iff_ne.mpr c34
      have c34b1 : (x3_4 != 1) = true := bne_iff_ne.mpr c34
      have H' := zq3 H
      clear H
      go_wp2
      go_meet
      case rel => exact ⟨_, (true), (by first | rfl | (simp; done) | (simp [*]; done)), H', ⟨by have := HJ4.out; first | omega | exact Nat.le_refl _⟩, ⟨zw BK101⟩, ⟨zw BK102⟩, ⟨zw BK103⟩, ⟨zw BK108⟩, ⟨zw3 BK113⟩, ⟨zh HB⟩⟩
   case rest =>
    clear HC15
    (try clear c1); (try clear c2); (try clear p2); (try clear c3); (try clear c9); (try clear c10); (try clear c12); (try clear c16); (try clear c17); (try clear c21); (try clear c22); (try clear c23); (try clear c28); (try clear c29); (try clear c30); (try clear c31); (try clear c33); (try clear c33b0); (try clear c33b1); (try clear c34); (try clear c34b0); (try clear c34b1)
    try clear hc11_0 hc11_1 hc11_2 hc11_3 hc11_4 hc11_5 hc18_0 hc18_1 hc18_2 hc18_3 hc18_4 hc18_5 hc24_0 hc24_1 hc24_2 hc25_0 hc25_1 hc25_2 hc25_3 hc25_4 hc25_5 hc32_0 hc32_1 hc32_2 hf11_0 hf11_1 hf11_2 hf11_3 hf11_4 hf11_5 hf18_0 hf18_1 hf18_2 hf18_3 hf18_4 hf18_5 hf24_0 hf24_1 hf24_2 hf25_0 hf25_1 hf25_2 hf25_3 hf25_4 hf25_5 hf32_0 hf32_1 hf32_2
    (try clear p2)
    obtain ⟨kq, x31_14, rfl, HA, HJ14, BK101, BK102, BK103, BK108, BK113, HB⟩ := hcut
    cases kq with
    | zero => exact absurd HA.out (by simp [double_paint.j1])
    | succ kj14 =>
     have H := HA.out
     clear HA
     simp only [double_paint.j1] at H
     by_cases c35 : x31_14 = true
     ·
      subst c35
      have H1 : (some (a1_0, a1_1, a1_2, a1_3, a1_4, a1_5, 2)) = some (r1, r2, r3, r4, r5, r6, r7) := by rw [if_pos rfl] at H; exact H
      clear H
      have H := H1
      clear H1
      simp only [Option.some.injEq, Prod.mk.injEq] at H
      obtain ⟨rfl, rfl, rfl, rfl, rfl, rfl, rfl⟩ := H
      have hnb36 := NB102_101.out
      have hnc36 := NB101_102.out
      have hnb37 := NB102_103.out
      have hnc37 := NB103_102.out
      have hnb38 := NB102_108.out
      have hnc38 := NB108_102.out
      have hnb39 := NB102_113.out
      have hnc39 := NB113_102.out
      obtain ⟨hc40_0, hc40_1, hc40_2, hc40_3, hc40_4, hc40_5⟩ := zc6 BK102
      obtain ⟨hf40_0, hf40_1, hf40_2, hf40_3, hf40_4, hf40_5⟩ := zf6 BK102
      have hnb41 := NB103_101.out
      have hnc41 := NB101_103.out
      have hnb42 := NB103_108.out
      have hnc42 := NB108_103.out
      have hnb43 := NB103_113.out
      have hnc43 := NB113_103.out
      obtain ⟨hc44_0, hc44_1, hc44_2, hc44_3, hc44_4, hc44_5⟩ := zc6 BK103
      obtain ⟨hf44_0, hf44_1, hf44_2, hf44_3, hf44_4, hf44_5⟩ := zf6 BK103
      go_wp2
      refine bodyPost_ret (results_ct rfl _ _ gb103 156 #[.int .u64 a1_0, .int .u64 a1_1, .int .u64 a1_2, .int .u64 a1_3, .int .u64 a1_4, .int .u64 a1_5] (0, 0) _ rfl (zw6 BK103) Try.underlying156 rfl (by kernel_rfl)) rfl ?_
      exact ⟨by first | rfl | (simp [errW_none, errW_some] <;> rfl) | (simp [*, errW_none, errW_some] <;> rfl), zh HB⟩
     ·
      replace c35 := Bool.eq_false_iff.mpr c35
      subst c35
      have H1 : (if x3_4 = 1 then (some (a1_0, a1_1, a1_2, t104, t105, t106, 1)) else (if t112 = true then (some (t109, t110, t111, t104, t105, t106, 0)) else (some (a1_0, a1_1, a1_2, t104, t105, t106, 1)))) = some (r1, r2, r3, r4, r5, r6, r7) := by rw [if_neg (show ¬ (false = true) by decide)] at H; exact H
      clear H
      have H := H1
      clear H1
      by_cases c45 : x3_4 = 1
      ·
       rw [if_pos c45] at H
       have c45b0 : (x3_4 == 1) = true := beq_iff_eq.mpr c45
       have c45b1 : (x3_4 != 1) = false := bne_eq_false_iff_eq.mpr c45
       clear c45
       simp only [Option.some.injEq, Prod.mk.injEq] at H
       obtain ⟨rfl, rfl, rfl, rfl, rfl, rfl, rfl⟩ := H
       have hnb46 := NB102_101.out
       have hnc46 := NB101_102.out
       have hnb47 := NB102_103.out
       have hnc47 := NB103_102.out
       have hnb48 := NB102_108.out
       have hnc48 := NB108_102.out
       have hnb49 := NB102_113.out
       have hnc49 := NB113_102.out
       obtain ⟨hc50_0, hc50_1, hc50_2, hc50_3, hc50_4, hc50_5⟩ := zc6 BK102
       obtain ⟨hf50_0, hf50_1, hf50_2, hf50_3, hf50_4, hf50_5⟩ := zf6 BK102
       have hnb51 := NB108_101.out
       have hnc51 := NB101_108.out
       have hnb52 := NB108_103.out
       have hnc52 := NB103_108.out
       have hnb53 := NB108_113.out
       have hnc53 := NB113_108.out
       obtain ⟨hc54_0, hc54_1, hc54_2⟩ := zc3 BK108
       obtain ⟨hf54_0, hf54_1, hf54_2⟩ := zf3 BK108
       have hnb55 := NB103_101.out
       have hnc55 := NB101_103.out
       have hnb56 := NB103_113.out
       have hnc56 := NB113_103.out
       obtain ⟨hc57_0, hc57_1, hc57_2, hc57_3, hc57_4, hc57_5⟩ := zc6 BK103
       obtain ⟨hf57_0, hf57_1, hf57_2, hf57_3, hf57_4, hf57_5⟩ := zf6 BK103
       go_wp2
       refine bodyPost_ret (results_ct rfl _ _ gb103 156 #[.int .u64 a1_0, .int .u64 a1_1, .int .u64 a1_2, .int .u64 t104, .int .u64 t105, .int .u64 t106] (0, 0) _ rfl (zw6 BK103) Try.underlying156 rfl (by kernel_rfl)) rfl ?_
       exact ⟨by first | rfl | (simp [errW_none, errW_some] <;> rfl) | (simp [*, errW_none, errW_some] <;> rfl), zh HB⟩
      ·
       rw [if_neg c45] at H
       have c45b0 : (x3_4 == 1) = false := beq_eq_false_iff_ne.mpr c45
       have c45b1 : (x3_4 != 1) = true := bne_iff_ne.mpr c45
       by_cases c58 : t112 = true
       ·
        subst c58
        have H1 : (some (t109, t110, t111, t104, t105, t106, 0)) = some (r1, r2, r3, r4, r5, r6, r7) := by rw [if_pos rfl] at H; exact H
        clear H
        have H := H1
        clear H1
        simp only [Option.some.injEq, Prod.mk.injEq] at H
        obtain ⟨rfl, rfl, rfl, rfl, rfl, rfl, rfl⟩ := H
        have hnb59 := NB113_101.out
        have hnc59 := NB101_113.out
        have hnb60 := NB113_102.out
        have hnc60 := NB102_113.out
        have hnb61 := NB113_103.out
        have hnc61 := NB103_113.out
        have hnb62 := NB113_108.out
        have hnc62 := NB108_113.out
        obtain ⟨hc63_0, hc63_1, hc63_2⟩ := zc3 BK113
        obtain ⟨hf63_0, hf63_1, hf63_2⟩ := zf3 BK113
        have hnb64 := NB108_101.out
        have hnc64 := NB101_108.out
        have hnb65 := NB108_102.out
        have hnc65 := NB102_108.out
        have hnb66 := NB108_103.out
        have hnc66 := NB103_108.out
        obtain ⟨hc67_0, hc67_1, hc67_2⟩ := zc3 BK108
        obtain ⟨hf67_0, hf67_1, hf67_2⟩ := zf3 BK108
        have hnb68 := NB103_101.out
        have hnc68 := NB101_103.out
        have hnb69 := NB103_102.out
        have hnc69 := NB102_103.out
        obtain ⟨hc70_0, hc70_1, hc70_2, hc70_3, hc70_4, hc70_5⟩ := zc6 BK103
        obtain ⟨hf70_0, hf70_1, hf70_2, hf70_3, hf70_4, hf70_5⟩ := zf6 BK103
        go_wp2
        refine bodyPost_ret (results_ct rfl _ _ gb103 156 #[.int .u64 t109, .int .u64 t110, .int .u64 t111, .int .u64 t104, .int .u64 t105, .int .u64 t106] (0, 0) _ rfl (zw6 BK103) Try.underlying156 rfl (by kernel_rfl)) rfl ?_
        exact ⟨by first | rfl | (simp [errW_none, errW_some] <;> rfl) | (simp [*, errW_none, errW_some] <;> rfl), zh HB⟩
       ·
        replace c58 := Bool.eq_false_iff.mpr c58
        subst c58
        have H1 : (some (a1_0, a1_1, a1_2, t104, t105, t106, 1)) = some (r1, r2, r3, r4, r5, r6, r7) := by rw [if_neg (show ¬ (false = true) by decide)] at H; exact H
        clear H
        have H := H1
        clear H1
        simp only [Option.some.injEq, Prod.mk.injEq] at H
        obtain ⟨rfl, rfl, rfl, rfl, rfl, rfl, rfl⟩ := H
        have hnb71 := NB102_101.out
        have hnc71 := NB101_102.out
        have hnb72 := NB102_103.out
        have hnc72 := NB103_102.out
        have hnb73 := NB102_108.out
        have hnc73 := NB108_102.out
        have hnb74 := NB102_113.out
        have hnc74 := NB113_102.out
        obtain ⟨hc75_0, hc75_1, hc75_2, hc75_3, hc75_4, hc75_5⟩ := zc6 BK102
        obtain ⟨hf75_0, hf75_1, hf75_2, hf75_3, hf75_4, hf75_5⟩ := zf6 BK102
        have hnb76 := NB108_101.out
        have hnc76 := NB101_108.out
        have hnb77 := NB108_103.out
        have hnc77 := NB103_108.out
        have hnb78 := NB108_113.out
        have hnc78 := NB113_108.out
        obtain ⟨hc79_0, hc79_1, hc79_2⟩ := zc3 BK108
        obtain ⟨hf79_0, hf79_1, hf79_2⟩ := zf3 BK108
        have hnb80 := NB103_101.out
        have hnc80 := NB101_103.out
        have hnb81 := NB103_113.out
        have hnc81 := NB113_103.out
        obtain ⟨hc82_0, hc82_1, hc82_2, hc82_3, hc82_4, hc82_5⟩ := zc6 BK103
        obtain ⟨hf82_0, hf82_1, hf82_2, hf82_3, hf82_4, hf82_5⟩ := zf6 BK103
        go_wp2
        refine bodyPost_ret (results_ct rfl _ _ gb103 156 #[.int .u64 a1_0, .int .u64 a1_1, .int .u64 a1_2, .int .u64 t104, .int .u64 t105, .int .u64 t106] (0, 0) _ rfl (zw6 BK103) Try.underlying156 rfl (by kernel_rfl)) rfl ?_
        exact ⟨by first | rfl | (simp [errW_none, errW_some] <;> rfl) | (simp [*, errW_none, errW_some] <;> rfl), zh HB⟩

end Go.Proofs.Ytiaoaoebghnpkaa.P
end
section
namespace Go.Proofs.Ytiaoaoebghnpkaa.P
open Go.RowKit Go.Proofs.YtiaoaoebghnpkaaW.PrintWords Go.Proofs.YtiaoaoebghnpkaaW.PrintLast Go.Proofs.YtiaoaoebghnpkaaW.PrintMore
attribute [local go_sem] max2_int min2_int max_two min_two max_three min_three max_four min_four   -- for this text's walks alone
set_option linter.unusedVariables false
set_option linter.unusedSimpArgs false

/-! ### double_side_grow: function 119 -/
def double_side_grow.f (a0_0 : Int) (a0_1 : Int) (a0_2 : Int) (a1 : Int) : Option (Int × Int × Int) := (bucket_Grow.f a0_0 a0_1 a0_2 a1).bind fun bt103 => (some (bt103.1, a0_1, a0_2))
set_option maxHeartbeats 8000000 in
set_option maxRecDepth 100000 in
theorem double_side_grow.calls (a0_0 : Int) (a0_1 : Int) (a0_2 : Int) (a1 : Int) (r1 : Int) (r2 : Int) (r3 : Int) (w : World) (h : double_side_grow.f a0_0 a0_1 a0_2 a1 = some (r1, r2, r3)) :
  Calls Try.prog 119 #[.agg #[.int .u64 a0_0, .int .u64 a0_1, .int .u64 a0_2], .int .u64 a1] w fun e w' => e = .returned (.agg #[.int .u64 r1, .int .u64 r2, .int .u64 r3]) ∧ Below w.heap.size w w' := by
 have hu155 := Try.underlying155
 have HB := zq3 (Below.refl w.heap.size w)
 have H : ((bucket_Grow.f a0_0 a0_1 a0_2 a1).bind fun bt103 => (some (bt103.1, a0_1, a0_2))) = some (r1, r2, r3) := h
 clear h
 replace H := Option.bind_eq_some_iff.mp H
 obtain ⟨⟨t103, t104, t105⟩, A30, H⟩ := H
 replace H : (some (t103, a0_1, a0_2)) = some (r1, r2, r3) := H
 have A3 := zq3 A30
 clear A30
 simp only [Option.some.injEq, Prod.mk.injEq] at H
 obtain ⟨rfl, rfl, rfl⟩ := H
 go_enter Try.func119, Try.ntmps119
 go_wp2_with (first | ((with_reducible refine zd 2 rfl ?_); refine zb 2 #[.int .u64 a0_0, .int .u64 a0_1, .int .u64 a0_2] 155 ?_; intro gb101 hg w4 hbox hb; have BK101 := zq3 (hbox); have GW101 := ze hg HB; have GE101 := GW101; replace HB := zt HB hb; clear hb hbox hg) | ((with_reducible refine zd 4 rfl ?_); refine zb 4 #[.int .u64 0, .int .u64 0, .int .u64 0] 155 ?_; intro gb102 hg w5 hbox hb; have BK102 := zq3 (hbox); have GW102 := ze hg HB; have GE102 := GW102; have NB101_102 := zl hg BK101; have NB102_101 := zg hg BK101; replace BK101 := zs BK101 hb; replace HB := zt HB hb; clear hb hbox hg; have hnb6 := NB101_102.out; have hnc6 := NB102_101.out; obtain ⟨hc7_0, hc7_1, hc7_2⟩ := zc3 BK101; obtain ⟨hf7_0, hf7_1, hf7_2⟩ := zf3 BK101) | ((with_reducible refine gate_callee (f := 121) rfl ?_); refine zgo (some 13) Try.func121 #[.int .u64 a0_0, .int .u64 a0_1, .int .u64 a0_2, .int .u64 a1] ?_; (with_reducible refine (bucket_Grow.calls a0_0 a0_1 a0_2 a1 t103 t104 t105 _ A3.out).mono ?_); rintro e w8 ⟨rfl, hb⟩; refine ⟨_, rfl, ?_⟩; replace BK101 := zs BK101 hb; replace BK102 := zs BK102 hb; replace HB := zt HB hb; (try clear hb); obtain ⟨hc9_0, hc9_1, hc9_2⟩ := zc3 BK101; obtain ⟨hf9_0, hf9_1, hf9_2⟩ := zf3 BK101; obtain ⟨hc10_0, hc10_1, hc10_2⟩ := zc3 BK102; obtain ⟨hf10_0, hf10_1, hf10_2⟩ := zf3 BK102))
 refine bodyPost_ret (results_cell_row rfl _ _ gb102 155 #[.int .u64 t103, .int .u64 a0_1, .int .u64 a0_2] (0, 0) _ rfl (zw3 BK102) Try.underlying155 rfl (by kernel_rfl)) rfl ?_
 exact ⟨by first | rfl | (simp [errW_none, errW_some] <;> rfl) | (simp [*, errW_none, errW_some] <;> rfl), zh HB⟩

end Go.Proofs.Ytiaoaoebghnpkaa.P
end
section
namespace Go.Proofs.Ytiaoaoebghnpkaa.P
open Go.RowKit Go.Proofs.YtiaoaoebghnpkaaW.PrintWords Go.Proofs.YtiaoaoebghnpkaaW.PrintLast Go.Proofs.YtiaoaoebghnpkaaW.PrintMore
attribute [local go_sem] max2_int min2_int max_two min_two max_three min_three max_four min_four   -- for this text's walks alone
set_option linter.unusedVariables false
set_option linter.unusedSimpArgs false

/-! ### curve_less: function 69 -/
def curve_less.f (a0_0 : Int) (a0_1 : Int) (a1_0 : Int) (a1_1 : Int) : Option (Int × Int) := (wide_Sub.f a0_0 a0_1 a1_0 a1_1).bind fun bt104 => (if bt104.2.2 = true then (some (0, 0)) else (some (bt104.1, bt104.2.1)))
set_option maxHeartbeats 8000000 in
set_option maxRecDepth 100000 in
theorem curve_less.calls (a0_0 : Int) (a0_1 : Int) (a1_0 : Int) (a1_1 : Int) (r1 : Int) (r2 : Int) (w : World) (h : curve_less.f a0_0 a0_1 a1_0 a1_1 = some (r1, r2)) :
  Calls Try.prog 69 #[.agg #[.int .u64 a0_0, .int .u64 a0_1], .agg #[.int .u64 a1_0, .int .u64 a1_1]] w fun e w' => e = .returned (.agg #[.int .u64 r1, .int .u64 r2]) ∧ Below w.heap.size w w' := by
 have hu42 := Try.underlying42
 have HB := zq3 (Below.refl w.heap.size w)
 have H : ((wide_Sub.f a0_0 a0_1 a1_0 a1_1).bind fun bt104 => (if bt104.2.2 = true then (some (0, 0)) else (some (bt104.1, bt104.2.1)))) = some (r1, r2) := h
 clear h
 replace H := Option.bind_eq_some_iff.mp H
 obtain ⟨⟨t104, t105, t106⟩, A30, H⟩ := H
 replace H : (if t106 = true then (some (0, 0)) else (some (t104, t105))) = some (r1, r2) := H
 have A3 := zq3 A30
 clear A30
 by_cases c4 : t106 = true
 ·
  subst c4
  have H1 : (some (0, 0)) = some (r1, r2) := by rw [if_pos rfl] at H; exact H
  clear H
  have H := H1
  clear H1
  simp only [Option.some.injEq, Prod.mk.injEq] at H
  obtain ⟨rfl, rfl⟩ := H
  go_enter Try.func69, Try.ntmps69
  go_wp2_with (first | ((with_reducible refine zd 2 rfl ?_); refine zb 2 #[.int .u64 a0_0, .int .u64 a0_1] 42 ?_; intro gb101 hg w5 hbox hb; have BK101 := zq3 (hbox); have GW101 := ze hg HB; have GE101 := GW101; replace HB := zt HB hb; clear hb hbox hg) | ((with_reducible refine zd 3 rfl ?_); refine zb 3 #[.int .u64 a1_0, .int .u64 a1_1] 42 ?_; intro gb102 hg w6 hbox hb; have BK102 := zq3 (hbox); have GW102 := ze hg HB; have GE102 := GW102; have NB101_102 := zl hg BK101; have NB102_101 := zg hg BK101; replace BK101 := zs BK101 hb; replace HB := zt HB hb; clear hb hbox hg) | ((with_reducible refine zd 4 rfl ?_); refine zb 4 #[.int .u64 0, .int .u64 0] 42 ?_; intro gb103 hg w7 hbox hb; have BK103 := zq3 (hbox); have GW103 := ze hg HB; have GE103 := GW103; have NB101_103 := zl hg BK101; have NB103_101 := zg hg BK101; have NB102_103 := zl hg BK102; have NB103_102 := zg hg BK102; replace BK101 := zs BK101 hb; replace BK102 := zs BK102 hb; replace HB := zt HB hb; clear hb hbox hg; have hnb8 := NB101_102.out; have hnc8 := NB102_101.out; have hnb9 := NB101_103.out; have hnc9 := NB103_101.out; obtain ⟨hc10_0, hc10_1⟩ := zc2 BK101; obtain ⟨hf10_0, hf10_1⟩ := zf2 BK101; have hnb11 := NB102_103.out; have hnc11 := NB103_102.out; obtain ⟨hc12_0, hc12_1⟩ := zc2 BK102; obtain ⟨hf12_0, hf12_1⟩ := zf2 BK102) | ((with_reducible refine gate_callee (f := 73) rfl ?_); refine zgo (some 10) Try.func73 #[.agg #[.int .u64 a0_0, .int .u64 a0_1], .agg #[.int .u64 a1_0, .int .u64 a1_1]] ?_; (with_reducible refine (wide_Sub.calls a0_0 a0_1 a1_0 a1_1 t104 t105 true _ A3.out).mono ?_); rintro e w13 ⟨rfl, hb⟩; refine ⟨_, rfl, ?_⟩; replace BK101 := zs BK101 hb; replace BK102 := zs BK102 hb; replace BK103 := zs BK103 hb; replace HB := zt HB hb; (try clear hb)) | ((with_reducible refine zd 5 rfl ?_); refine zb 5 #[.int .u64 0, .int .u64 0] 42 ?_; intro gb107 hg w14 hbox hb; have BK107 := zq3 (hbox); have GW107 := ze hg HB; have GE107 := GW107; have NB101_107 := zl hg BK101; have NB107_101 := zg hg BK101; have NB102_107 := zl hg BK102; have NB107_102 := zg hg BK102; have NB103_107 := zl hg BK103; have NB107_103 := zg hg BK103; replace BK101 := zs BK101 hb; replace BK102 := zs BK102 hb; replace BK103 := zs BK103 hb; replace HB := zt HB hb; clear hb hbox hg; have hnb15 := NB107_101.out; have hnc15 := NB101_107.out; have hnb16 := NB107_102.out; have hnc16 := NB102_107.out; have hnb17 := NB107_103.out; have hnc17 := NB103_107.out; obtain ⟨hc18_0, hc18_1⟩ := zc2 BK107; obtain ⟨hf18_0, hf18_1⟩ := zf2 BK107; obtain ⟨hc19_0, hc19_1⟩ := zc2 BK103; obtain ⟨hf19_0, hf19_1⟩ := zf2 BK103))
  refine bodyPost_ret (results_cell_row rfl _ _ gb103 42 #[.int .u64 0, .int .u64 0] (0, 0) _ rfl (zw2 BK103) Try.underlying42 rfl (by kernel_rfl)) rfl ?_
  exact ⟨by first | rfl | (simp [errW_none, errW_some] <;> rfl) | (simp [*, errW_none, errW_some] <;> rfl), zh HB⟩
 ·
  replace c4 := Bool.eq_false_iff.mpr c4
  subst c4
  have H1 : (some (t104, t105)) = some (r1, r2) := by rw [if_neg (show ¬ (false = true) by decide)] at H; exact H
  clear H
  have H := H1
  clear H1
  simp only [Option.some.injEq, Prod.mk.injEq] at H
  obtain ⟨rfl, rfl⟩ := H
  go_enter Try.func69, Try.ntmps69
  go_wp2_with (first | ((with_reducible refine zd 2 rfl ?_); refine zb 2 #[.int .u64 a0_0, .int .u64 a0_1] 42 ?_; intro gb101 hg w20 hbox hb; have BK101 := zq3 (hbox); have GW101 := ze hg HB; have GE101 := GW101; replace HB := zt HB hb; clear hb hbox hg) | ((with_reducible refine zd 3 rfl ?_); refine zb 3 #[.int .u64 a1_0, .int .u64 a1_1] 42 ?_; intro gb102 hg w21 hbox hb; have BK102 := zq3 (hbox); have GW102 := ze hg HB; have GE102 := GW102; have NB101_102 := zl hg BK101; have NB102_101 := zg hg BK101; replace BK101 := zs BK101 hb; replace HB := zt HB hb; clear hb hbox hg) | ((with_reducible refine zd 4 rfl ?_); refine zb 4 #[.int .u64 0, .int .u64 0] 42 ?_; intro gb103 hg w22 hbox hb; have BK103 := zq3 (hbox); have GW103 := ze hg HB; have GE103 := GW103; have NB101_103 := zl hg BK101; have NB103_101 := zg hg BK101; have NB102_103 := zl hg BK102; have NB103_102 := zg hg BK102; replace BK101 := zs BK101 hb; replace BK102 := zs BK102 hb; replace HB := zt HB hb; clear hb hbox hg; have hnb23 := NB101_102.out; have hnc23 := NB102_101.out; have hnb24 := NB101_103.out; have hnc24 := NB103_101.out; obtain ⟨hc25_0, hc25_1⟩ := zc2 BK101; obtain ⟨hf25_0, hf25_1⟩ := zf2 BK101; have hnb26 := NB102_103.out; have hnc26 := NB103_102.out; obtain ⟨hc27_0, hc27_1⟩ := zc2 BK102; obtain ⟨hf27_0, hf27_1⟩ := zf2 BK102) | ((with_reducible refine gate_callee (f := 73) rfl ?_); refine zgo (some 10) Try.func73 #[.agg #[.int .u64 a0_0, .int .u64 a0_1], .agg #[.int .u64 a1_0, .int .u64 a1_1]] ?_; (with_reducible refine (wide_Sub.calls a0_0 a0_1 a1_0 a1_1 t104 t105 false _ A3.out).mono ?_); rintro e w28 ⟨rfl, hb⟩; refine ⟨_, rfl, ?_⟩; replace BK101 := zs BK101 hb; replace BK102 := zs BK102 hb; replace BK103 := zs BK103 hb; replace HB := zt HB hb; (try clear hb)) | ((with_reducible refine zd 5 rfl ?_); refine zb 5 #[.int .u64 0, .int .u64 0] 42 ?_; intro gb107 hg w29 hbox hb; have BK107 := zq3 (hbox); have GW107 := ze hg HB; have GE107 := GW107; have NB101_107 := zl hg BK101; have NB107_101 := zg hg BK101; have NB102_107 := zl hg BK102; have NB107_102 := zg hg BK102; have NB103_107 := zl hg BK103; have NB107_103 := zg hg BK103; replace BK101 := zs BK101 hb; replace BK102 := zs BK102 hb; replace BK103 := zs BK103 hb; replace HB := zt HB hb; clear hb hbox hg; have hnb30 := NB107_101.out; have hnc30 := NB101_107.out; have hnb31 := NB107_102.out; have hnc31 := NB102_107.out; have hnb32 := NB107_103.out; have hnc32 := NB103_107.out; obtain ⟨hc33_0, hc33_1⟩ := zc2 BK107; obtain ⟨hf33_0, hf33_1⟩ := zf2 BK107; obtain ⟨hc34_0, hc34_1⟩ := zc2 BK103; obtain ⟨hf34_0, hf34_1⟩ := zf2 BK103))
  refine bodyPost_ret (results_cell_row rfl _ _ gb103 42 #[.int .u64 t104, .int .u64 t105] (0, 0) _ rfl (zw2 BK103) Try.underlying42 rfl (by kernel_rfl)) rfl ?_
  exact ⟨by first | rfl | (simp [errW_none, errW_some] <;> rfl) | (simp [*, errW_none, errW_some] <;> rfl), zh HB⟩

end Go.Proofs.Ytiaoaoebghnpkaa.P
end
