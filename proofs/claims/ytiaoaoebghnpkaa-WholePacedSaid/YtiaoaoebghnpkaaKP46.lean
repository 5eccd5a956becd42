/- Parts of the proof, in one text. -/
import Derived.Test.YtiaoaoebghnpkaaKP10
import Derived.Test.YtiaoaoebghnpkaaKP11
import Derived.Test.YtiaoaoebghnpkaaKP12
import Derived.Test.YtiaoaoebghnpkaaKP30
section
namespace Go.Proofs.Ytiaoaoebghnpkaa.P
open Go.RowKit Go.Proofs.YtiaoaoebghnpkaaW.PrintWords Go.Proofs.YtiaoaoebghnpkaaW.PrintLast Go.Proofs.YtiaoaoebghnpkaaW.PrintMore
attribute [local go_sem] max2_int min2_int max_two min_two max_three min_three max_four min_four   -- for this text's walks alone
set_option linter.unusedVariables false
set_option linter.unusedSimpArgs false

/-! ### outlook_When: function 26 -/
mutual
def outlook_When.j0 : Nat → Int → Int → Bool → Int → Bool → Int → Int → Int → Int → Int → Int → Int → Bool → Option (Int × Bool)
 | 0, _, _, _, _, _, _, _, _, _, _, _, _, _ => none
 | k + 1, x2, x3, x23, x102000, x102001, x102002, x102003, x102004, x102005, x103000, x103001, x103002, x103003 => if x23 = true then (some (0, false)) else ((bucket_Need.f x2).bind fun bt105 => (if bt105.2 = true then (outlook_When.j1 k x3 bt105.1 false x102000 x102001 x102002 x102003 x102004 x102005 x103000 x103001 x103002 x103003) else (outlook_When.j1 k x3 bt105.1 (x3 != 2) x102000 x102001 x102002 x102003 x102004 x102005 x103000 x103001 x103002 x103003)))
def outlook_When.j1 : Nat → Int → Int → Bool → Int → Bool → Int → Int → Int → Int → Int → Int → Int → Bool → Option (Int × Bool)
 | 0, _, _, _, _, _, _, _, _, _, _, _, _, _ => none
 | k + 1, x3, x10, x34, x102000, x102001, x102002, x102003, x102004, x102005, x103000, x103001, x103002, x103003 => if x34 = true then (some (0, false)) else ((outlook_wait.f k x102000 x102001 x102002 x102003 x102004 x102005 x103000 x103001 x103002 x103003 x10 x3).bind fun bt107 => ((outlook_when.f x103000 x103001 x103002 x103003 bt107.1 bt107.2).bind fun bt109 => (some (bt109.1, bt109.2))))
end
def outlook_When.f (k : Nat) (a0_0 : Int) (a0_1 : Bool) (a0_2 : Int) (a0_3 : Int) (a0_4 : Int) (a0_5 : Int) (a1_0 : Int) (a1_1 : Int) (a1_2 : Int) (a1_3 : Bool) (a2 : Int) (a3 : Int) : Option (Int × Bool) := (meter_Check.f a0_0 a0_1 a0_2 a0_3 a0_4 a0_5).bind fun t103 => (if t103 = 0 then (if a2 < 0 then (outlook_When.j0 k a2 a3 true a0_0 a0_1 a0_2 a0_3 a0_4 a0_5 a1_0 a1_1 a1_2 a1_3) else ((outlook_is.f a3).bind fun t104 => (outlook_When.j0 k a2 a3 (!t104) a0_0 a0_1 a0_2 a0_3 a0_4 a0_5 a1_0 a1_1 a1_2 a1_3))) else (outlook_When.j0 k a2 a3 true a0_0 a0_1 a0_2 a0_3 a0_4 a0_5 a1_0 a1_1 a1_2 a1_3))
def outlook_When.T6 : Bool × List (List Nat × List Nat) := (true, [([], []), ([], []), ([], []), ([], []), ([], []), ([1, 2, 3, 4], [1, 2, 3, 4]), ([0, 5, 5], [0, 5]), ([6], [6]), ([6], [6]), ([7, 6, 0, 1, 2, 3, 4, 5, 6, 7, 8], [7]), ([8, 9, 0, 1, 2, 3, 4, 5, 6, 7, 8, 9], [8])])
def outlook_When.B6 : List Nat := [0, 0, 0, 0, 0, 30, 63, 127, 127, 511, 1023]
theorem outlook_When.tab6 : rtab .any (opsOf Try.f26 6) = outlook_When.T6 := by kernel_rfl
theorem outlook_When.bits6 : waitsOk outlook_When.T6.2 outlook_When.B6 = true := by kernel_rfl
set_option maxHeartbeats 8000000 in
set_option maxRecDepth 100000 in
theorem outlook_When.calls (k : Nat) (a0_0 : Int) (a0_1 : Bool) (a0_2 : Int) (a0_3 : Int) (a0_4 : Int) (a0_5 : Int) (a1_0 : Int) (a1_1 : Int) (a1_2 : Int) (a1_3 : Bool) (a2 : Int) (a3 : Int) (r1 : Int) (r2 : Bool) (w : World) (h : outlook_When.f k a0_0 a0_1 a0_2 a0_3 a0_4 a0_5 a1_0 a1_1 a1_2 a1_3 a2 a3 = some (r1, r2)) :
  Calls Try.prog 26 #[.agg #[.int .i64 a0_0, .bool a0_1, .int .u64 a0_2, .int .u64 a0_3, .int .u64 a0_4, .int .u64 a0_5], .agg #[.int .u64 a1_0, .int .u64 a1_1, .int .u64 a1_2, .bool a1_3], .int .i64 a2, .int .i64 a3] w fun e w' => e = .returned (.tuple #[.int .u64 r1, .bool r2]) ∧ Below w.heap.size w w' := by
 have hu49 := Try.underlying49
 have hu51 := Try.underlying51
 have HB := zq3 (Below.refl w.heap.size w)
 have H : ((meter_Check.f a0_0 a0_1 a0_2 a0_3 a0_4 a0_5).bind fun t103 => (if t103 = 0 then (if a2 < 0 then (outlook_When.j0 k a2 a3 true a0_0 a0_1 a0_2 a0_3 a0_4 a0_5 a1_0 a1_1 a1_2 a1_3) else ((outlook_is.f a3).bind fun t104 => (outlook_When.j0 k a2 a3 (!t104) a0_0 a0_1 a0_2 a0_3 a0_4 a0_5 a1_0 a1_1 a1_2 a1_3))) else (outlook_When.j0 k a2 a3 true a0_0 a0_1 a0_2 a0_3 a0_4 a0_5 a1_0 a1_1 a1_2 a1_3))) = some (r1, r2) := h
 clear h
 have HC5 := zq3 H
 clear H
 go_enter Try.func26, Try.ntmps26
 go_upto_region 1 with (first | ((with_reducible refine zd 4 rfl ?_); refine zb 4 #[.int .i64 a0_0, .bool a0_1, .int .u64 a0_2, .int .u64 a0_3, .int .u64 a0_4, .int .u64 a0_5] 49 ?_; intro gb101 hg w6 hbox hb; have BK101 := zq3 (hbox); have GW101 := ze hg HB; have GE101 := GW101; replace HB := zt HB hb; clear hb hbox hg) | ((with_reducible refine zd 5 rfl ?_); refine zb 5 #[.int .u64 a1_0, .int .u64 a1_1, .int .u64 a1_2, .bool a1_3] 51 ?_; intro gb102 hg w7 hbox hb; have BK102 := zq3 (hbox); have GW102 := ze hg HB; have GE102 := GW102; have NB101_102 := zl hg BK101; have NB102_101 := zg hg BK101; replace BK101 := zs BK101 hb; replace HB := zt HB hb; clear hb hbox hg))
 (try simp only [Act.put, List.setIfInBounds_toArray, List.set_cons_zero, List.set_cons_succ])
 go_cut [23] (fun v23 wc => ∃ (kq : Nat) (x23_4 : Bool), v23 = .bool x23_4 ∧ Aside0 (outlook_When.j0 kq a2 a3 x23_4 a0_0 a0_1 a0_2 a0_3 a0_4 a0_5 a1_0 a1_1 a1_2 a1_3 = some (r1, r2)) ∧ Aside0 (kq ≤ k) ∧ Aside0 (wc.heap[gb101]? = some (.cells #[.int .i64 a0_0, .bool a0_1, .int .u64 a0_2, .int .u64 a0_3, .int .u64 a0_4, .int .u64 a0_5] 49 (0, 0))) ∧ Aside0 (wc.heap[gb102]? = some (.cells #[.int .u64 a1_0, .int .u64 a1_1, .int .u64 a1_2, .bool a1_3] 51 (0, 0))) ∧ Aside0 (Below w.heap.size w wc))
 case first =>
  have H := HC5.out
  clear HC5
  replace H := Option.bind_eq_some_iff.mp H
  obtain ⟨t103, A80, H⟩ := H
  replace H : (if t103 = 0 then (if a2 < 0 then (outlook_When.j0 k a2 a3 true a0_0 a0_1 a0_2 a0_3 a0_4 a0_5 a1_0 a1_1 a1_2 a1_3) else ((outlook_is.f a3).bind fun t104 => (outlook_When.j0 k a2 a3 (!t104) a0_0 a0_1 a0_2 a0_3 a0_4 a0_5 a1_0 a1_1 a1_2 a1_3))) else (outlook_When.j0 k a2 a3 true a0_0 a0_1 a0_2 a0_3 a0_4 a0_5 a1_0 a1_1 a1_2 a1_3)) = some (r1, r2) := H
  have A8 := zq3 A80
  clear A80
  by_cases c9 : t103 = 0
  ·
   rw [if_pos c9] at H
   have c9b0 : (t103 == 0) = true := beq_iff_eq.mpr c9
   have c9b1 : (t103 != 0) = false := bne_eq_false_iff_eq.mpr c9
   clear c9
   (first | rw [c9b0] | (simp only [i64_w, i32_w]; rw [c9b0]) | skip)
   by_cases c10 : a2 < 0
   ·
    rw [if_pos c10] at H
    have c10b0 : decide (a2 < 0) = true := decide_eq_true c10
    clear c10
    have H' := zq3 H
    clear H
    have hnb11 := NB101_102.out
    have hnc11 := NB102_101.out
    obtain ⟨hc12_0, hc12_1, hc12_2, hc12_3, hc12_4, hc12_5⟩ := zc6 BK101
    obtain ⟨hf12_0, hf12_1, hf12_2, hf12_3, hf12_4, hf12_5⟩ := zf6 BK101
    go_wp2_with (first | ((with_reducible refine gate_callee (f := 34) rfl ?_); refine zgo (some 13) Try.func34 #[.agg #[.int .i64 a0_0, .bool a0_1, .int .u64 a0_2, .int .u64 a0_3, .int .u64 a0_4, .int .u64 a0_5]] ?_; (with_reducible refine (meter_Check.calls a0_0 a0_1 a0_2 a0_3 a0_4 a0_5 t103 _ A8.out).mono ?_); rintro e w13 ⟨rfl, hb⟩; refine ⟨_, rfl, ?_⟩; replace BK101 := zs BK101 hb; replace BK102 := zs BK102 hb; replace HB := zt HB hb; (try clear hb)))
    go_meet
    case rel => exact ⟨_, (true), (by first | rfl | (simp; done) | (simp [*]; done)), H', ⟨by first | omega | exact Nat.le_refl _⟩, ⟨zw BK101⟩, ⟨zw BK102⟩, ⟨zh HB⟩⟩
   ·
    rw [if_neg c10] at H
    have c10b0 : decide (a2 < 0) = false := decide_eq_false c10
    clear c10
    replace H := Option.bind_eq_some_iff.mp H
    obtain ⟨t104, A140, H⟩ := H
    replace H : (outlook_When.j0 k a2 a3 (!t104) a0_0 a0_1 a0_2 a0_3 a0_4 a0_5 a1_0 a1_1 a1_2 a1_3) = some (r1, r2) := H
    have A14 := zq3 A140
    clear A140
    have H' := zq3 H
    clear H
    have hnb15 := NB101_102.out
    have hnc15 := NB102_101.out
    obtain ⟨hc16_0, hc16_1, hc16_2, hc16_3, hc16_4, hc16_5⟩ := zc6 BK101
    obtain ⟨hf16_0, hf16_1, hf16_2, hf16_3, hf16_4, hf16_5⟩ := zf6 BK101
    go_wp2_with (first | ((with_reducible refine gate_callee (f := 34) rfl ?_); refine zgo (some 13) Try.func34 #[.agg #[.int .i64 a0_0, .bool a0_1, .int .u64 a0_2, .int .u64 a0_3, .int .u64 a0_4, .int .u64 a0_5]] ?_; (with_reducible refine (meter_Check.calls a0_0 a0_1 a0_2 a0_3 a0_4 a0_5 t103 _ A8.out).mono ?_); rintro e w17 ⟨rfl, hb⟩; refine ⟨_, rfl, ?_⟩; replace BK101 := zs BK101 hb; replace BK102 := zs BK102 hb; replace HB := zt HB hb; (try clear hb)) | (go_at_call 53; (with_reducible refine (outlook_is.calls a3 t104 _ A14.out).mono ?_); rintro e w18 ⟨rfl, hb⟩; replace BK101 := zs BK101 hb; replace BK102 := zs BK102 hb; replace HB := zt HB hb; (try clear hb)))
    go_meet
    case rel => exact ⟨_, (!t104), (by first | rfl | (simp; done) | (simp [*]; done)), H', ⟨by first | omega | exact Nat.le_refl _⟩, ⟨zw BK101⟩, ⟨zw BK102⟩, ⟨zh HB⟩⟩
  ·
   rw [if_neg c9] at H
   have c9b0 : (t103 == 0) = false := beq_eq_false_iff_ne.mpr c9
   have c9b1 : (t103 != 0) = true := bne_iff_ne.mpr c9
   (first | rw [c9b0] | (simp only [i64_w, i32_w]; rw [c9b0]) | skip)
   have H' := zq3 H
   clear H
   have hnb19 := NB101_102.out
   have hnc19 := NB102_101.out
   obtain ⟨hc20_0, hc20_1, hc20_2, hc20_3, hc20_4, hc20_5⟩ := zc6 BK101
   obtain ⟨hf20_0, hf20_1, hf20_2, hf20_3, hf20_4, hf20_5⟩ := zf6 BK101
   go_wp2_with (first | ((with_reducible refine gate_callee (f := 34) rfl ?_); refine zgo (some 13) Try.func34 #[.agg #[.int .i64 a0_0, .bool a0_1, .int .u64 a0_2, .int .u64 a0_3, .int .u64 a0_4, .int .u64 a0_5]] ?_; (with_reducible refine (meter_Check.calls a0_0 a0_1 a0_2 a0_3 a0_4 a0_5 t103 _ A8.out).mono ?_); rintro e w21 ⟨rfl, hb⟩; refine ⟨_, rfl, ?_⟩; replace BK101 := zs BK101 hb; replace BK102 := zs BK102 hb; replace HB := zt HB hb; (try clear hb)))
   go_meet
   case rel => exact ⟨_, (true), (by first | rfl | (simp; done) | (simp [*]; done)), H', ⟨by first | omega | exact Nat.le_refl _⟩, ⟨zw BK101⟩, ⟨zw BK102⟩, ⟨zh HB⟩⟩
 case rest =>
  clear HC5
  (try clear c1); (try clear c2); (try clear p2); (try clear c3); (try clear c9); (try clear c9b0); (try clear c9b1); (try clear c10); (try clear c10b0); (try clear c11); (try clear c15); (try clear c19)
  try clear hc12_0 hc12_1 hc12_2 hc12_3 hc12_4 hc12_5 hc16_0 hc16_1 hc16_2 hc16_3 hc16_4 hc16_5 hc20_0 hc20_1 hc20_2 hc20_3 hc20_4 hc20_5 hf12_0 hf12_1 hf12_2 hf12_3 hf12_4 hf12_5 hf16_0 hf16_1 hf16_2 hf16_3 hf16_4 hf16_5 hf20_0 hf20_1 hf20_2 hf20_3 hf20_4 hf20_5
  obtain ⟨kq, x23_4, rfl, HA, HJ4, BK101, BK102, HB⟩ := hcut
  cases kq with
  | zero => exact absurd HA.out (by simp [outlook_When.j0])
  | succ kj4 =>
   have H := HA.out
   clear HA
   simp only [outlook_When.j0] at H
   by_cases c22 : x23_4 = true
   ·
    subst c22
    have H1 : (some (0, false)) = some (r1, r2) := by rw [if_pos rfl] at H; exact H
    clear H
    have H := H1
    clear H1
    simp only [Option.some.injEq, Prod.mk.injEq] at H
    obtain ⟨rfl, rfl⟩ := H
    go_wp2
    go_ret2
    exact ⟨by first | rfl | (simp [errW_none, errW_some] <;> rfl) | (simp [*, errW_none, errW_some] <;> rfl), zh HB⟩
   ·
    replace c22 := Bool.eq_false_iff.mpr c22
    subst c22
    have H1 : ((bucket_Need.f a2).bind fun bt105 => (if bt105.2 = true then (outlook_When.j1 kj4 a3 bt105.1 false a0_0 a0_1 a0_2 a0_3 a0_4 a0_5 a1_0 a1_1 a1_2 a1_3) else (outlook_When.j1 kj4 a3 bt105.1 (a3 != 2) a0_0 a0_1 a0_2 a0_3 a0_4 a0_5 a1_0 a1_1 a1_2 a1_3))) = some (r1, r2) := by rw [if_neg (show ¬ (false = true) by decide)] at H; exact H
    clear H
    have H := H1
    clear H1
    replace H := Option.bind_eq_some_iff.mp H
    obtain ⟨⟨t105, t106⟩, A230, H⟩ := H
    replace H : (if t106 = true then (outlook_When.j1 kj4 a3 t105 false a0_0 a0_1 a0_2 a0_3 a0_4 a0_5 a1_0 a1_1 a1_2 a1_3) else (outlook_When.j1 kj4 a3 t105 (a3 != 2) a0_0 a0_1 a0_2 a0_3 a0_4 a0_5 a1_0 a1_1 a1_2 a1_3)) = some (r1, r2) := H
    have A23 := zq3 A230
    clear A230
    have HC24 := zq3 H
    clear H
    go_upto_region 4 with (first | ((with_reducible refine gate_callee (f := 54) rfl ?_); refine zgo (some 26) Try.func54 #[.int .i64 a2] ?_; (with_reducible refine (bucket_Need.calls a2 t105 t106 _ A23.out).mono ?_); rintro e w25 ⟨rfl, hb⟩; refine ⟨_, rfl, ?_⟩; replace BK101 := zs BK101 hb; replace BK102 := zs BK102 hb; replace HB := zt HB hb; (try clear hb)))
    (try simp only [Act.put, List.setIfInBounds_toArray, List.set_cons_zero, List.set_cons_succ])
    go_cut [34] (fun v34 wc => ∃ (kq : Nat) (x34_23 : Bool), v34 = .bool x34_23 ∧ Aside0 (outlook_When.j1 kq a3 t105 x34_23 a0_0 a0_1 a0_2 a0_3 a0_4 a0_5 a1_0 a1_1 a1_2 a1_3 = some (r1, r2)) ∧ Aside0 (kq ≤ kj4) ∧ Aside0 (wc.heap[gb101]? = some (.cells #[.int .i64 a0_0, .bool a0_1, .int .u64 a0_2, .int .u64 a0_3, .int .u64 a0_4, .int .u64 a0_5] 49 (0, 0))) ∧ Aside0 (wc.heap[gb102]? = some (.cells #[.int .u64 a1_0, .int .u64 a1_1, .int .u64 a1_2, .bool a1_3] 51 (0, 0))) ∧ Aside0 (Below w.heap.size w wc))
    case first =>
     have H := HC24.out
     clear HC24
     by_cases c26 : t106 = true
     ·
      subst c26
      have H1 : (outlook_When.j1 kj4 a3 t105 false a0_0 a0_1 a0_2 a0_3 a0_4 a0_5 a1_0 a1_1 a1_2 a1_3) = some (r1, r2) := by rw [if_pos rfl] at H; exact H
      clear H
      have H := H1
      clear H1
      have H' := zq3 H
      clear H
      go_wp2
      go_meet
      case rel => exact ⟨_, (false), (by first | rfl | (simp; done) | (simp [*]; done)), H', ⟨by have := HJ4.out; first | omega | exact Nat.le_refl _⟩, ⟨zw BK101⟩, ⟨zw BK102⟩, ⟨zh HB⟩⟩
     ·
      replace c26 := Bool.eq_false_iff.mpr c26
      subst c26
      have H1 : (outlook_When.j1 kj4 a3 t105 (a3 != 2) a0_0 a0_1 a0_2 a0_3 a0_4 a0_5 a1_0 a1_1 a1_2 a1_3) = some (r1, r2) := by rw [if_neg (show ¬ (false = true) by decide)] at H; exact H
      clear H
      have H := H1
      clear H1
      have H' := zq3 H
      clear H
      go_wp2
      go_meet
      case rel => exact ⟨_, ((a3 != 2)), (by first | rfl | (simp; done) | (simp [*]; done)), H', ⟨by have := HJ4.out; first | omega | exact Nat.le_refl _⟩, ⟨zw BK101⟩, ⟨zw BK102⟩, ⟨zh HB⟩⟩
    case rest =>
     clear HC24
     (try clear c1); (try clear c2); (try clear p2); (try clear c3); (try clear c5); (try clear c9); (try clear c9b0); (try clear c9b1); (try clear c10); (try clear c10b0); (try clear c11); (try clear c15); (try clear c19); (try clear c22); (try clear c26)
     try clear hc12_0 hc12_1 hc12_2 hc12_3 hc12_4 hc12_5 hc16_0 hc16_1 hc16_2 hc16_3 hc16_4 hc16_5 hc20_0 hc20_1 hc20_2 hc20_3 hc20_4 hc20_5 hf12_0 hf12_1 hf12_2 hf12_3 hf12_4 hf12_5 hf16_0 hf16_1 hf16_2 hf16_3 hf16_4 hf16_5 hf20_0 hf20_1 hf20_2 hf20_3 hf20_4 hf20_5
     (try clear p2)
     obtain ⟨kq, x34_23, rfl, HA, HJ23, BK101, BK102, HB⟩ := hcut
     cases kq with
     | zero => exact absurd HA.out (by simp [outlook_When.j1])
     | succ kj23 =>
      have H := HA.out
      clear HA
      simp only [outlook_When.j1] at H
      by_cases c27 : x34_23 = true
      ·
       subst c27
       have H1 : (some (0, false)) = some (r1, r2) := by rw [if_pos rfl] at H; exact H
       clear H
       have H := H1
       clear H1
       simp only [Option.some.injEq, Prod.mk.injEq] at H
       obtain ⟨rfl, rfl⟩ := H
       go_wp2
       go_ret2
       exact ⟨by first | rfl | (simp [errW_none, errW_some] <;> rfl) | (simp [*, errW_none, errW_some] <;> rfl), zh HB⟩
      ·
       replace c27 := Bool.eq_false_iff.mpr c27
       subst c27
       have H1 : ((outlook_wait.f kj23 a0_0 a0_1 a0_2 a0_3 a0_4 a0_5 a1_0 a1_1 a1_2 a1_3 t105 a3).bind fun bt107 => ((outlook_when.f a1_0 a1_1 a1_2 a1_3 bt107.1 bt107.2).bind fun bt109 => (some (bt109.1, bt109.2)))) = some (r1, r2) := by rw [if_neg (show ¬ (false = true) by decide)] at H; exact H
       clear H
       have H := H1
       clear H1
       replace H := Option.bind_eq_some_iff.mp H
       obtain ⟨⟨t107, t108⟩, A280, H⟩ := H
       replace H : ((outlook_when.f a1_0 a1_1 a1_2 a1_3 t107 t108).bind fun bt109 => (some (bt109.1, bt109.2))) = some (r1, r2) := H
       have A28 := zq3 A280
       clear A280
       replace H := Option.bind_eq_some_iff.mp H
       obtain ⟨⟨t109, t110⟩, A290, H⟩ := H
       replace H : (some (t109, t110)) = some (r1, r2) := H
       have A29 := zq3 A290
       clear A290
       simp only [Option.some.injEq, Prod.mk.injEq] at H
       obtain ⟨rfl, rfl⟩ := H
       try go_wp2
       replace BK101 := zq3 (zq2 BK101.out); replace BK102 := zq3 (zq2 BK102.out); replace HB := zq3 (zq8 HB.out)
       refine start_ (n := 11) (S := fun w' => w'.cell? ⟨gb102, 0, none⟩ = some (.int .u64 a1_0) ∧ w'.cell? ⟨gb102, 1, none⟩ = some (.int .u64 a1_1) ∧ w'.cell? ⟨gb102, 2, none⟩ = some (.int .u64 a1_2) ∧ w'.cell? ⟨gb102, 3, none⟩ = some (.bool a1_3) ∧ w'.cell? ⟨gb101, 0, none⟩ = some (.int .i64 a0_0) ∧ w'.cell? ⟨gb101, 1, none⟩ = some (.bool a0_1) ∧ w'.cell? ⟨gb101, 2, none⟩ = some (.int .u64 a0_2) ∧ w'.cell? ⟨gb101, 3, none⟩ = some (.int .u64 a0_3) ∧ w'.cell? ⟨gb101, 4, none⟩ = some (.int .u64 a0_4) ∧ w'.cell? ⟨gb101, 5, none⟩ = some (.int .u64 a0_5)) (ds := []) #[false, false, false, false, false, false, false, false, false, false, false] (by kernel_rfl) rfl rfl ⟨(zq5 BK102.out 0).trans rfl, (zq5 BK102.out 1).trans rfl, (zq5 BK102.out 2).trans rfl, (zq5 BK102.out 3).trans rfl, (zq5 BK101.out 0).trans rfl, (zq5 BK101.out 1).trans rfl, (zq5 BK101.out 2).trans rfl, (zq5 BK101.out 3).trans rfl, (zq5 BK101.out 4).trans rfl, (zq5 BK101.out 5).trans rfl⟩ (fun hHeld => ?_); refine with_tabW outlook_When.tab6 outlook_When.bits6 (fun HT_ HW_ => ?_)
       generalize wc.drew = w30 at BK101 BK102 HB hHeld ⊢
       refine pure_ (i := 3) (N := some 38) (v := ?_) (a' := ?_) #[false, false, false, true, false, false, false, false, false, false, false] rfl rfl (any_of HT_.out (by kernel_rfl)) (fun _ _ _ h => h) (Or.inl ⟨by rfl, ?_⟩) ?_ ?_
       rotate_left
       ·
        intro w'
        go_simp
        with_reducible rfl
       rotate_left
       ·
        simp only [Act.put, List.setIfInBounds_toArray, List.set_cons_zero, List.set_cons_succ, i64_w, i32_w]
        rfl
       refine pure_ (i := 4) (N := some 39) (v := ?_) (a' := ?_) #[false, false, false, true, true, false, false, false, false, false, false] rfl rfl (any_of HT_.out (by kernel_rfl)) (fun _ _ _ h => h) (Or.inl ⟨by rfl, ?_⟩) ?_ ?_
       rotate_left
       ·
        intro w'
        go_simp
        with_reducible rfl
       rotate_left
       ·
        simp only [Act.put, List.setIfInBounds_toArray, List.set_cons_zero, List.set_cons_succ, i64_w, i32_w]
        rfl
       refine take_ (i := 0) (N := some 35) (v := ?_) (a' := ?_) #[true, false, false, true, true, false, false, false, false, false, false] rfl rfl (take_ofW HT_.out HW_.out (by kernel_rfl)) (fun _ _ _ h => h) (Or.inl ⟨by rfl, ?_⟩) hHeld ?_ ?_
       rotate_left
       ·
        rintro w' ⟨s0, s1, s2, s3, s4, s5, s6, s7, s8, s9⟩
        go_simp
        with_reducible rfl
       rotate_left
       ·
        simp only [Act.put, List.setIfInBounds_toArray, List.set_cons_zero, List.set_cons_succ, i64_w, i32_w]
        rfl
       refine take_ (i := 1) (N := some 36) (v := ?_) (a' := ?_) #[true, true, false, true, true, false, false, false, false, false, false] rfl rfl (take_ofW HT_.out HW_.out (by kernel_rfl)) (fun _ _ _ h => h) (Or.inl ⟨by rfl, ?_⟩) hHeld ?_ ?_
       rotate_left
       ·
        rintro w' ⟨s0, s1, s2, s3, s4, s5, s6, s7, s8, s9⟩
        go_simp
        with_reducible rfl
       rotate_left
       ·
        simp only [Act.put, List.setIfInBounds_toArray, List.set_cons_zero, List.set_cons_succ, i64_w, i32_w]
        rfl
       refine take_ (i := 2) (N := some 37) (v := ?_) (a' := ?_) #[true, true, true, true, true, false, false, false, false, false, false] rfl rfl (take_ofW HT_.out HW_.out (by kernel_rfl)) (fun _ _ _ h => h) (Or.inl ⟨by rfl, ?_⟩) hHeld ?_ ?_
       rotate_left
       ·
        rintro w' ⟨s0, s1, s2, s3, s4, s5, s6, s7, s8, s9⟩
        go_simp
        with_reducible rfl
       rotate_left
       ·
        simp only [Act.put, List.setIfInBounds_toArray, List.set_cons_zero, List.set_cons_succ, i64_w, i32_w]
        rfl
       refine one_ (i := 5) (N := some 40) #[true, true, true, true, true, true, false, false, false, false, false] rfl rfl (one_of HT_.out (by kernel_rfl)) (by decide) (fun K hK => ?_)
       refine goes_ Try.func56 (by kernel_rfl) rfl #[.agg #[.int .i64 a0_0, .bool a0_1, .int .u64 a0_2, .int .u64 a0_3, .int .u64 a0_4, .int .u64 a0_5], .agg #[.int .u64 a1_0, .int .u64 a1_1, .int .u64 a1_2, .bool a1_3], .int .u64 t105, .int .i64 a3] (by rfl) rfl rfl (by (try simp only [List.map_toArray, List.map_cons, List.map_nil]); first | done | rfl | (simp only [List.length_drop, List.length_take]; rfl)) ?_
       with_reducible refine (outlook_wait.calls kj23 a0_0 a0_1 a0_2 a0_3 a0_4 a0_5 a1_0 a1_1 a1_2 a1_3 t105 a3 t107 t108 _ A28.out).mono ?_
       rintro e w31 ⟨rfl, hb⟩
       refine ⟨_, rfl, ?_⟩
       replace BK101 := zs BK101 hb; replace BK102 := zs BK102 hb; replace HB := zt HB hb
       (try clear hb)
       (try clear hb2)
       (try clear hk)
       (try clear hi)
       refine hK.out _ _ ⟨(zq5 BK102.out 0).trans rfl, (zq5 BK102.out 1).trans rfl, (zq5 BK102.out 2).trans rfl, (zq5 BK102.out 3).trans rfl, (zq5 BK101.out 0).trans rfl, (zq5 BK101.out 1).trans rfl, (zq5 BK101.out 2).trans rfl, (zq5 BK101.out 3).trans rfl, (zq5 BK101.out 4).trans rfl, (zq5 BK101.out 5).trans rfl⟩ (fun hHeld => ?_)
       clear hK K
       refine norm_ (a' := ?_) ?_ ?_
       rotate_left
       ·
        show Act.put _ (some 40) _ = _
        simp only [Act.put, List.setIfInBounds_toArray, List.set_cons_zero, List.set_cons_succ, i64_w, i32_w]
        rfl
       refine one_ (i := 6) (N := some 41) #[true, true, true, true, true, true, true, false, false, false, false] rfl rfl (one_of HT_.out (by kernel_rfl)) (by decide) (fun K hK => ?_)
       refine goes_ Try.func55 (by kernel_rfl) rfl #[.agg #[.int .u64 a1_0, .int .u64 a1_1, .int .u64 a1_2, .bool a1_3], .agg #[.int .u64 t107, .bool t108]] (by rfl) rfl rfl (by (try simp only [List.map_toArray, List.map_cons, List.map_nil]); first | done | rfl | (simp only [List.length_drop, List.length_take]; rfl)) ?_
       with_reducible refine (outlook_when.calls a1_0 a1_1 a1_2 a1_3 t107 t108 t109 t110 _ A29.out).mono ?_
       rintro e w32 ⟨rfl, hb⟩
       refine ⟨_, rfl, ?_⟩
       replace BK101 := zs BK101 hb; replace BK102 := zs BK102 hb; replace HB := zt HB hb
       (try clear hb)
       (try clear hb2)
       (try clear hk)
       (try clear hi)
       refine hK.out _ _ ⟨(zq5 BK102.out 0).trans rfl, (zq5 BK102.out 1).trans rfl, (zq5 BK102.out 2).trans rfl, (zq5 BK102.out 3).trans rfl, (zq5 BK101.out 0).trans rfl, (zq5 BK101.out 1).trans rfl, (zq5 BK101.out 2).trans rfl, (zq5 BK101.out 3).trans rfl, (zq5 BK101.out 4).trans rfl, (zq5 BK101.out 5).trans rfl⟩ (fun hHeld => ?_)
       clear hK K
       refine norm_ (a' := ?_) ?_ ?_
       rotate_left
       ·
        show Act.put _ (some 41) _ = _
        simp only [Act.put, List.setIfInBounds_toArray, List.set_cons_zero, List.set_cons_succ, i64_w, i32_w]
        rfl
       refine pure_ (i := 7) (N := some 42) (v := ?_) (a' := ?_) #[true, true, true, true, true, true, true, true, false, false, false] rfl rfl (any_of HT_.out (by kernel_rfl)) (fun _ _ _ h => h) (Or.inl ⟨by rfl, ?_⟩) ?_ ?_
       rotate_left
       ·
        intro w'
        go_simp
        with_reducible rfl
       rotate_left
       ·
        simp only [Act.put, List.setIfInBounds_toArray, List.set_cons_zero, List.set_cons_succ, i64_w, i32_w]
        rfl
       refine pure_ (i := 8) (N := some 43) (v := ?_) (a' := ?_) #[true, true, true, true, true, true, true, true, true, false, false] rfl rfl (any_of HT_.out (by kernel_rfl)) (fun _ _ _ h => h) (Or.inl ⟨by rfl, ?_⟩) ?_ ?_
       rotate_left
       ·
        intro w'
        go_simp
        with_reducible rfl
       rotate_left
       ·
        simp only [Act.put, List.setIfInBounds_toArray, List.set_cons_zero, List.set_cons_succ, i64_w, i32_w]
        rfl
       refine pure_ (i := 9) (N := some 8) (v := ?_) (a' := ?_) #[true, true, true, true, true, true, true, true, true, true, false] rfl rfl (any_of HT_.out (by kernel_rfl)) (fun _ _ _ h => h) (Or.inl ⟨by rfl, ?_⟩) ?_ ?_
       rotate_left
       ·
        intro w'
        go_simp
        with_reducible rfl
       rotate_left
       ·
        simp only [Act.put, List.setIfInBounds_toArray, List.set_cons_zero, List.set_cons_succ, i64_w, i32_w]
        rfl
       refine pure_ (i := 10) (N := some 9) (v := ?_) (a' := ?_) #[true, true, true, true, true, true, true, true, true, true, true] rfl rfl (any_of HT_.out (by kernel_rfl)) (fun _ _ _ h => h) (Or.inl ⟨by rfl, ?_⟩) ?_ ?_
       rotate_left
       ·
        intro w'
        go_simp
        with_reducible rfl
       rotate_left
       ·
        simp only [Act.put, List.setIfInBounds_toArray, List.set_cons_zero, List.set_cons_succ, i64_w, i32_w]
        rfl
       refine done_ (done_of HT_.out (by kernel_rfl)) ?_
       try go_wp2
       go_ret2
       exact ⟨by first | rfl | (simp [errW_none, errW_some] <;> rfl) | (simp [*, errW_none, errW_some] <;> rfl), zh HB⟩

end Go.Proofs.Ytiaoaoebghnpkaa.P
end
section
namespace Go.Proofs.Ytiaoaoebghnpkaa.P
open Go.RowKit Go.Proofs.YtiaoaoebghnpkaaW.PrintWords Go.Proofs.YtiaoaoebghnpkaaW.PrintLast Go.Proofs.YtiaoaoebghnpkaaW.PrintMore
attribute [local go_sem] max2_int min2_int max_two min_two max_three min_three max_four min_four   -- for this text's walks alone
set_option linter.unusedVariables false
set_option linter.unusedSimpArgs false

/-! ### outlook_Idle: function 28 -/
def outlook_Idle.f (a0_0 : Int) (a0_1 : Bool) (a0_2 : Int) (a0_3 : Int) (a0_4 : Int) (a0_5 : Int) (a1_0 : Int) (a1_1 : Int) (a1_2 : Int) (a1_3 : Bool) : Option (Int × Bool) := (meter_Check.f a0_0 a0_1 a0_2 a0_3 a0_4 a0_5).bind fun t103 => (if t103 = 0 then ((outlook_rims.f a0_0 a0_1 a0_2 a0_3 a0_4 a0_5).bind fun bt104 => ((outlook_buckets.f a0_0 a0_1 a0_2 a0_3 a0_4 a0_5 a1_0 a1_1 a1_2 a1_3 bt104.1 bt104.2).bind fun bt106 => ((outlook_span_later.f bt106.1 bt106.2.1 bt106.2.2.1 bt106.2.2.2).bind fun bt111 => ((outlook_when.f a1_0 a1_1 a1_2 a1_3 bt111.1 bt111.2).bind fun bt113 => (some (bt113.1, bt113.2)))))) else (some (0, false)))
def outlook_Idle.T5 : Bool × List (List Nat × List Nat) := (true, [([], []), ([], []), ([1], [1]), ([], []), ([3], [3]), ([2, 4], [2, 4]), ([0, 5, 5], [0, 5]), ([6], [6]), ([6], [6]), ([7, 6, 0, 1, 2, 3, 4, 5, 6, 7, 8], [7]), ([8, 9, 0, 1, 2, 3, 4, 5, 6, 7, 8, 9], [8])])
def outlook_Idle.B5 : List Nat := [0, 0, 2, 0, 8, 30, 63, 127, 127, 511, 1023]
theorem outlook_Idle.tab5 : rtab .any (opsOf Try.f28 5) = outlook_Idle.T5 := by kernel_rfl
theorem outlook_Idle.bits5 : waitsOk outlook_Idle.T5.2 outlook_Idle.B5 = true := by kernel_rfl
set_option maxHeartbeats 8000000 in
set_option maxRecDepth 100000 in
theorem outlook_Idle.calls (a0_0 : Int) (a0_1 : Bool) (a0_2 : Int) (a0_3 : Int) (a0_4 : Int) (a0_5 : Int) (a1_0 : Int) (a1_1 : Int) (a1_2 : Int) (a1_3 : Bool) (r1 : Int) (r2 : Bool) (w : World) (h : outlook_Idle.f a0_0 a0_1 a0_2 a0_3 a0_4 a0_5 a1_0 a1_1 a1_2 a1_3 = some (r1, r2)) :
  Calls Try.prog 28 #[.agg #[.int .i64 a0_0, .bool a0_1, .int .u64 a0_2, .int .u64 a0_3, .int .u64 a0_4, .int .u64 a0_5], .agg #[.int .u64 a1_0, .int .u64 a1_1, .int .u64 a1_2, .bool a1_3]] w fun e w' => e = .returned (.tuple #[.int .u64 r1, .bool r2]) ∧ Below w.heap.size w w' := by
 have hu49 := Try.underlying49
 have hu51 := Try.underlying51
 have hu39 := Try.underlying39
 have hu99 := Try.underlying99
 have hu92 := Try.underlying92
 have HB := zq3 (Below.refl w.heap.size w)
 have H : ((meter_Check.f a0_0 a0_1 a0_2 a0_3 a0_4 a0_5).bind fun t103 => (if t103 = 0 then ((outlook_rims.f a0_0 a0_1 a0_2 a0_3 a0_4 a0_5).bind fun bt104 => ((outlook_buckets.f a0_0 a0_1 a0_2 a0_3 a0_4 a0_5 a1_0 a1_1 a1_2 a1_3 bt104.1 bt104.2).bind fun bt106 => ((outlook_span_later.f bt106.1 bt106.2.1 bt106.2.2.1 bt106.2.2.2).bind fun bt111 => ((outlook_when.f a1_0 a1_1 a1_2 a1_3 bt111.1 bt111.2).bind fun bt113 => (some (bt113.1, bt113.2)))))) else (some (0, false)))) = some (r1, r2) := h
 clear h
 replace H := Option.bind_eq_some_iff.mp H
 obtain ⟨t103, A30, H⟩ := H
 replace H : (if t103 = 0 then ((outlook_rims.f a0_0 a0_1 a0_2 a0_3 a0_4 a0_5).bind fun bt104 => ((outlook_buckets.f a0_0 a0_1 a0_2 a0_3 a0_4 a0_5 a1_0 a1_1 a1_2 a1_3 bt104.1 bt104.2).bind fun bt106 => ((outlook_span_later.f bt106.1 bt106.2.1 bt106.2.2.1 bt106.2.2.2).bind fun bt111 => ((outlook_when.f a1_0 a1_1 a1_2 a1_3 bt111.1 bt111.2).bind fun bt113 => (some (bt113.1, bt113.2)))))) else (some (0, false))) = some (r1, r2) := H
 have A3 := zq3 A30
 clear A30
 by_cases c4 : t103 = 0
 ·
  rw [if_pos c4] at H
  have c4b0 : (t103 == 0) = true := beq_iff_eq.mpr c4
  have c4b1 : (t103 != 0) = false := bne_eq_false_iff_eq.mpr c4
  clear c4
  replace H := Option.bind_eq_some_iff.mp H
  obtain ⟨⟨t104, t105⟩, A50, H⟩ := H
  replace H : ((outlook_buckets.f a0_0 a0_1 a0_2 a0_3 a0_4 a0_5 a1_0 a1_1 a1_2 a1_3 t104 t105).bind fun bt106 => ((outlook_span_later.f bt106.1 bt106.2.1 bt106.2.2.1 bt106.2.2.2).bind fun bt111 => ((outlook_when.f a1_0 a1_1 a1_2 a1_3 bt111.1 bt111.2).bind fun bt113 => (some (bt113.1, bt113.2))))) = some (r1, r2) := H
  have A5 := zq3 A50
  clear A50
  replace H := Option.bind_eq_some_iff.mp H
  obtain ⟨⟨t106, t107, t108, t109⟩, A60, H⟩ := H
  replace H : ((outlook_span_later.f t106 t107 t108 t109).bind fun bt111 => ((outlook_when.f a1_0 a1_1 a1_2 a1_3 bt111.1 bt111.2).bind fun bt113 => (some (bt113.1, bt113.2)))) = some (r1, r2) := H
  have A6 := zq3 A60
  clear A60
  replace H := Option.bind_eq_some_iff.mp H
  obtain ⟨⟨t111, t112⟩, A70, H⟩ := H
  replace H : ((outlook_when.f a1_0 a1_1 a1_2 a1_3 t111 t112).bind fun bt113 => (some (bt113.1, bt113.2))) = some (r1, r2) := H
  have A7 := zq3 A70
  clear A70
  replace H := Option.bind_eq_some_iff.mp H
  obtain ⟨⟨t113, t114⟩, A80, H⟩ := H
  replace H : (some (t113, t114)) = some (r1, r2) := H
  have A8 := zq3 A80
  clear A80
  simp only [Option.some.injEq, Prod.mk.injEq] at H
  obtain ⟨rfl, rfl⟩ := H
  go_enter Try.func28, Try.ntmps28
  try go_wp2_with (first | ((with_reducible refine zd 2 rfl ?_); refine zb 2 #[.int .i64 a0_0, .bool a0_1, .int .u64 a0_2, .int .u64 a0_3, .int .u64 a0_4, .int .u64 a0_5] 49 ?_; intro gb101 hg w9 hbox hb; have BK101 := zq3 (hbox); have GW101 := ze hg HB; have GE101 := GW101; replace HB := zt HB hb; clear hb hbox hg) | ((with_reducible refine zd 3 rfl ?_); refine zb 3 #[.int .u64 a1_0, .int .u64 a1_1, .int .u64 a1_2, .bool a1_3] 51 ?_; intro gb102 hg w10 hbox hb; have BK102 := zq3 (hbox); have GW102 := ze hg HB; have GE102 := GW102; have NB101_102 := zl hg BK101; have NB102_101 := zg hg BK101; replace BK101 := zs BK101 hb; replace HB := zt HB hb; clear hb hbox hg; have hnb11 := NB101_102.out; have hnc11 := NB102_101.out; obtain ⟨hc12_0, hc12_1, hc12_2, hc12_3, hc12_4, hc12_5⟩ := zc6 BK101; obtain ⟨hf12_0, hf12_1, hf12_2, hf12_3, hf12_4, hf12_5⟩ := zf6 BK101) | ((with_reducible refine gate_callee (f := 34) rfl ?_); refine zgo (some 10) Try.func34 #[.agg #[.int .i64 a0_0, .bool a0_1, .int .u64 a0_2, .int .u64 a0_3, .int .u64 a0_4, .int .u64 a0_5]] ?_; (with_reducible refine (meter_Check.calls a0_0 a0_1 a0_2 a0_3 a0_4 a0_5 t103 _ A3.out).mono ?_); rintro e w13 ⟨rfl, hb⟩; refine ⟨_, rfl, ?_⟩; replace BK101 := zs BK101 hb; replace BK102 := zs BK102 hb; replace HB := zt HB hb; (try clear hb); obtain ⟨hc14_0, hc14_1, hc14_2, hc14_3, hc14_4, hc14_5⟩ := zc6 BK101; obtain ⟨hf14_0, hf14_1, hf14_2, hf14_3, hf14_4, hf14_5⟩ := zf6 BK101) | ((with_reducible refine gate_callee (f := 59) rfl ?_); refine zgo (some 14) Try.func59 #[.agg #[.int .i64 a0_0, .bool a0_1, .int .u64 a0_2, .int .u64 a0_3, .int .u64 a0_4, .int .u64 a0_5]] ?_; (with_reducible refine (outlook_rims.calls a0_0 a0_1 a0_2 a0_3 a0_4 a0_5 t104 t105 _ A5.out).mono ?_); rintro e w15 ⟨rfl, hb⟩; refine ⟨_, rfl, ?_⟩; replace BK101 := zs BK101 hb; replace BK102 := zs BK102 hb; replace HB := zt HB hb; (try clear hb); obtain ⟨hc16_0, hc16_1, hc16_2, hc16_3, hc16_4, hc16_5⟩ := zc6 BK101; obtain ⟨hf16_0, hf16_1, hf16_2, hf16_3, hf16_4, hf16_5⟩ := zf6 BK101; obtain ⟨hc17_0, hc17_1, hc17_2, hc17_3⟩ := zc4 BK102; obtain ⟨hf17_0, hf17_1, hf17_2, hf17_3⟩ := zf4 BK102) | ((with_reducible refine gate_callee (f := 60) rfl ?_); refine zgo (some 22) Try.func60 #[.agg #[.int .i64 a0_0, .bool a0_1, .int .u64 a0_2, .int .u64 a0_3, .int .u64 a0_4, .int .u64 a0_5], .agg #[.int .u64 a1_0, .int .u64 a1_1, .int .u64 a1_2, .bool a1_3], .agg #[.int .u64 t104, .int .u64 t105]] ?_; (with_reducible refine (outlook_buckets.calls a0_0 a0_1 a0_2 a0_3 a0_4 a0_5 a1_0 a1_1 a1_2 a1_3 t104 t105 t106 t107 t108 t109 _ A6.out).mono ?_); rintro e w18 ⟨rfl, hb⟩; refine ⟨_, rfl, ?_⟩; replace BK101 := zs BK101 hb; replace BK102 := zs BK102 hb; replace HB := zt HB hb; (try clear hb)) | ((with_reducible refine zd 8 rfl ?_); refine zb 8 #[.int .u64 0, .bool false, .int .u64 0, .bool false] 99 ?_; intro gb110 hg w19 hbox hb; have BK110 := zq3 (hbox); have GW110 := ze hg HB; have GE110 := GW110; have NB101_110 := zl hg BK101; have NB110_101 := zg hg BK101; have NB102_110 := zl hg BK102; have NB110_102 := zg hg BK102; replace BK101 := zs BK101 hb; replace BK102 := zs BK102 hb; replace HB := zt HB hb; clear hb hbox hg; have hnb20 := NB110_101.out; have hnc20 := NB101_110.out; have hnb21 := NB110_102.out; have hnc21 := NB102_110.out; obtain ⟨hc22_0, hc22_1, hc22_2, hc22_3⟩ := zc4 BK110; obtain ⟨hf22_0, hf22_1, hf22_2, hf22_3⟩ := zf4 BK110))
  have n0_ : Aside0 (((((w19.setCell ⟨gb110, 0, none⟩ (.int .u64 t106)).setCell ⟨gb110, 1, none⟩ (.bool t107)).setCell ⟨gb110, 2, none⟩ (.int .u64 t108)).setCell ⟨gb110, 3, none⟩ (.bool t109)).heap[gb101]? = some (.cells #[.int .i64 a0_0, .bool a0_1, .int .u64 a0_2, .int .u64 a0_3, .int .u64 a0_4, .int .u64 a0_5] 49 (0, 0))) := ⟨zw BK101⟩
  have n1_ : Aside0 (((((w19.setCell ⟨gb110, 0, none⟩ (.int .u64 t106)).setCell ⟨gb110, 1, none⟩ (.bool t107)).setCell ⟨gb110, 2, none⟩ (.int .u64 t108)).setCell ⟨gb110, 3, none⟩ (.bool t109)).heap[gb102]? = some (.cells #[.int .u64 a1_0, .int .u64 a1_1, .int .u64 a1_2, .bool a1_3] 51 (0, 0))) := ⟨zw BK102⟩
  have n2_ : Aside0 (((((w19.setCell ⟨gb110, 0, none⟩ (.int .u64 t106)).setCell ⟨gb110, 1, none⟩ (.bool t107)).setCell ⟨gb110, 2, none⟩ (.int .u64 t108)).setCell ⟨gb110, 3, none⟩ (.bool t109)).heap[gb110]? = some (.cells #[.int .u64 t106, .bool t107, .int .u64 t108, .bool t109] 99 (0, 0))) := ⟨zw4 BK110⟩
  have n3_ : Aside0 (Below w.heap.size w ((((w19.setCell ⟨gb110, 0, none⟩ (.int .u64 t106)).setCell ⟨gb110, 1, none⟩ (.bool t107)).setCell ⟨gb110, 2, none⟩ (.int .u64 t108)).setCell ⟨gb110, 3, none⟩ (.bool t109))) := ⟨zh HB⟩
  (try clear BK101)
  (try clear BK102)
  (try clear BK110)
  (try clear HB)
  generalize ((((w19.setCell ⟨gb110, 0, none⟩ (.int .u64 t106)).setCell ⟨gb110, 1, none⟩ (.bool t107)).setCell ⟨gb110, 2, none⟩ (.int .u64 t108)).setCell ⟨gb110, 3, none⟩ (.bool t109)) = w23 at n0_ n1_ n2_ n3_ ⊢
  have BK101 := n0_
  have BK102 := n1_
  have BK110 := n2_
  have HB := n3_
  clear n0_ n1_ n2_ n3_
  replace BK101 := zq3 (zq2 BK101.out); replace BK102 := zq3 (zq2 BK102.out); replace BK110 := zq3 (zq2 BK110.out); replace HB := zq3 (zq8 HB.out)
  refine start_ (n := 11) (S := fun w' => w'.cell? ⟨gb102, 0, none⟩ = some (.int .u64 a1_0) ∧ w'.cell? ⟨gb102, 1, none⟩ = some (.int .u64 a1_1) ∧ w'.cell? ⟨gb102, 2, none⟩ = some (.int .u64 a1_2) ∧ w'.cell? ⟨gb102, 3, none⟩ = some (.bool a1_3) ∧ w'.cell? ⟨gb110, 0, none⟩ = some (.int .u64 t106) ∧ w'.cell? ⟨gb110, 1, none⟩ = some (.bool t107) ∧ w'.cell? ⟨gb110, 2, none⟩ = some (.int .u64 t108) ∧ w'.cell? ⟨gb110, 3, none⟩ = some (.bool t109)) (ds := []) #[false, false, false, false, false, false, false, false, false, false, false] (by kernel_rfl) rfl rfl ⟨(zq5 BK102.out 0).trans rfl, (zq5 BK102.out 1).trans rfl, (zq5 BK102.out 2).trans rfl, (zq5 BK102.out 3).trans rfl, (zq5 BK110.out 0).trans rfl, (zq5 BK110.out 1).trans rfl, (zq5 BK110.out 2).trans rfl, (zq5 BK110.out 3).trans rfl⟩ (fun hHeld => ?_); refine with_tabW outlook_Idle.tab5 outlook_Idle.bits5 (fun HT_ HW_ => ?_)
  generalize w23.drew = w24 at BK101 BK102 BK110 HB hHeld ⊢
  refine pure_ (i := 1) (N := some 24) (v := ?_) (a' := ?_) #[false, true, false, false, false, false, false, false, false, false, false] rfl rfl (any_of HT_.out (by kernel_rfl)) (fun _ _ _ h => h) (Or.inl ⟨by rfl, ?_⟩) ?_ ?_
  rotate_left
  ·
   intro w'
   go_simp
   with_reducible rfl
  rotate_left
  ·
   simp only [Act.put, List.setIfInBounds_toArray, List.set_cons_zero, List.set_cons_succ, i64_w, i32_w]
   rfl
  refine pure_ (i := 3) (N := some 26) (v := ?_) (a' := ?_) #[false, true, false, true, false, false, false, false, false, false, false] rfl rfl (any_of HT_.out (by kernel_rfl)) (fun _ _ _ h => h) (Or.inl ⟨by rfl, ?_⟩) ?_ ?_
  rotate_left
  ·
   intro w'
   go_simp
   with_reducible rfl
  rotate_left
  ·
   simp only [Act.put, List.setIfInBounds_toArray, List.set_cons_zero, List.set_cons_succ, i64_w, i32_w]
   rfl
  refine take_ (i := 0) (N := some 23) (v := ?_) (a' := ?_) #[true, true, false, true, false, false, false, false, false, false, false] rfl rfl (take_ofW HT_.out HW_.out (by kernel_rfl)) (fun _ _ _ h => h) (Or.inl ⟨by rfl, ?_⟩) hHeld ?_ ?_
  rotate_left
  ·
   rintro w' ⟨s0, s1, s2, s3, s4, s5, s6, s7⟩
   go_simp
   with_reducible rfl
  rotate_left
  ·
   simp only [Act.put, List.setIfInBounds_toArray, List.set_cons_zero, List.set_cons_succ, i64_w, i32_w]
   rfl
  refine take_ (i := 2) (N := some 25) (v := ?_) (a' := ?_) #[true, true, true, true, false, false, false, false, false, false, false] rfl rfl (take_ofW HT_.out HW_.out (by kernel_rfl)) (fun _ _ _ h => h) (Or.inl ⟨by rfl, ?_⟩) hHeld ?_ ?_
  rotate_left
  ·
   rintro w' ⟨s0, s1, s2, s3, s4, s5, s6, s7⟩
   go_simp
   with_reducible rfl
  rotate_left
  ·
   simp only [Act.put, List.setIfInBounds_toArray, List.set_cons_zero, List.set_cons_succ, i64_w, i32_w]
   rfl
  refine take_ (i := 4) (N := some 27) (v := ?_) (a' := ?_) #[true, true, true, true, true, false, false, false, false, false, false] rfl rfl (take_ofW HT_.out HW_.out (by kernel_rfl)) (fun _ _ _ h => h) (Or.inl ⟨by rfl, ?_⟩) hHeld ?_ ?_
  rotate_left
  ·
   rintro w' ⟨s0, s1, s2, s3, s4, s5, s6, s7⟩
   go_simp
   with_reducible rfl
  rotate_left
  ·
   simp only [Act.put, List.setIfInBounds_toArray, List.set_cons_zero, List.set_cons_succ, i64_w, i32_w]
   rfl
  refine one_ (i := 5) (N := some 28) #[true, true, true, true, true, true, false, false, false, false, false] rfl rfl (one_of HT_.out (by kernel_rfl)) (by decide) (fun K hK => ?_)
  refine goes_ Try.func61 (by kernel_rfl) rfl #[.agg #[.int .u64 t106, .bool t107], .agg #[.int .u64 t108, .bool t109]] (by rfl) rfl rfl (by (try simp only [List.map_toArray, List.map_cons, List.map_nil]); first | done | rfl | (simp only [List.length_drop, List.length_take]; rfl)) ?_
  with_reducible refine (outlook_span_later.calls t106 t107 t108 t109 t111 t112 _ A7.out).mono ?_
  rintro e w25 ⟨rfl, hb⟩
  refine ⟨_, rfl, ?_⟩
  replace BK101 := zs BK101 hb; replace BK102 := zs BK102 hb; replace BK110 := zs BK110 hb; replace HB := zt HB hb
  (try clear hb)
  (try clear hb2)
  (try clear hk)
  (try clear hi)
  refine hK.out _ _ ⟨(zq5 BK102.out 0).trans rfl, (zq5 BK102.out 1).trans rfl, (zq5 BK102.out 2).trans rfl, (zq5 BK102.out 3).trans rfl, (zq5 BK110.out 0).trans rfl, (zq5 BK110.out 1).trans rfl, (zq5 BK110.out 2).trans rfl, (zq5 BK110.out 3).trans rfl⟩ (fun hHeld => ?_)
  clear hK K
  refine norm_ (a' := ?_) ?_ ?_
  rotate_left
  ·
   show Act.put _ (some 28) _ = _
   simp only [Act.put, List.setIfInBounds_toArray, List.set_cons_zero, List.set_cons_succ, i64_w, i32_w]
   rfl
  refine one_ (i := 6) (N := some 29) #[true, true, true, true, true, true, true, false, false, false, false] rfl rfl (one_of HT_.out (by kernel_rfl)) (by decide) (fun K hK => ?_)
  refine goes_ Try.func55 (by kernel_rfl) rfl #[.agg #[.int .u64 a1_0, .int .u64 a1_1, .int .u64 a1_2, .bool a1_3], .agg #[.int .u64 t111, .bool t112]] (by rfl) rfl rfl (by (try simp only [List.map_toArray, List.map_cons, List.map_nil]); first | done | rfl | (simp only [List.length_drop, List.length_take]; rfl)) ?_
  with_reducible refine (outlook_when.calls a1_0 a1_1 a1_2 a1_3 t111 t112 t113 t114 _ A8.out).mono ?_
  rintro e w26 ⟨rfl, hb⟩
  refine ⟨_, rfl, ?_⟩
  replace BK101 := zs BK101 hb; replace BK102 := zs BK102 hb; replace BK110 := zs BK110 hb; replace HB := zt HB hb
  (try clear hb)
  (try clear hb2)
  (try clear hk)
  (try clear hi)
  refine hK.out _ _ ⟨(zq5 BK102.out 0).trans rfl, (zq5 BK102.out 1).trans rfl, (zq5 BK102.out 2).trans rfl, (zq5 BK102.out 3).trans rfl, (zq5 BK110.out 0).trans rfl, (zq5 BK110.out 1).trans rfl, (zq5 BK110.out 2).trans rfl, (zq5 BK110.out 3).trans rfl⟩ (fun hHeld => ?_)
  clear hK K
  refine norm_ (a' := ?_) ?_ ?_
  rotate_left
  ·
   show Act.put _ (some 29) _ = _
   simp only [Act.put, List.setIfInBounds_toArray, List.set_cons_zero, List.set_cons_succ, i64_w, i32_w]
   rfl
  refine pure_ (i := 7) (N := some 30) (v := ?_) (a' := ?_) #[true, true, true, true, true, true, true, true, false, false, false] rfl rfl (any_of HT_.out (by kernel_rfl)) (fun _ _ _ h => h) (Or.inl ⟨by rfl, ?_⟩) ?_ ?_
  rotate_left
  ·
   intro w'
   go_simp
   with_reducible rfl
  rotate_left
  ·
   simp only [Act.put, List.setIfInBounds_toArray, List.set_cons_zero, List.set_cons_succ, i64_w, i32_w]
   rfl
  refine pure_ (i := 8) (N := some 31) (v := ?_) (a' := ?_) #[true, true, true, true, true, true, true, true, true, false, false] rfl rfl (any_of HT_.out (by kernel_rfl)) (fun _ _ _ h => h) (Or.inl ⟨by rfl, ?_⟩) ?_ ?_
  rotate_left
  ·
   intro w'
   go_simp
   with_reducible rfl
  rotate_left
  ·
   simp only [Act.put, List.setIfInBounds_toArray, List.set_cons_zero, List.set_cons_succ, i64_w, i32_w]
   rfl
  refine pure_ (i := 9) (N := some 4) (v := ?_) (a' := ?_) #[true, true, true, true, true, true, true, true, true, true, false] rfl rfl (any_of HT_.out (by kernel_rfl)) (fun _ _ _ h => h) (Or.inl ⟨by rfl, ?_⟩) ?_ ?_
  rotate_left
  ·
   intro w'
   go_simp
   with_reducible rfl
  rotate_left
  ·
   simp only [Act.put, List.setIfInBounds_toArray, List.set_cons_zero, List.set_cons_succ, i64_w, i32_w]
   rfl
  refine pure_ (i := 10) (N := some 5) (v := ?_) (a' := ?_) #[true, true, true, true, true, true, true, true, true, true, true] rfl rfl (any_of HT_.out (by kernel_rfl)) (fun _ _ _ h => h) (Or.inl ⟨by rfl, ?_⟩) ?_ ?_
  rotate_left
  ·
   intro w'
   go_simp
   with_reducible rfl
  rotate_left
  ·
   simp only [Act.put, List.setIfInBounds_toArray, List.set_cons_zero, List.set_cons_succ, i64_w, i32_w]
   rfl
  refine done_ (done_of HT_.out (by kernel_rfl)) ?_
  try go_wp2
  go_ret2
  exact ⟨by first | rfl | (simp [errW_none, errW_some] <;> rfl) | (simp [*, errW_none, errW_some] <;> rfl), zh HB⟩
 ·
  rw [if_neg c4] at H
  have c4b0 : (t103 == 0) = false := beq_eq_false_iff_ne.mpr c4
  have c4b1 : (t103 != 0) = true := bne_iff_ne.mpr c4
  simp only [Option.some.injEq, Prod.mk.injEq] at H
  obtain ⟨rfl, rfl⟩ := H
  go_enter Try.func28, Try.ntmps28
  go_wp2_with (first | ((with_reducible refine zd 2 rfl ?_); refine zb 2 #[.int .i64 a0_0, .bool a0_1, .int .u64 a0_2, .int .u64 a0_3, .int .u64 a0_4, .int .u64 a0_5] 49 ?_; intro gb101 hg w27 hbox hb; have BK101 := zq3 (hbox); have GW101 := ze hg HB; have GE101 := GW101; replace HB := zt HB hb; clear hb hbox hg) | ((with_reducible refine zd 3 rfl ?_); refine zb 3 #[.int .u64 a1_0, .int .u64 a1_1, .int .u64 a1_2, .bool a1_3] 51 ?_; intro gb102 hg w28 hbox hb; have BK102 := zq3 (hbox); have GW102 := ze hg HB; have GE102 := GW102; have NB101_102 := zl hg BK101; have NB102_101 := zg hg BK101; replace BK101 := zs BK101 hb; replace HB := zt HB hb; clear hb hbox hg; have hnb29 := NB101_102.out; have hnc29 := NB102_101.out; obtain ⟨hc30_0, hc30_1, hc30_2, hc30_3, hc30_4, hc30_5⟩ := zc6 BK101; obtain ⟨hf30_0, hf30_1, hf30_2, hf30_3, hf30_4, hf30_5⟩ := zf6 BK101) | ((with_reducible refine gate_callee (f := 34) rfl ?_); refine zgo (some 10) Try.func34 #[.agg #[.int .i64 a0_0, .bool a0_1, .int .u64 a0_2, .int .u64 a0_3, .int .u64 a0_4, .int .u64 a0_5]] ?_; (with_reducible refine (meter_Check.calls a0_0 a0_1 a0_2 a0_3 a0_4 a0_5 t103 _ A3.out).mono ?_); rintro e w31 ⟨rfl, hb⟩; refine ⟨_, rfl, ?_⟩; replace BK101 := zs BK101 hb; replace BK102 := zs BK102 hb; replace HB := zt HB hb; (try clear hb)))
  go_ret2
  exact ⟨by first | rfl | (simp [errW_none, errW_some] <;> rfl) | (simp [*, errW_none, errW_some] <;> rfl), zh HB⟩

end Go.Proofs.Ytiaoaoebghnpkaa.P
end
section
namespace Go.Proofs.Ytiaoaoebghnpkaa.P
open Go.RowKit Go.Proofs.YtiaoaoebghnpkaaW.PrintWords Go.Proofs.YtiaoaoebghnpkaaW.PrintLast Go.Proofs.YtiaoaoebghnpkaaW.PrintMore
attribute [local go_sem] max2_int min2_int max_two min_two max_three min_three max_four min_four   -- for this text's walks alone
set_option linter.unusedVariables false
set_option linter.unusedSimpArgs false

/-! ### outlook_Pace: function 31 -/
def outlook_Pace.l0 : Nat → Int → List Int → List Int → Int → Int → Int → Bool → Int → Int → Int → Int → Int → Int → Int → Bool → Option (List Int × Int × Int)
 | 0, _, _, _, _, _, _, _, _, _, _, _, _, _, _, _ => none
 | k + 1, x2, x10, x33, x34, x35, x102000, x102001, x102002, x102003, x102004, x102005, x109000, x109001, x109002, x109003 => if x35 < x34 then (if 0 ≤ x35 then (if x35 < (x33.length : Int) then ((outlook_When.f k x102000 x102001 x102002 x102003 x102004 x102005 x109000 x109001 x109002 x109003 (rd x33 x35) x2).bind fun bt114 => (if bt114.2 = true then ((meter_Step.f x102000 x102001 x102002 x102003 x102004 x102005 x109000 x109001 x109002 x109003 bt114.1 (rd x33 x35) 0).bind fun bt116 => (if x35 < (x10.length : Int) then (outlook_Pace.l0 k x2 (x10.set (x35 : Int).toNat bt114.1) x33 x34 (wrap64 (x35 + 1)) x102000 x102001 x102002 x102003 x102004 x102005 bt116.1 bt116.2.1 bt116.2.2.1 bt116.2.2.2.1) else (none))) else (some (([] : List Int), 8, x35)))) else (none)) else (none)) else (some (x10, 0, 0))
def outlook_Pace.f (k : Nat) (a0_0 : Int) (a0_1 : Bool) (a0_2 : Int) (a0_3 : Int) (a0_4 : Int) (a0_5 : Int) (l1 : List Int) (a2 : Int) : Option (List Int × Int × Int) := (meter_New.f a0_0 a0_1 a0_2 a0_3 a0_4 a0_5).bind fun bt103 => (if bt103.2.2.2.2 = 0 then ((outlook_is.f a2).bind fun t109 => (if t109 = true then (if 0 ≤ (l1.length : Int) then (if ((l1.length : Int) : Int).toNat ≤ 35184372088832 then (outlook_Pace.l0 k a2 (List.replicate ((l1.length : Int) : Int).toNat 0) l1 (l1.length : Int) 0 a0_0 a0_1 a0_2 a0_3 a0_4 a0_5 bt103.1 bt103.2.1 bt103.2.2.1 bt103.2.2.2.1) else (none)) else (none)) else (some (([] : List Int), 13, 0)))) else (some (([] : List Int), bt103.2.2.2.2, 0)))
set_option maxHeartbeats 8000000 in
set_option maxRecDepth 100000 in
theorem outlook_Pace.calls (k : Nat) (a0_0 : Int) (a0_1 : Bool) (a0_2 : Int) (a0_3 : Int) (a0_4 : Int) (a0_5 : Int) (A1 : Option Addr) (c1 : Nat) (l1 : List Int) (a2 : Int) (r1 : List Int) (r2 : Int) (r3 : Int) (w : World) (hr1 : Kd.C (Kd.int .i64) w A1 l1.length l1) (hc1 : l1.length ≤ c1) (h : outlook_Pace.f k a0_0 a0_1 a0_2 a0_3 a0_4 a0_5 l1 a2 = some (r1, r2, r3)) :
  Calls Try.prog 31 #[.agg #[.int .i64 a0_0, .bool a0_1, .int .u64 a0_2, .int .u64 a0_3, .int .u64 a0_4, .int .u64 a0_5], .slice A1 l1.length c1, .int .i64 a2] w fun e w' => ∃ v0_ : Value, e = .returned (.tuple #[v0_, .agg #[.int .i64 r2, .int .i64 r3]]) ∧ Kd.R (Kd.int .u64) 23 w' w.heap.size (fun _ => True) v0_ r1 ∧ Below w.heap.size w w' := by
 have hu49 := Try.underlying49
 have hu26 := Try.underlying26
 have hu51 := Try.underlying51
 have HR1 := zq3 hr1
 have HC1 := zq3 hc1
 clear hr1 hc1
 have HB := zq3 (Below.refl w.heap.size w)
 have H : ((meter_New.f a0_0 a0_1 a0_2 a0_3 a0_4 a0_5).bind fun bt103 => (if bt103.2.2.2.2 = 0 then ((outlook_is.f a2).bind fun t109 => (if t109 = true then (if 0 ≤ (l1.length : Int) then (if ((l1.length : Int) : Int).toNat ≤ 35184372088832 then (outlook_Pace.l0 k a2 (List.replicate ((l1.length : Int) : Int).toNat 0) l1 (l1.length : Int) 0 a0_0 a0_1 a0_2 a0_3 a0_4 a0_5 bt103.1 bt103.2.1 bt103.2.2.1 bt103.2.2.2.1) else (none)) else (none)) else (some (([] : List Int), 13, 0)))) else (some (([] : List Int), bt103.2.2.2.2, 0)))) = some (r1, r2, r3) := h
 clear h
 replace H := Option.bind_eq_some_iff.mp H
 obtain ⟨⟨t103, t104, t105, t106, t107⟩, A40, H⟩ := H
 replace H : (if t107 = 0 then ((outlook_is.f a2).bind fun t109 => (if t109 = true then (if 0 ≤ (l1.length : Int) then (if ((l1.length : Int) : Int).toNat ≤ 35184372088832 then (outlook_Pace.l0 k a2 (List.replicate ((l1.length : Int) : Int).toNat 0) l1 (l1.length : Int) 0 a0_0 a0_1 a0_2 a0_3 a0_4 a0_5 t103 t104 t105 t106) else (none)) else (none)) else (some (([] : List Int), 13, 0)))) else (some (([] : List Int), t107, 0))) = some (r1, r2, r3) := H
 have A4 := zq3 A40
 clear A40
 by_cases c5 : t107 = 0
 ·
  rw [if_pos c5] at H
  have c5b0 : (t107 == 0) = true := beq_iff_eq.mpr c5
  have c5b1 : (t107 != 0) = false := bne_eq_false_iff_eq.mpr c5
  clear c5
  replace H := Option.bind_eq_some_iff.mp H
  obtain ⟨t109, A60, H⟩ := H
  replace H : (if t109 = true then (if 0 ≤ (l1.length : Int) then (if ((l1.length : Int) : Int).toNat ≤ 35184372088832 then (outlook_Pace.l0 k a2 (List.replicate ((l1.length : Int) : Int).toNat 0) l1 (l1.length : Int) 0 a0_0 a0_1 a0_2 a0_3 a0_4 a0_5 t103 t104 t105 t106) else (none)) else (none)) else (some (([] : List Int), 13, 0))) = some (r1, r2, r3) := H
  have A6 := zq3 A60
  clear A60
  by_cases c7 : t109 = true
  ·
   subst c7
   have H1 : (if 0 ≤ (l1.length : Int) then (if ((l1.length : Int) : Int).toNat ≤ 35184372088832 then (outlook_Pace.l0 k a2 (List.replicate ((l1.length : Int) : Int).toNat 0) l1 (l1.length : Int) 0 a0_0 a0_1 a0_2 a0_3 a0_4 a0_5 t103 t104 t105 t106) else (none)) else (none)) = some (r1, r2, r3) := by rw [if_pos rfl] at H; exact H
   clear H
   have H := H1
   clear H1
   by_cases c8 : 0 ≤ (l1.length : Int)
   ·
    rw [if_pos c8] at H
    have c8b0 := eq_true c8
    have c8b1 : decide (0 ≤ (l1.length : Int)) = true := decide_eq_true c8
    clear c8
    by_cases c9 : ((l1.length : Int) : Int).toNat ≤ 35184372088832
    ·
     rw [if_pos c9] at H
     have c9b0 := eq_true c9
     have c9b1 : decide (((l1.length : Int) : Int).toNat ≤ 35184372088832) = true := decide_eq_true c9
     clear c9
     obtain ⟨y110, hy110⟩ : ∃ y_ : List Int, y_ = (List.replicate ((l1.length : Int) : Int).toNat 0) := ⟨_, rfl⟩
     replace H : (outlook_Pace.l0 k a2 y110 l1 (l1.length : Int) 0 a0_0 a0_1 a0_2 a0_3 a0_4 a0_5 t103 t104 t105 t106) = some (r1, r2, r3) := by first | (rw [hy110]; with_reducible exact H) | (have H2_ := (Option.bind_some _ _).symm.trans H; rw [hy110]; with_reducible exact H2_) | (have H2_ := (Option.bind_some _ _).symm.trans H; with_reducible exact H2_) | with_reducible exact H | (rw [hy110]; exact H) | exact H
     have Ny110 := zq3 hy110
     clear hy110
     have H' := zq3 H
     clear H
     go_enter Try.func31, Try.ntmps31
     go_wp2_with (first | ((with_reducible refine zd 3 rfl ?_); refine zb 3 #[.int .i64 a0_0, .bool a0_1, .int .u64 a0_2, .int .u64 a0_3, .int .u64 a0_4, .int .u64 a0_5] 49 ?_; intro gb101 hg w10 hbox hb; have BK101 := zq3 (hbox); have GW101 := ze hg HB; have GE101 := GW101; replace HB := zt HB hb; clear hb hbox hg) | ((with_reducible refine zd 7 rfl ?_); refine zb 7 #[.int .i64 0, .int .i64 0] 26 ?_; intro gb102 hg w11 hbox hb; have BK102 := zq3 (hbox); have GW102 := ze hg HB; have GE102 := GW102; have NB101_102 := zl hg BK101; have NB102_101 := zg hg BK101; replace BK101 := zs BK101 hb; replace HB := zt HB hb; clear hb hbox hg; have hnb12 := NB101_102.out; have hnc12 := NB102_101.out; obtain ⟨hc13_0, hc13_1, hc13_2, hc13_3, hc13_4, hc13_5⟩ := zc6 BK101; obtain ⟨hf13_0, hf13_1, hf13_2, hf13_3, hf13_4, hf13_5⟩ := zf6 BK101) | ((with_reducible refine gate_callee (f := 63) rfl ?_); refine zgo (some 17) Try.func63 #[.agg #[.int .i64 a0_0, .bool a0_1, .int .u64 a0_2, .int .u64 a0_3, .int .u64 a0_4, .int .u64 a0_5]] ?_; (with_reducible refine (meter_New.calls a0_0 a0_1 a0_2 a0_3 a0_4 a0_5 t103 t104 t105 t106 t107 _ A4.out).mono ?_); rintro e w14 ⟨rfl, hb⟩; refine ⟨_, rfl, ?_⟩; replace BK101 := zs BK101 hb; replace BK102 := zs BK102 hb; replace HB := zt HB hb; (try clear hb)) | ((with_reducible refine zd 8 rfl ?_); refine zb 8 #[.int .u64 0, .int .u64 0, .int .u64 0, .bool false] 51 ?_; intro gb108 hg w15 hbox hb; have BK108 := zq3 (hbox); have GW108 := ze hg HB; have GE108 := GW108; have NB101_108 := zl hg BK101; have NB108_101 := zg hg BK101; have NB102_108 := zl hg BK102; have NB108_102 := zg hg BK102; replace BK101 := zs BK101 hb; replace BK102 := zs BK102 hb; replace HB := zt HB hb; clear hb hbox hg; have hnb16 := NB108_101.out; have hnc16 := NB101_108.out; have hnb17 := NB108_102.out; have hnc17 := NB102_108.out; obtain ⟨hc18_0, hc18_1, hc18_2, hc18_3⟩ := zc4 BK108; obtain ⟨hf18_0, hf18_1, hf18_2, hf18_3⟩ := zf4 BK108) | ((with_reducible refine gate_callee (f := 53) rfl ?_); refine zgo (some 27) Try.func53 #[.int .i64 a2] ?_; (with_reducible refine (outlook_is.calls a2 true _ A6.out).mono ?_); rintro e w19 ⟨rfl, hb⟩; refine ⟨_, rfl, ?_⟩; replace BK101 := zsf BK101 hb; replace BK102 := zsf BK102 hb; replace BK108 := zq3 (zq10 (o := .cells #[.int .u64 t103, .int .u64 t104, .int .u64 t105, .bool t106] 51 (0, 0)) (zw4 BK108) hb); replace HB := zt HB hb; (try clear hb)) | ((with_reducible refine gate_dst (N := 32) rfl ?_); refine Kd.R_make (Kd.int .u64) _ 23 rfl (N := 32) rfl 57 _ _ rfl (l1.length : Int) rfl rfl Try.underlying57 (.int .u64 0) 8 info23 rfl (by decide) (by omega) 0 (ok := fun _ => True) (okp := fun _ => True) rfl (fun _ hk => hk) trivial (of_decide_eq_true (by first | (with_reducible assumption) | assumption)) (Nat.le_trans (Nat.mul_le_mul_right _ (of_decide_eq_true (by first | (with_reducible assumption) | assumption) : (l1.length : Int).toNat ≤ 35184372088832)) (by omega)) (Below.refl _ _) (Nat.le_refl _) ?_; intro v111 w20 ho21 hb hg_ hnew_; clear hg_ hnew_; (first | rw [← Ny110.out] at ho21 | (simp only [Int.reduceToNat] at ho21; rw [← Ny110.out] at ho21)); have HO112 := zq3 (Kd.R_lower ho21 (below_size (zh HB))); replace BK101 := zs BK101 hb; replace BK102 := zs BK102 hb; replace BK108 := zs BK108 hb; replace HB := zt HB hb; clear hb ho21))
     go_loopg [35] k (fun kq v35 w' => ∃ (x10_1 : List Int) (x35_1 : Int) (x103000_1 : Int) (x103001_1 : Int) (x109000_1 : Int) (x109001_1 : Int) (x109002_1 : Int) (x109003_1 : Bool), v35 = .int .i64 x35_1 ∧ Aside0 (outlook_Pace.l0 kq a2 x10_1 l1 (l1.length : Int) x35_1 a0_0 a0_1 a0_2 a0_3 a0_4 a0_5 x109000_1 x109001_1 x109002_1 x109003_1 = some (r1, r2, r3)) ∧ Aside0 (kq ≤ k) ∧ Aside0 (Kd.R (Kd.int .u64) 23 w' w.heap.size (fun _ => True) v111 x10_1) ∧ Aside0 (w'.heap[gb101]? = some (.cells #[.int .i64 a0_0, .bool a0_1, .int .u64 a0_2, .int .u64 a0_3, .int .u64 a0_4, .int .u64 a0_5] 49 (0, 0))) ∧ Aside0 (w'.heap[gb102]? = some (.cells #[.int .i64 x103000_1, .int .i64 x103001_1] 26 (0, 0))) ∧ Aside0 (w'.heap[gb108]? = some (.cells #[.int .u64 x109000_1, .int .u64 x109001_1, .int .u64 x109002_1, .bool x109003_1] 51 (0, 0))) ∧ Aside0 (Below w.heap.size w w'))
     case atStart => exact ⟨(y110), (0), (0), (0), (t103), (t104), (t105), (t106), (by first | rfl | (simp; done) | (simp [*]; done)), H', ⟨Nat.le_refl _⟩, ⟨by (with_reducible repeat (first | apply Kd.R_alloc | apply Kd.R_drewN | apply Kd.R_drew)); exact HO112.out⟩, ⟨zw BK101⟩, ⟨zw BK102⟩, ⟨zw BK108⟩, ⟨zh HB⟩⟩
     case round =>
      clear H'
      (try clear c1); (try clear p2); (try clear c3); (try clear c5); (try clear c5b0); (try clear c5b1); (try clear c6); (try clear c7); (try clear c8); (try clear c8b0); (try clear c8b1); (try clear c9); (try clear c9b0); (try clear c9b1); (try clear c12); (try clear c16); (try clear c17)
      try clear hc13_0 hc13_1 hc13_2 hc13_3 hc13_4 hc13_5 hc18_0 hc18_1 hc18_2 hc18_3 hf13_0 hf13_1 hf13_2 hf13_3 hf13_4 hf13_5 hf18_0 hf18_1 hf18_2 hf18_3
      obtain ⟨x10_1, x35_1, x103000_1, x103001_1, x109000_1, x109001_1, x109002_1, x109003_1, rfl, HA, HK1, HO_10, BK101, BK102, BK108, HB⟩ := hrel
      cases gk with
      | zero => exact absurd HA.out (by simp [outlook_Pace.l0])
      | succ k1 =>
       have H := HA.out
       clear HA
       simp only [outlook_Pace.l0] at H
       by_cases c22 : x35_1 < (l1.length : Int)
       ·
        rw [if_pos c22] at H
        have c22b0 : decide (x35_1 < (l1.length : Int)) = true := decide_eq_true c22
        clear c22
        by_cases c23 : 0 ≤ x35_1
        ·
         rw [if_pos c23] at H
         have c23b0 : decide (0 ≤ x35_1) = true := decide_eq_true c23
         clear c23
         by_cases c24 : x35_1 < (l1.length : Int)
         ·
          rw [if_pos c24] at H
          have c24b0 : decide (x35_1 < (l1.length : Int)) = true := decide_eq_true c24
          clear c24
          replace H := Option.bind_eq_some_iff.mp H
          obtain ⟨⟨t114, t115⟩, A250, H⟩ := H
          replace H : (if t115 = true then ((meter_Step.f a0_0 a0_1 a0_2 a0_3 a0_4 a0_5 x109000_1 x109001_1 x109002_1 x109003_1 t114 (rd l1 x35_1) 0).bind fun bt116 => (if x35_1 < (x10_1.length : Int) then (outlook_Pace.l0 k1 a2 (x10_1.set (x35_1 : Int).toNat t114) l1 (l1.length : Int) (wrap64 (x35_1 + 1)) a0_0 a0_1 a0_2 a0_3 a0_4 a0_5 bt116.1 bt116.2.1 bt116.2.2.1 bt116.2.2.2.1) else (none))) else (some (([] : List Int), 8, x35_1))) = some (r1, r2, r3) := H
          have A25 := zq3 A250
          clear A250
          by_cases c26 : t115 = true
          ·
           subst c26
           have H1 : ((meter_Step.f a0_0 a0_1 a0_2 a0_3 a0_4 a0_5 x109000_1 x109001_1 x109002_1 x109003_1 t114 (rd l1 x35_1) 0).bind fun bt116 => (if x35_1 < (x10_1.length : Int) then (outlook_Pace.l0 k1 a2 (x10_1.set (x35_1 : Int).toNat t114) l1 (l1.length : Int) (wrap64 (x35_1 + 1)) a0_0 a0_1 a0_2 a0_3 a0_4 a0_5 bt116.1 bt116.2.1 bt116.2.2.1 bt116.2.2.2.1) else (none))) = some (r1, r2, r3) := by rw [if_pos rfl] at H; exact H
           clear H
           have H := H1
           clear H1
           replace H := Option.bind_eq_some_iff.mp H
           obtain ⟨⟨t116, t117, t118, t119, t120⟩, A270, H⟩ := H
           replace H : (if x35_1 < (x10_1.length : Int) then (outlook_Pace.l0 k1 a2 (x10_1.set (x35_1 : Int).toNat t114) l1 (l1.length : Int) (wrap64 (x35_1 + 1)) a0_0 a0_1 a0_2 a0_3 a0_4 a0_5 t116 t117 t118 t119) else (none)) = some (r1, r2, r3) := H
           have A27 := zq3 A270
           clear A270
           by_cases c28 : x35_1 < (x10_1.length : Int)
           ·
            rw [if_pos c28] at H
            have c28b0 : decide (x35_1 < (x10_1.length : Int)) = true := decide_eq_true c28
            clear c28
            obtain ⟨y121, hy121⟩ : ∃ y_ : List Int, y_ = (x10_1.set (x35_1 : Int).toNat t114) := ⟨_, rfl⟩
            replace H : (outlook_Pace.l0 k1 a2 y121 l1 (l1.length : Int) (wrap64 (x35_1 + 1)) a0_0 a0_1 a0_2 a0_3 a0_4 a0_5 t116 t117 t118 t119) = some (r1, r2, r3) := by first | (rw [hy121]; with_reducible exact H) | (have H2_ := (Option.bind_some _ _).symm.trans H; rw [hy121]; with_reducible exact H2_) | (have H2_ := (Option.bind_some _ _).symm.trans H; with_reducible exact H2_) | with_reducible exact H | (rw [hy121]; exact H) | exact H
            have Ny121 := zq3 hy121
            clear hy121
            have H' := zq3 H
            clear H
            have p113 : 0 ≤ (x35_1 : Int) := of_decide_eq_true (by first | (with_reducible assumption) | assumption)
            have q113 : x35_1 < (l1.length : Int) := of_decide_eq_true (by first | (with_reducible assumption) | assumption)
            obtain ⟨ad113, e113, hx113_0⟩ := Kd.at_int HR1.out x35_1 p113 q113
            cases e113
            replace hx113_0 := (HB.out.cell (World.block_lt_of_cell? w _ hx113_0)).trans hx113_0
            replace p113 := eq_true p113
            replace q113 := eq_true q113
            have hnb30 := NB101_102.out
            have hnc30 := NB102_101.out
            have hnb31 := NB101_108.out
            have hnc31 := NB108_101.out
            obtain ⟨hc32_0, hc32_1, hc32_2, hc32_3, hc32_4, hc32_5⟩ := zc6 BK101
            obtain ⟨hf32_0, hf32_1, hf32_2, hf32_3, hf32_4, hf32_5⟩ := zf6 BK101
            have hnb33 := NB108_102.out
            have hnc33 := NB102_108.out
            obtain ⟨hc34_0, hc34_1, hc34_2, hc34_3⟩ := zc4 BK108
            obtain ⟨hf34_0, hf34_1, hf34_2, hf34_3⟩ := zf4 BK108
            go_wp2_with (first | ((with_reducible refine gate_callee (f := 26) rfl ?_); refine zgo (some 45) Try.func26 #[.agg #[.int .i64 a0_0, .bool a0_1, .int .u64 a0_2, .int .u64 a0_3, .int .u64 a0_4, .int .u64 a0_5], .agg #[.int .u64 x109000_1, .int .u64 x109001_1, .int .u64 x109002_1, .bool x109003_1], .int .i64 (rd l1 x35_1), .int .i64 a2] ?_; (with_reducible refine (outlook_When.calls k1 a0_0 a0_1 a0_2 a0_3 a0_4 a0_5 x109000_1 x109001_1 x109002_1 x109003_1 (rd l1 x35_1) a2 t114 true _ A25.out).mono ?_); rintro e w35 ⟨rfl, hb⟩; refine ⟨_, rfl, ?_⟩; replace HO_10 := zr HO_10 hb; replace BK101 := zs BK101 hb; replace BK102 := zs BK102 hb; replace BK108 := zs BK108 hb; replace HB := zt HB hb; (try clear hb); obtain ⟨hc36_0, hc36_1, hc36_2, hc36_3, hc36_4, hc36_5⟩ := zc6 BK101; obtain ⟨hf36_0, hf36_1, hf36_2, hf36_3, hf36_4, hf36_5⟩ := zf6 BK101; obtain ⟨hc37_0, hc37_1, hc37_2, hc37_3⟩ := zc4 BK108; obtain ⟨hf37_0, hf37_1, hf37_2, hf37_3⟩ := zf4 BK108) | ((with_reducible refine gate_callee (f := 35) rfl ?_); refine zgo (some 57) Try.func35 #[.agg #[.int .i64 a0_0, .bool a0_1, .int .u64 a0_2, .int .u64 a0_3, .int .u64 a0_4, .int .u64 a0_5], .agg #[.int .u64 x109000_1, .int .u64 x109001_1, .int .u64 x109002_1, .bool x109003_1], .int .u64 t114, .int .i64 (rd l1 x35_1), .int .i64 0] ?_; (with_reducible refine (meter_Step.calls a0_0 a0_1 a0_2 a0_3 a0_4 a0_5 x109000_1 x109001_1 x109002_1 x109003_1 t114 (rd l1 x35_1) 0 t116 t117 t118 t119 t120 _ A27.out).mono ?_); rintro e w38 ⟨rfl, hb⟩; refine ⟨_, rfl, ?_⟩; replace HO_10 := zr HO_10 hb; replace BK101 := zs BK101 hb; replace BK102 := zs BK102 hb; replace BK108 := zs BK108 hb; replace HB := zt HB hb; (try clear hb); obtain ⟨hc39_0, hc39_1, hc39_2, hc39_3⟩ := zc4 BK108; obtain ⟨hf39_0, hf39_1, hf39_2, hf39_3⟩ := zf4 BK108) | ((with_reducible refine gate_store (t := 51) (p := 8) rfl ?_); refine store_event (t := 51) (p := 8) (v := ?vo_w40) (w1 := ((((w38.setCell ⟨gb108, 0, none⟩ (.int .u64 t116)).setCell ⟨gb108, 1, none⟩ (.int .u64 t117)).setCell ⟨gb108, 2, none⟩ (.int .u64 t118)).setCell ⟨gb108, 3, none⟩ (.bool t119))) ?hg ?ho ?hn ?hr ?_; (case ho => rfl); (case hg => rfl); (case hn => rfl); (case hr => first | (go_simp; done) | (go_simp; rfl)); intro w40 hw; have n0_ : Aside0 (Kd.R (Kd.int .u64) 23 w40 w.heap.size (fun _ => True) v111 x10_1) := ⟨(by rw [hw]; exact (by (with_reducible repeat (first | apply Kd.R_alloc | apply Kd.R_drewN | apply Kd.R_drew)); exact Kd.R_mono (Kd.R_far (p := ⟨gb108, 3, none⟩) (Kd.R_far (p := ⟨gb108, 2, none⟩) (Kd.R_far (p := ⟨gb108, 1, none⟩) (Kd.R_far (p := ⟨gb108, 0, none⟩) (Kd.R_types HO_10.out BK108.out (by decide)) (fun _ hk => hk.2) (.int .u64 t116)) (fun _ hk => hk.2) (.int .u64 t117)) (fun _ hk => hk.2) (.int .u64 t118)) (fun _ hk => hk.2) (.bool t119)) (fun _ hk => trivial)))⟩; have n1_ : Aside0 (w40.heap[gb101]? = some (.cells #[.int .i64 a0_0, .bool a0_1, .int .u64 a0_2, .int .u64 a0_3, .int .u64 a0_4, .int .u64 a0_5] 49 (0, 0))) := ⟨(by rw [hw]; exact (zw BK101))⟩; have n2_ : Aside0 (w40.heap[gb102]? = some (.cells #[.int .i64 x103000_1, .int .i64 x103001_1] 26 (0, 0))) := ⟨(by rw [hw]; exact (zw BK102))⟩; have n3_ : Aside0 (w40.heap[gb108]? = some (.cells #[.int .u64 t116, .int .u64 t117, .int .u64 t118, .bool t119] 51 (0, 0))) := ⟨(by rw [hw]; exact (zw4 BK108))⟩; have n4_ : Aside0 (Below w.heap.size w w40) := ⟨(by rw [hw]; exact (zh HB))⟩; clear hw; clear HO_10; clear BK101; clear BK102; clear BK108; clear HB; have HO_10 := n0_; have BK101 := n1_; have BK102 := n2_; have BK108 := n3_; have HB := n4_; clear n0_ n1_ n2_ n3_ n4_; have p29 : 0 ≤ (x35_1 : Int) := of_decide_eq_true (by first | (with_reducible assumption) | assumption); have q29 : (x35_1 : Int) < ((x10_1.length : Int) : Int) := of_decide_eq_true (by first | (with_reducible assumption) | assumption); obtain ⟨go29, co29, eo29, gb29, gl29, cl29, HG29⟩ := Kd.R_form HO_10.out (by omega); (first | cases eo29 | (injection eo29 with ea_ en_ ec_; (first | subst ea_ | (injection ea_ with ea_; subst ea_)); subst ec_; clear en_)); have GB29 := zq3 gb29; have GG29 := zq3 HG29; clear gb29 gl29 HG29; obtain ⟨hx29_0, hf29_0⟩ := Kd.R_celln 0 HO_10.out (x35_1 : Int) p29 q29; replace p29 := eq_true p29; replace q29 := eq_true q29; obtain ⟨hy41_, hz41_⟩ := Kd.R_celln 0 HO_10.out (x35_1 : Int) (of_decide_eq_true (by first | (with_reducible assumption) | assumption)) (of_decide_eq_true (by first | (with_reducible assumption) | assumption)); have HP41 := Kd.R_putg HO_10.out (x35_1 : Int) t114) | ((with_reducible refine gate_store (t := 23) (p := 63) rfl ?_); refine store_event (t := 23) (p := 63) (v := ?vo_w42) (w1 := (w40.setCell ⟨go29, (x35_1 : Int).toNat, none⟩ (.int .u64 t114))) ?hg ?ho ?hn ?hr ?_; (case ho => rfl); (case hg => rfl); (case hn => rfl); (case hr => first | (go_simp; done) | (go_simp; rfl)); intro w42 hw; have hg : w40.grownBy w42 (some go29) := (by rw [hw]; exact HP41.2); have hp_ : Kd.R (Kd.int .u64) 23 w42 w.heap.size (fun _ => True) (.slice (some ⟨go29, 0, none⟩) x10_1.length co29) y121 := (by rw [hw, Ny121.out]; exact HP41.1); clear HP41; replace BK101 := zq3 (blk_grown (g := gb101) (o := .cells #[.int .i64 a0_0, .bool a0_1, .int .u64 a0_2, .int .u64 a0_3, .int .u64 a0_4, .int .u64 a0_5] 49 (0, 0)) (zw BK101) hg (Kd.R_ne HO_10.out BK101.out (by decide))); replace BK102 := zq3 (blk_grown (g := gb102) (o := .cells #[.int .i64 x103000_1, .int .i64 x103001_1] 26 (0, 0)) (zw BK102) hg (Kd.R_ne HO_10.out BK102.out (by decide))); replace BK108 := zq3 (blk_grown (g := gb108) (o := .cells #[.int .u64 t116, .int .u64 t117, .int .u64 t118, .bool t119] 51 (0, 0)) (zw BK108) hg (Kd.R_ne HO_10.out BK108.out (by decide))); replace HO_10 := zq3 (hp_); replace HB := zq3 ((by rw [hw]; exact zq6 (HB.out) GB29.out : Below w.heap.size w w42)); clear hg hw hp_))
            go_roundg k1
            case measure => have := HK1.out; omega
            case rel => exact ⟨(y121), (wrap64 (x35_1 + 1)), (x103000_1), (x103001_1), (t116), (t117), (t118), (t119), (by first | rfl | (simp; done) | (simp [*]; done)), H', ⟨by have := HK1.out; omega⟩, ⟨zo HO_10⟩, ⟨zw BK101⟩, ⟨zw BK102⟩, ⟨zw BK108⟩, ⟨zh HB⟩⟩
           ·
            rw [if_neg c28] at H
            exact absurd H (by simp)
          ·
           replace c26 := Bool.eq_false_iff.mpr c26
           subst c26
           have H1 : (some (([] : List Int), 8, x35_1)) = some (r1, r2, r3) := by rw [if_neg (show ¬ (false = true) by decide)] at H; exact H
           clear H
           have H := H1
           clear H1
           simp only [Option.some.injEq, Prod.mk.injEq] at H
           obtain ⟨rfl, rfl, rfl⟩ := H
           have p113 : 0 ≤ (x35_1 : Int) := of_decide_eq_true (by first | (with_reducible assumption) | assumption)
           have q113 : x35_1 < (l1.length : Int) := of_decide_eq_true (by first | (with_reducible assumption) | assumption)
           obtain ⟨ad113, e113, hx113_0⟩ := Kd.at_int HR1.out x35_1 p113 q113
           cases e113
           replace hx113_0 := (HB.out.cell (World.block_lt_of_cell? w _ hx113_0)).trans hx113_0
           replace p113 := eq_true p113
           replace q113 := eq_true q113
           have hnb43 := NB101_102.out
           have hnc43 := NB102_101.out
           have hnb44 := NB101_108.out
           have hnc44 := NB108_101.out
           obtain ⟨hc45_0, hc45_1, hc45_2, hc45_3, hc45_4, hc45_5⟩ := zc6 BK101
           obtain ⟨hf45_0, hf45_1, hf45_2, hf45_3, hf45_4, hf45_5⟩ := zf6 BK101
           have hnb46 := NB108_102.out
           have hnc46 := NB102_108.out
           obtain ⟨hc47_0, hc47_1, hc47_2, hc47_3⟩ := zc4 BK108
           obtain ⟨hf47_0, hf47_1, hf47_2, hf47_3⟩ := zf4 BK108
           go_wp2_with (first | ((with_reducible refine gate_callee (f := 26) rfl ?_); refine zgo (some 45) Try.func26 #[.agg #[.int .i64 a0_0, .bool a0_1, .int .u64 a0_2, .int .u64 a0_3, .int .u64 a0_4, .int .u64 a0_5], .agg #[.int .u64 x109000_1, .int .u64 x109001_1, .int .u64 x109002_1, .bool x109003_1], .int .i64 (rd l1 x35_1), .int .i64 a2] ?_; (with_reducible refine (outlook_When.calls k1 a0_0 a0_1 a0_2 a0_3 a0_4 a0_5 x109000_1 x109001_1 x109002_1 x109003_1 (rd l1 x35_1) a2 t114 false _ A25.out).mono ?_); rintro e w48 ⟨rfl, hb⟩; refine ⟨_, rfl, ?_⟩; replace HO_10 := zr HO_10 hb; replace BK101 := zs BK101 hb; replace BK102 := zs BK102 hb; replace BK108 := zs BK108 hb; replace HB := zt HB hb; (try clear hb); obtain ⟨hc49_0, hc49_1⟩ := zc2 BK102; obtain ⟨hf49_0, hf49_1⟩ := zf2 BK102))
           refine bodyPost_ret (results_tc rfl _ _ gb102 26 #[.int .i64 8, .int .i64 x35_1] (0, 0) _ rfl (zw2 BK102) Try.underlying26 rfl (by kernel_rfl)) rfl ?_
           exact ⟨_, by first | rfl | (simp [errW_none, errW_some] <;> rfl) | (simp [*, errW_none, errW_some] <;> rfl), by first | exact Kd.R_nil _ _ _ _ _ | exact Kd.N_nil _ _ _ _ _ | exact Kd.V_nil _ _ _ _ _ | exact Kd.Q_nil _ _ _ _ _ | exact Kd.S_nil _ _ _ _ _, zh HB⟩
         ·
          rw [if_neg c24] at H
          exact absurd H (by simp)
        ·
         rw [if_neg c23] at H
         exact absurd H (by simp)
       ·
        rw [if_neg c22] at H
        have c22b0 : decide (x35_1 < (l1.length : Int)) = false := decide_eq_false c22
        clear c22
        simp only [Option.some.injEq, Prod.mk.injEq] at H
        obtain ⟨rfl, rfl, rfl⟩ := H
        have hnb50 := NB102_101.out
        have hnc50 := NB101_102.out
        have hnb51 := NB102_108.out
        have hnc51 := NB108_102.out
        obtain ⟨hc52_0, hc52_1⟩ := zc2 BK102
        obtain ⟨hf52_0, hf52_1⟩ := zf2 BK102
        go_wp2
        refine bodyPost_ret (results_tc rfl _ _ gb102 26 #[.int .i64 0, .int .i64 0] (0, 0) _ rfl (zw2 BK102) Try.underlying26 rfl (by kernel_rfl)) rfl ?_
        exact ⟨_, by first | rfl | (simp [errW_none, errW_some] <;> rfl) | (simp [*, errW_none, errW_some] <;> rfl), by (with_reducible repeat (first | apply Kd.R_alloc | apply Kd.R_drewN | apply Kd.R_drew)); exact Kd.R_mono (Kd.R_far (p := ⟨gb102, 1, none⟩) (Kd.R_far (p := ⟨gb102, 0, none⟩) (Kd.R_types HO_10.out BK102.out (by decide)) (fun _ hk => hk.2) (.int .i64 0)) (fun _ hk => hk.2) (.int .i64 0)) (fun _ hk => trivial), zh HB⟩
    ·
     rw [if_neg c9] at H
     exact absurd H (by simp)
   ·
    rw [if_neg c8] at H
    exact absurd H (by simp)
  ·
   replace c7 := Bool.eq_false_iff.mpr c7
   subst c7
   have H1 : (some (([] : List Int), 13, 0)) = some (r1, r2, r3) := by rw [if_neg (show ¬ (false = true) by decide)] at H; exact H
   clear H
   have H := H1
   clear H1
   simp only [Option.some.injEq, Prod.mk.injEq] at H
   obtain ⟨rfl, rfl, rfl⟩ := H
   go_enter Try.func31, Try.ntmps31
   go_wp2_with (first | ((with_reducible refine zd 3 rfl ?_); refine zb 3 #[.int .i64 a0_0, .bool a0_1, .int .u64 a0_2, .int .u64 a0_3, .int .u64 a0_4, .int .u64 a0_5] 49 ?_; intro gb101 hg w53 hbox hb; have BK101 := zq3 (hbox); have GW101 := ze hg HB; have GE101 := GW101; replace HB := zt HB hb; clear hb hbox hg) | ((with_reducible refine zd 7 rfl ?_); refine zb 7 #[.int .i64 0, .int .i64 0] 26 ?_; intro gb102 hg w54 hbox hb; have BK102 := zq3 (hbox); have GW102 := ze hg HB; have GE102 := GW102; have NB101_102 := zl hg BK101; have NB102_101 := zg hg BK101; replace BK101 := zs BK101 hb; replace HB := zt HB hb; clear hb hbox hg; have hnb55 := NB101_102.out; have hnc55 := NB102_101.out; obtain ⟨hc56_0, hc56_1, hc56_2, hc56_3, hc56_4, hc56_5⟩ := zc6 BK101; obtain ⟨hf56_0, hf56_1, hf56_2, hf56_3, hf56_4, hf56_5⟩ := zf6 BK101) | ((with_reducible refine gate_callee (f := 63) rfl ?_); refine zgo (some 17) Try.func63 #[.agg #[.int .i64 a0_0, .bool a0_1, .int .u64 a0_2, .int .u64 a0_3, .int .u64 a0_4, .int .u64 a0_5]] ?_; (with_reducible refine (meter_New.calls a0_0 a0_1 a0_2 a0_3 a0_4 a0_5 t103 t104 t105 t106 t107 _ A4.out).mono ?_); rintro e w57 ⟨rfl, hb⟩; refine ⟨_, rfl, ?_⟩; replace BK101 := zs BK101 hb; replace BK102 := zs BK102 hb; replace HB := zt HB hb; (try clear hb)) | ((with_reducible refine zd 8 rfl ?_); refine zb 8 #[.int .u64 0, .int .u64 0, .int .u64 0, .bool false] 51 ?_; intro gb108 hg w58 hbox hb; have BK108 := zq3 (hbox); have GW108 := ze hg HB; have GE108 := GW108; have NB101_108 := zl hg BK101; have NB108_101 := zg hg BK101; have NB102_108 := zl hg BK102; have NB108_102 := zg hg BK102; replace BK101 := zs BK101 hb; replace BK102 := zs BK102 hb; replace HB := zt HB hb; clear hb hbox hg; have hnb59 := NB108_101.out; have hnc59 := NB101_108.out; have hnb60 := NB108_102.out; have hnc60 := NB102_108.out; obtain ⟨hc61_0, hc61_1, hc61_2, hc61_3⟩ := zc4 BK108; obtain ⟨hf61_0, hf61_1, hf61_2, hf61_3⟩ := zf4 BK108) | ((with_reducible refine gate_callee (f := 53) rfl ?_); refine zgo (some 27) Try.func53 #[.int .i64 a2] ?_; (with_reducible refine (outlook_is.calls a2 false _ A6.out).mono ?_); rintro e w62 ⟨rfl, hb⟩; refine ⟨_, rfl, ?_⟩; replace BK101 := zsf BK101 hb; replace BK102 := zsf BK102 hb; replace BK108 := zq3 (zq10 (o := .cells #[.int .u64 t103, .int .u64 t104, .int .u64 t105, .bool t106] 51 (0, 0)) (zw4 BK108) hb); replace HB := zt HB hb; (try clear hb); obtain ⟨hc63_0, hc63_1⟩ := zc2 BK102; obtain ⟨hf63_0, hf63_1⟩ := zf2 BK102))
   refine bodyPost_ret (results_tc rfl _ _ gb102 26 #[.int .i64 13, .int .i64 0] (0, 0) _ rfl (zw2 BK102) Try.underlying26 rfl (by kernel_rfl)) rfl ?_
   exact ⟨_, by first | rfl | (simp [errW_none, errW_some] <;> rfl) | (simp [*, errW_none, errW_some] <;> rfl), by first | exact Kd.R_nil _ _ _ _ _ | exact Kd.N_nil _ _ _ _ _ | exact Kd.V_nil _ _ _ _ _ | exact Kd.Q_nil _ _ _ _ _ | exact Kd.S_nil _ _ _ _ _, zh HB⟩
 ·
  rw [if_neg c5] at H
  have c5b0 : (t107 == 0) = false := beq_eq_false_iff_ne.mpr c5
  have c5b1 : (t107 != 0) = true := bne_iff_ne.mpr c5
  simp only [Option.some.injEq, Prod.mk.injEq] at H
  obtain ⟨rfl, rfl, rfl⟩ := H
  go_enter Try.func31, Try.ntmps31
  go_wp2_with (first | ((with_reducible refine zd 3 rfl ?_); refine zb 3 #[.int .i64 a0_0, .bool a0_1, .int .u64 a0_2, .int .u64 a0_3, .int .u64 a0_4, .int .u64 a0_5] 49 ?_; intro gb101 hg w64 hbox hb; have BK101 := zq3 (hbox); have GW101 := ze hg HB; have GE101 := GW101; replace HB := zt HB hb; clear hb hbox hg) | ((with_reducible refine zd 7 rfl ?_); refine zb 7 #[.int .i64 0, .int .i64 0] 26 ?_; intro gb102 hg w65 hbox hb; have BK102 := zq3 (hbox); have GW102 := ze hg HB; have GE102 := GW102; have NB101_102 := zl hg BK101; have NB102_101 := zg hg BK101; replace BK101 := zs BK101 hb; replace HB := zt HB hb; clear hb hbox hg; have hnb66 := NB101_102.out; have hnc66 := NB102_101.out; obtain ⟨hc67_0, hc67_1, hc67_2, hc67_3, hc67_4, hc67_5⟩ := zc6 BK101; obtain ⟨hf67_0, hf67_1, hf67_2, hf67_3, hf67_4, hf67_5⟩ := zf6 BK101) | ((with_reducible refine gate_callee (f := 63) rfl ?_); refine zgo (some 17) Try.func63 #[.agg #[.int .i64 a0_0, .bool a0_1, .int .u64 a0_2, .int .u64 a0_3, .int .u64 a0_4, .int .u64 a0_5]] ?_; (with_reducible refine (meter_New.calls a0_0 a0_1 a0_2 a0_3 a0_4 a0_5 t103 t104 t105 t106 t107 _ A4.out).mono ?_); rintro e w68 ⟨rfl, hb⟩; refine ⟨_, rfl, ?_⟩; replace BK101 := zs BK101 hb; replace BK102 := zs BK102 hb; replace HB := zt HB hb; (try clear hb)) | ((with_reducible refine zd 8 rfl ?_); refine zb 8 #[.int .u64 0, .int .u64 0, .int .u64 0, .bool false] 51 ?_; intro gb108 hg w69 hbox hb; have BK108 := zq3 (hbox); have GW108 := ze hg HB; have GE108 := GW108; have NB101_108 := zl hg BK101; have NB108_101 := zg hg BK101; have NB102_108 := zl hg BK102; have NB108_102 := zg hg BK102; replace BK101 := zs BK101 hb; replace BK102 := zs BK102 hb; replace HB := zt HB hb; clear hb hbox hg; have hnb70 := NB108_101.out; have hnc70 := NB101_108.out; have hnb71 := NB108_102.out; have hnc71 := NB102_108.out; obtain ⟨hc72_0, hc72_1, hc72_2, hc72_3⟩ := zc4 BK108; obtain ⟨hf72_0, hf72_1, hf72_2, hf72_3⟩ := zf4 BK108; obtain ⟨hc73_0, hc73_1⟩ := zc2 BK102; obtain ⟨hf73_0, hf73_1⟩ := zf2 BK102))
  refine bodyPost_ret (results_tc rfl _ _ gb102 26 #[.int .i64 t107, .int .i64 0] (0, 0) _ rfl (zw2 BK102) Try.underlying26 rfl (by kernel_rfl)) rfl ?_
  exact ⟨_, by first | rfl | (simp [errW_none, errW_some] <;> rfl) | (simp [*, errW_none, errW_some] <;> rfl), by first | exact Kd.R_nil _ _ _ _ _ | exact Kd.N_nil _ _ _ _ _ | exact Kd.V_nil _ _ _ _ _ | exact Kd.Q_nil _ _ _ _ _ | exact Kd.S_nil _ _ _ _ _, zh HB⟩

end Go.Proofs.Ytiaoaoebghnpkaa.P
end
