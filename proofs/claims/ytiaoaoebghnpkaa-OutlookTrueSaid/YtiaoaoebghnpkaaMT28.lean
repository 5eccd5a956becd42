/- Parts of the proof, in one text. -/
import Derived.Test.YtiaoaoebghnpkaaMT18
import Derived.Test.YtiaoaoebghnpkaaMT19
import Derived.Test.YtiaoaoebghnpkaaMT27
import Derived.Test.YtiaoaoebghnpkaaMT26
section
namespace Go.Proofs.Ytiaoaoebghnpkaa.P
open Go.RowKit Go.Proofs.YtiaoaoebghnpkaaW.PrintWords Go.Proofs.YtiaoaoebghnpkaaW.PrintLast Go.Proofs.YtiaoaoebghnpkaaW.PrintMore
attribute [local go_sem] max2_int min2_int max_two min_two max_three min_three max_four min_four   -- for this text's walks alone
set_option linter.unusedVariables false
set_option linter.unusedSimpArgs false

/-! ### weighbridgeref30_Idle: function 29 -/
def weighbridgeref30_Idle.f (k : Nat) (a0_0 : Int) (a0_1 : Bool) (a0_2 : Int) (a0_3 : Int) (a0_4 : Int) (a0_5 : Int) (a1_0 : Int) (a1_1 : Int) (a1_2 : Int) (a1_3 : Bool) : Option (Int × Bool) := (weighbridgeref28_New.f k a0_0 a0_1 a0_2 a0_3 a0_4 a0_5).bind fun bt103 => (if bt103.2.2.2.2 = 0 then ((weighbridgeref30_Asked_first.f k a0_0 a0_1 a0_2 a0_3 a0_4 a0_5 a1_0 a1_1 a1_2 a1_3 bt103.1 bt103.2.1 bt103.2.2.1 bt103.2.2.2.1 0 0 true).bind fun bt109 => (some (bt109.1, bt109.2))) else (some (0, false)))
set_option maxHeartbeats 8000000 in
set_option maxRecDepth 100000 in
theorem weighbridgeref30_Idle.calls (k : Nat) (a0_0 : Int) (a0_1 : Bool) (a0_2 : Int) (a0_3 : Int) (a0_4 : Int) (a0_5 : Int) (a1_0 : Int) (a1_1 : Int) (a1_2 : Int) (a1_3 : Bool) (r1 : Int) (r2 : Bool) (w : World) (h : weighbridgeref30_Idle.f k a0_0 a0_1 a0_2 a0_3 a0_4 a0_5 a1_0 a1_1 a1_2 a1_3 = some (r1, r2)) :
  Calls Try.prog 29 #[.agg #[.int .i64 a0_0, .bool a0_1, .int .u64 a0_2, .int .u64 a0_3, .int .u64 a0_4, .int .u64 a0_5], .agg #[.int .u64 a1_0, .int .u64 a1_1, .int .u64 a1_2, .bool a1_3]] w fun e w' => e = .returned (.tuple #[.int .u64 r1, .bool r2]) ∧ Below w.heap.size w w' := by
 have hu49 := Try.underlying49
 have hu51 := Try.underlying51
 have hu95 := Try.underlying95
 have HB := zq3 (Below.refl w.heap.size w)
 have H : ((weighbridgeref28_New.f k a0_0 a0_1 a0_2 a0_3 a0_4 a0_5).bind fun bt103 => (if bt103.2.2.2.2 = 0 then ((weighbridgeref30_Asked_first.f k a0_0 a0_1 a0_2 a0_3 a0_4 a0_5 a1_0 a1_1 a1_2 a1_3 bt103.1 bt103.2.1 bt103.2.2.1 bt103.2.2.2.1 0 0 true).bind fun bt109 => (some (bt109.1, bt109.2))) else (some (0, false)))) = some (r1, r2) := h
 clear h
 replace H := Option.bind_eq_some_iff.mp H
 obtain ⟨⟨t103, t104, t105, t106, t107⟩, A30, H⟩ := H
 replace H : (if t107 = 0 then ((weighbridgeref30_Asked_first.f k a0_0 a0_1 a0_2 a0_3 a0_4 a0_5 a1_0 a1_1 a1_2 a1_3 t103 t104 t105 t106 0 0 true).bind fun bt109 => (some (bt109.1, bt109.2))) else (some (0, false))) = some (r1, r2) := H
 have A3 := zq3 A30
 clear A30
 by_cases c4 : t107 = 0
 ·
  rw [if_pos c4] at H
  have c4b0 : (t107 == 0) = true := beq_iff_eq.mpr c4
  have c4b1 : (t107 != 0) = false := bne_eq_false_iff_eq.mpr c4
  clear c4
  replace H := Option.bind_eq_some_iff.mp H
  obtain ⟨⟨t109, t110⟩, A50, H⟩ := H
  replace H : (some (t109, t110)) = some (r1, r2) := H
  have A5 := zq3 A50
  clear A50
  simp only [Option.some.injEq, Prod.mk.injEq] at H
  obtain ⟨rfl, rfl⟩ := H
  go_enter Try.func29, Try.ntmps29
  go_wp2_with (first | ((with_reducible refine zd 2 rfl ?_); refine zb 2 #[.int .i64 a0_0, .bool a0_1, .int .u64 a0_2, .int .u64 a0_3, .int .u64 a0_4, .int .u64 a0_5] 49 ?_; intro gb101 hg w6 hbox hb; have BK101 := zq3 (hbox); have GW101 := ze hg HB; have GE101 := GW101; replace HB := zt HB hb; clear hb hbox hg) | ((with_reducible refine zd 3 rfl ?_); refine zb 3 #[.int .u64 a1_0, .int .u64 a1_1, .int .u64 a1_2, .bool a1_3] 51 ?_; intro gb102 hg w7 hbox hb; have BK102 := zq3 (hbox); have GW102 := ze hg HB; have GE102 := GW102; have NB101_102 := zl hg BK101; have NB102_101 := zg hg BK101; replace BK101 := zs BK101 hb; replace HB := zt HB hb; clear hb hbox hg; have hnb8 := NB101_102.out; have hnc8 := NB102_101.out; obtain ⟨hc9_0, hc9_1, hc9_2, hc9_3, hc9_4, hc9_5⟩ := zc6 BK101; obtain ⟨hf9_0, hf9_1, hf9_2, hf9_3, hf9_4, hf9_5⟩ := zf6 BK101) | ((with_reducible refine gate_callee (f := 62) rfl ?_); refine zgo (some 10) Try.func62 #[.agg #[.int .i64 a0_0, .bool a0_1, .int .u64 a0_2, .int .u64 a0_3, .int .u64 a0_4, .int .u64 a0_5]] ?_; (with_reducible refine (weighbridgeref28_New.calls k a0_0 a0_1 a0_2 a0_3 a0_4 a0_5 t103 t104 t105 t106 t107 _ A3.out).mono ?_); rintro e w10 ⟨rfl, hb⟩; refine ⟨_, rfl, ?_⟩; replace BK101 := zs BK101 hb; replace BK102 := zs BK102 hb; replace HB := zt HB hb; (try clear hb)) | ((with_reducible refine zd 6 rfl ?_); refine zb 6 #[.int .u64 0, .int .u64 0, .int .u64 0, .bool false] 51 ?_; intro gb108 hg w11 hbox hb; have BK108 := zq3 (hbox); have GW108 := ze hg HB; have GE108 := GW108; have NB101_108 := zl hg BK101; have NB108_101 := zg hg BK101; have NB102_108 := zl hg BK102; have NB108_102 := zg hg BK102; replace BK101 := zs BK101 hb; replace BK102 := zs BK102 hb; replace HB := zt HB hb; clear hb hbox hg; have hnb12 := NB108_101.out; have hnc12 := NB101_108.out; have hnb13 := NB108_102.out; have hnc13 := NB102_108.out; obtain ⟨hc14_0, hc14_1, hc14_2, hc14_3⟩ := zc4 BK108; obtain ⟨hf14_0, hf14_1, hf14_2, hf14_3⟩ := zf4 BK108; obtain ⟨hc15_0, hc15_1, hc15_2, hc15_3, hc15_4, hc15_5⟩ := zc6 BK101; obtain ⟨hf15_0, hf15_1, hf15_2, hf15_3, hf15_4, hf15_5⟩ := zf6 BK101; obtain ⟨hc16_0, hc16_1, hc16_2, hc16_3⟩ := zc4 BK102; obtain ⟨hf16_0, hf16_1, hf16_2, hf16_3⟩ := zf4 BK102) | ((with_reducible refine gate_callee (f := 58) rfl ?_); refine zgo (some 19) Try.func58 #[.agg #[.int .i64 a0_0, .bool a0_1, .int .u64 a0_2, .int .u64 a0_3, .int .u64 a0_4, .int .u64 a0_5, .int .u64 a1_0, .int .u64 a1_1, .int .u64 a1_2, .bool a1_3, .int .u64 t103, .int .u64 t104, .int .u64 t105, .bool t106, .int .i64 0, .int .i64 0, .bool true]] ?_; (with_reducible refine (weighbridgeref30_Asked_first.calls k a0_0 a0_1 a0_2 a0_3 a0_4 a0_5 a1_0 a1_1 a1_2 a1_3 t103 t104 t105 t106 0 0 true t109 t110 _ A5.out).mono ?_); rintro e w17 ⟨rfl, hb⟩; refine ⟨_, rfl, ?_⟩; replace BK101 := zsf BK101 hb; replace BK102 := zsf BK102 hb; replace BK108 := zq3 (zq10 (o := .cells #[.int .u64 t103, .int .u64 t104, .int .u64 t105, .bool t106] 51 (0, 0)) (zw4 BK108) hb); replace HB := zt HB hb; (try clear hb)))
  go_ret2
  exact ⟨by first | rfl | (simp [errW_none, errW_some] <;> rfl) | (simp [*, errW_none, errW_some] <;> rfl), zh HB⟩
 ·
  rw [if_neg c4] at H
  have c4b0 : (t107 == 0) = false := beq_eq_false_iff_ne.mpr c4
  have c4b1 : (t107 != 0) = true := bne_iff_ne.mpr c4
  simp only [Option.some.injEq, Prod.mk.injEq] at H
  obtain ⟨rfl, rfl⟩ := H
  go_enter Try.func29, Try.ntmps29
  go_wp2_with (first | ((with_reducible refine zd 2 rfl ?_); refine zb 2 #[.int .i64 a0_0, .bool a0_1, .int .u64 a0_2, .int .u64 a0_3, .int .u64 a0_4, .int .u64 a0_5] 49 ?_; intro gb101 hg w18 hbox hb; have BK101 := zq3 (hbox); have GW101 := ze hg HB; have GE101 := GW101; replace HB := zt HB hb; clear hb hbox hg) | ((with_reducible refine zd 3 rfl ?_); refine zb 3 #[.int .u64 a1_0, .int .u64 a1_1, .int .u64 a1_2, .bool a1_3] 51 ?_; intro gb102 hg w19 hbox hb; have BK102 := zq3 (hbox); have GW102 := ze hg HB; have GE102 := GW102; have NB101_102 := zl hg BK101; have NB102_101 := zg hg BK101; replace BK101 := zs BK101 hb; replace HB := zt HB hb; clear hb hbox hg; have hnb20 := NB101_102.out; have hnc20 := NB102_101.out; obtain ⟨hc21_0, hc21_1, hc21_2, hc21_3, hc21_4, hc21_5⟩ := zc6 BK101; obtain ⟨hf21_0, hf21_1, hf21_2, hf21_3, hf21_4, hf21_5⟩ := zf6 BK101) | ((with_reducible refine gate_callee (f := 62) rfl ?_); refine zgo (some 10) Try.func62 #[.agg #[.int .i64 a0_0, .bool a0_1, .int .u64 a0_2, .int .u64 a0_3, .int .u64 a0_4, .int .u64 a0_5]] ?_; (with_reducible refine (weighbridgeref28_New.calls k a0_0 a0_1 a0_2 a0_3 a0_4 a0_5 t103 t104 t105 t106 t107 _ A3.out).mono ?_); rintro e w22 ⟨rfl, hb⟩; refine ⟨_, rfl, ?_⟩; replace BK101 := zs BK101 hb; replace BK102 := zs BK102 hb; replace HB := zt HB hb; (try clear hb)) | ((with_reducible refine zd 6 rfl ?_); refine zb 6 #[.int .u64 0, .int .u64 0, .int .u64 0, .bool false] 51 ?_; intro gb108 hg w23 hbox hb; have BK108 := zq3 (hbox); have GW108 := ze hg HB; have GE108 := GW108; have NB101_108 := zl hg BK101; have NB108_101 := zg hg BK101; have NB102_108 := zl hg BK102; have NB108_102 := zg hg BK102; replace BK101 := zs BK101 hb; replace BK102 := zs BK102 hb; replace HB := zt HB hb; clear hb hbox hg; have hnb24 := NB108_101.out; have hnc24 := NB101_108.out; have hnb25 := NB108_102.out; have hnc25 := NB102_108.out; obtain ⟨hc26_0, hc26_1, hc26_2, hc26_3⟩ := zc4 BK108; obtain ⟨hf26_0, hf26_1, hf26_2, hf26_3⟩ := zf4 BK108))
  go_ret2
  exact ⟨by first | rfl | (simp [errW_none, errW_some] <;> rfl) | (simp [*, errW_none, errW_some] <;> rfl), zh HB⟩

end Go.Proofs.Ytiaoaoebghnpkaa.P
end
section
namespace Go.Proofs.Ytiaoaoebghnpkaa.P
open Go.RowKit Go.Proofs.YtiaoaoebghnpkaaW.PrintWords Go.Proofs.YtiaoaoebghnpkaaW.PrintLast Go.Proofs.YtiaoaoebghnpkaaW.PrintMore
attribute [local go_sem] max2_int min2_int max_two min_two max_three min_three max_four min_four   -- for this text's walks alone
set_option linter.unusedVariables false
set_option linter.unusedSimpArgs false

/-! ### weighbridgeref30_Pace: function 32 -/
mutual
def weighbridgeref30_Pace.j0 : Nat → List Int → Int → Bool → Int → Bool → Int → Int → Int → Int → Int → Int → Int → Bool → Option (List Int × Int × Int)
 | 0, _, _, _, _, _, _, _, _, _, _, _, _, _ => none
 | k + 1, x1, x2, x28, x102000, x102001, x102002, x102003, x102004, x102005, x109000, x109001, x109002, x109003 => if x28 = true then (some (([] : List Int), 13, 0)) else (weighbridgeref30_Pace.l0 k x1 x2 ([] : List Int) 0 x102000 x102001 x102002 x102003 x102004 x102005 x109000 x109001 x109002 x109003)
def weighbridgeref30_Pace.l0 : Nat → List Int → Int → List Int → Int → Int → Bool → Int → Int → Int → Int → Int → Int → Int → Bool → Option (List Int × Int × Int)
 | 0, _, _, _, _, _, _, _, _, _, _, _, _, _, _ => none
 | k + 1, x1, x2, x10, x11, x102000, x102001, x102002, x102003, x102004, x102005, x109000, x109001, x109002, x109003 => if x11 < (x1.length : Int) then (if 0 ≤ x11 then ((weighbridgeref30_When.f k x102000 x102001 x102002 x102003 x102004 x102005 x109000 x109001 x109002 x109003 (rd x1 x11) x2).bind fun bt110 => (if bt110.2 = true then ((weighbridgeref28_Step.f k x102000 x102001 x102002 x102003 x102004 x102005 x109000 x109001 x109002 x109003 bt110.1 (rd x1 x11) 0).bind fun bt113 => (if x10.length < 17592186044416 then (weighbridgeref30_Pace.l0 k x1 x2 (x10 ++ [bt110.1]) (wrap64 (x11 + 1)) x102000 x102001 x102002 x102003 x102004 x102005 bt113.1 bt113.2.1 bt113.2.2.1 bt113.2.2.2.1) else (none))) else (some (([] : List Int), 8, x11)))) else (none)) else (some (x10, 0, 0))
end
def weighbridgeref30_Pace.f (k : Nat) (a0_0 : Int) (a0_1 : Bool) (a0_2 : Int) (a0_3 : Int) (a0_4 : Int) (a0_5 : Int) (l1 : List Int) (a2 : Int) : Option (List Int × Int × Int) := (weighbridgeref28_New.f k a0_0 a0_1 a0_2 a0_3 a0_4 a0_5).bind fun bt103 => (if bt103.2.2.2.2 = 0 then (if a2 < 0 then (weighbridgeref30_Pace.j0 k l1 a2 true a0_0 a0_1 a0_2 a0_3 a0_4 a0_5 bt103.1 bt103.2.1 bt103.2.2.1 bt103.2.2.2.1) else (weighbridgeref30_Pace.j0 k l1 a2 (decide (a2 > 2)) a0_0 a0_1 a0_2 a0_3 a0_4 a0_5 bt103.1 bt103.2.1 bt103.2.2.1 bt103.2.2.2.1)) else (some (([] : List Int), bt103.2.2.2.2, 0)))
def weighbridgeref30_Pace.T10 : Bool × List (List Nat × List Nat) := (true, [([], []), ([], []), ([], []), ([], []), ([2, 3], [2, 3]), ([4], [4]), ([], []), ([0, 1, 5, 6], [0, 1, 5, 6]), ([7], [7]), ([8], [8]), ([8], [8]), ([9, 7, 0, 1, 2, 3, 4, 5, 6, 7, 8, 9], [9]), ([10, 11, 0, 1, 2, 3, 4, 5, 6, 7, 8, 9, 10, 11], [10])])
def weighbridgeref30_Pace.B10 : List Nat := [0, 0, 0, 0, 12, 28, 0, 127, 255, 511, 511, 1023, 4095]
theorem weighbridgeref30_Pace.tab10 : rtab .any (opsOf Try.f32 10) = weighbridgeref30_Pace.T10 := by kernel_rfl
theorem weighbridgeref30_Pace.bits10 : waitsOk weighbridgeref30_Pace.T10.2 weighbridgeref30_Pace.B10 = true := by kernel_rfl
def weighbridgeref30_Pace.T13 : Bool × List (List Nat × List Nat) := (true, [([], []), ([], []), ([], []), ([], []), ([], []), ([3, 4], [3, 4]), ([5], [5]), ([0, 1, 2, 6], [0, 1, 2, 6]), ([7], [7]), ([8], [8]), ([8], [8]), ([9, 7, 0, 1, 2, 3, 4, 5, 6, 7, 8, 9], [9])])
def weighbridgeref30_Pace.B13 : List Nat := [0, 0, 0, 0, 0, 24, 56, 127, 255, 511, 511, 1023]
theorem weighbridgeref30_Pace.tab13 : rtab .any (opsOf Try.f32 13) = weighbridgeref30_Pace.T13 := by kernel_rfl
theorem weighbridgeref30_Pace.bits13 : waitsOk weighbridgeref30_Pace.T13.2 weighbridgeref30_Pace.B13 = true := by kernel_rfl
set_option maxHeartbeats 8000000 in
set_option maxRecDepth 100000 in
theorem weighbridgeref30_Pace.calls (k : Nat) (a0_0 : Int) (a0_1 : Bool) (a0_2 : Int) (a0_3 : Int) (a0_4 : Int) (a0_5 : Int) (A1 : Option Addr) (c1 : Nat) (l1 : List Int) (a2 : Int) (r1 : List Int) (r2 : Int) (r3 : Int) (w : World) (hr1 : Kd.C (Kd.int .i64) w A1 l1.length l1) (hc1 : l1.length ≤ c1) (h : weighbridgeref30_Pace.f k a0_0 a0_1 a0_2 a0_3 a0_4 a0_5 l1 a2 = some (r1, r2, r3)) :
  Calls Try.prog 32 #[.agg #[.int .i64 a0_0, .bool a0_1, .int .u64 a0_2, .int .u64 a0_3, .int .u64 a0_4, .int .u64 a0_5], .slice A1 l1.length c1, .int .i64 a2] w fun e w' => ∃ v0_ : Value, e = .returned (.tuple #[v0_, .agg #[.int .i64 r2, .int .i64 r3]]) ∧ Kd.R (Kd.int .u64) 23 w' w.heap.size (fun _ => True) v0_ r1 ∧ Below w.heap.size w w' := by
 have hu49 := Try.underlying49
 have hu26 := Try.underlying26
 have hu51 := Try.underlying51
 have HR1 := zq3 hr1
 have HC1 := zq3 hc1
 clear hr1 hc1
 have HB := zq3 (Below.refl w.heap.size w)
 have H : ((weighbridgeref28_New.f k a0_0 a0_1 a0_2 a0_3 a0_4 a0_5).bind fun bt103 => (if bt103.2.2.2.2 = 0 then (if a2 < 0 then (weighbridgeref30_Pace.j0 k l1 a2 true a0_0 a0_1 a0_2 a0_3 a0_4 a0_5 bt103.1 bt103.2.1 bt103.2.2.1 bt103.2.2.2.1) else (weighbridgeref30_Pace.j0 k l1 a2 (decide (a2 > 2)) a0_0 a0_1 a0_2 a0_3 a0_4 a0_5 bt103.1 bt103.2.1 bt103.2.2.1 bt103.2.2.2.1)) else (some (([] : List Int), bt103.2.2.2.2, 0)))) = some (r1, r2, r3) := h
 clear h
 replace H := Option.bind_eq_some_iff.mp H
 obtain ⟨⟨t103, t104, t105, t106, t107⟩, A40, H⟩ := H
 replace H : (if t107 = 0 then (if a2 < 0 then (weighbridgeref30_Pace.j0 k l1 a2 true a0_0 a0_1 a0_2 a0_3 a0_4 a0_5 t103 t104 t105 t106) else (weighbridgeref30_Pace.j0 k l1 a2 (decide (a2 > 2)) a0_0 a0_1 a0_2 a0_3 a0_4 a0_5 t103 t104 t105 t106)) else (some (([] : List Int), t107, 0))) = some (r1, r2, r3) := H
 have A4 := zq3 A40
 clear A40
 by_cases c5 : t107 = 0
 ·
  rw [if_pos c5] at H
  have c5b0 : (t107 == 0) = true := beq_iff_eq.mpr c5
  have c5b1 : (t107 != 0) = false := bne_eq_false_iff_eq.mpr c5
  clear c5
  have HC6 := zq3 H
  clear H
  go_enter Try.func32, Try.ntmps32
  go_upto_region 4 with (first | ((with_reducible refine zd 3 rfl ?_); refine zb 3 #[.int .i64 a0_0, .bool a0_1, .int .u64 a0_2, .int .u64 a0_3, .int .u64 a0_4, .int .u64 a0_5] 49 ?_; intro gb101 hg w7 hbox hb; have BK101 := zq3 (hbox); have GW101 := ze hg HB; have GE101 := GW101; replace HB := zt HB hb; clear hb hbox hg) | ((with_reducible refine zd 7 rfl ?_); refine zb 7 #[.int .i64 0, .int .i64 0] 26 ?_; intro gb102 hg w8 hbox hb; have BK102 := zq3 (hbox); have GW102 := ze hg HB; have GE102 := GW102; have NB101_102 := zl hg BK101; have NB102_101 := zg hg BK101; replace BK101 := zs BK101 hb; replace HB := zt HB hb; clear hb hbox hg; have hnb9 := NB101_102.out; have hnc9 := NB102_101.out; obtain ⟨hc10_0, hc10_1, hc10_2, hc10_3, hc10_4, hc10_5⟩ := zc6 BK101; obtain ⟨hf10_0, hf10_1, hf10_2, hf10_3, hf10_4, hf10_5⟩ := zf6 BK101) | ((with_reducible refine gate_callee (f := 62) rfl ?_); refine zgo (some 16) Try.func62 #[.agg #[.int .i64 a0_0, .bool a0_1, .int .u64 a0_2, .int .u64 a0_3, .int .u64 a0_4, .int .u64 a0_5]] ?_; (with_reducible refine (weighbridgeref28_New.calls k a0_0 a0_1 a0_2 a0_3 a0_4 a0_5 t103 t104 t105 t106 t107 _ A4.out).mono ?_); rintro e w11 ⟨rfl, hb⟩; refine ⟨_, rfl, ?_⟩; replace BK101 := zs BK101 hb; replace BK102 := zs BK102 hb; replace HB := zt HB hb; (try clear hb)) | ((with_reducible refine zd 8 rfl ?_); refine zb 8 #[.int .u64 0, .int .u64 0, .int .u64 0, .bool false] 51 ?_; intro gb108 hg w12 hbox hb; have BK108 := zq3 (hbox); have GW108 := ze hg HB; have GE108 := GW108; have NB101_108 := zl hg BK101; have NB108_101 := zg hg BK101; have NB102_108 := zl hg BK102; have NB108_102 := zg hg BK102; replace BK101 := zs BK101 hb; replace BK102 := zs BK102 hb; replace HB := zt HB hb; clear hb hbox hg; have hnb13 := NB108_101.out; have hnc13 := NB101_108.out; have hnb14 := NB108_102.out; have hnc14 := NB102_108.out; obtain ⟨hc15_0, hc15_1, hc15_2, hc15_3⟩ := zc4 BK108; obtain ⟨hf15_0, hf15_1, hf15_2, hf15_3⟩ := zf4 BK108))
  (try simp only [Act.put, List.setIfInBounds_toArray, List.set_cons_zero, List.set_cons_succ])
  go_cut [28] (fun v28 wc => ∃ (kq : Nat) (x28_5 : Bool), v28 = .bool x28_5 ∧ Aside0 (weighbridgeref30_Pace.j0 kq l1 a2 x28_5 a0_0 a0_1 a0_2 a0_3 a0_4 a0_5 t103 t104 t105 t106 = some (r1, r2, r3)) ∧ Aside0 (kq ≤ k) ∧ Aside0 (wc.heap[gb101]? = some (.cells #[.int .i64 a0_0, .bool a0_1, .int .u64 a0_2, .int .u64 a0_3, .int .u64 a0_4, .int .u64 a0_5] 49 (0, 0))) ∧ Aside0 (wc.heap[gb102]? = some (.cells #[.int .i64 0, .int .i64 0] 26 (0, 0))) ∧ Aside0 (wc.heap[gb108]? = some (.cells #[.int .u64 t103, .int .u64 t104, .int .u64 t105, .bool t106] 51 (0, 0))) ∧ Aside0 (Below w.heap.size w wc))
  case first =>
   have H := HC6.out
   clear HC6
   by_cases c16 : a2 < 0
   ·
    rw [if_pos c16] at H
    have c16b0 : decide (a2 < 0) = true := decide_eq_true c16
    clear c16
    (first | rw [c16b0] | (simp only [i64_w, i32_w]; rw [c16b0]) | skip)
    have H' := zq3 H
    clear H
    go_wp2
    go_meet
    case rel => exact ⟨_, (true), (by first | rfl | (simp; done) | (simp [*]; done)), H', ⟨by first | omega | exact Nat.le_refl _⟩, ⟨zw BK101⟩, ⟨zw BK102⟩, ⟨zw4 BK108⟩, ⟨zh HB⟩⟩
   ·
    rw [if_neg c16] at H
    have c16b0 : decide (a2 < 0) = false := decide_eq_false c16
    clear c16
    (first | rw [c16b0] | (simp only [i64_w, i32_w]; rw [c16b0]) | skip)
    have H' := zq3 H
    clear H
    go_wp2
    go_meet
    case rel => exact ⟨_, (decide (a2 > 2)), (by first | rfl | (simp; done) | (simp [*]; done)), H', ⟨by first | omega | exact Nat.le_refl _⟩, ⟨zw BK101⟩, ⟨zw BK102⟩, ⟨zw4 BK108⟩, ⟨zh HB⟩⟩
  case rest =>
   clear HC6
   (try clear c1); (try clear p2); (try clear c3); (try clear c5); (try clear c5b0); (try clear c5b1); (try clear c6); (try clear c9); (try clear c13); (try clear c14); (try clear c16); (try clear c16b0)
   try clear hc10_0 hc10_1 hc10_2 hc10_3 hc10_4 hc10_5 hc15_0 hc15_1 hc15_2 hc15_3 hf10_0 hf10_1 hf10_2 hf10_3 hf10_4 hf10_5 hf15_0 hf15_1 hf15_2 hf15_3
   obtain ⟨kq, x28_5, rfl, HA, HJ5, BK101, BK102, BK108, HB⟩ := hcut
   cases kq with
   | zero => exact absurd HA.out (by simp [weighbridgeref30_Pace.j0])
   | succ kj5 =>
    have H := HA.out
    clear HA
    simp only [weighbridgeref30_Pace.j0] at H
    by_cases c17 : x28_5 = true
    ·
     subst c17
     have H1 : (some (([] : List Int), 13, 0)) = some (r1, r2, r3) := by rw [if_pos rfl] at H; exact H
     clear H
     have H := H1
     clear H1
     simp only [Option.some.injEq, Prod.mk.injEq] at H
     obtain ⟨rfl, rfl, rfl⟩ := H
     have hnb18 := NB102_101.out
     have hnc18 := NB101_102.out
     have hnb19 := NB102_108.out
     have hnc19 := NB108_102.out
     obtain ⟨hc20_0, hc20_1⟩ := zc2 BK102
     obtain ⟨hf20_0, hf20_1⟩ := zf2 BK102
     go_wp2
     refine bodyPost_ret (results_tc rfl _ _ gb102 26 #[.int .i64 13, .int .i64 0] (0, 0) _ rfl (zw2 BK102) Try.underlying26 rfl (by kernel_rfl)) rfl ?_
     exact ⟨_, by first | rfl | (simp [errW_none, errW_some] <;> rfl) | (simp [*, errW_none, errW_some] <;> rfl), by first | exact Kd.R_nil _ _ _ _ _ | exact Kd.N_nil _ _ _ _ _ | exact Kd.V_nil _ _ _ _ _ | exact Kd.Q_nil _ _ _ _ _ | exact Kd.S_nil _ _ _ _ _, zh HB⟩
    ·
     replace c17 := Bool.eq_false_iff.mpr c17
     subst c17
     have H1 : (weighbridgeref30_Pace.l0 kj5 l1 a2 ([] : List Int) 0 a0_0 a0_1 a0_2 a0_3 a0_4 a0_5 t103 t104 t105 t106) = some (r1, r2, r3) := by rw [if_neg (show ¬ (false = true) by decide)] at H; exact H
     clear H
     have H := H1
     clear H1
     have H' := zq3 H
     clear H
     go_wp2
     go_loopg [10, 11] kj5 (fun kq v10 v11 w' => ∃ (x10_2 : List Int) (x11_2 : Int) (x103000_2 : Int) (x103001_2 : Int) (x109000_2 : Int) (x109001_2 : Int) (x109002_2 : Int) (x109003_2 : Bool), v11 = .int .i64 x11_2 ∧ Aside0 (weighbridgeref30_Pace.l0 kq l1 a2 x10_2 x11_2 a0_0 a0_1 a0_2 a0_3 a0_4 a0_5 x109000_2 x109001_2 x109002_2 x109003_2 = some (r1, r2, r3)) ∧ Aside0 (kq ≤ kj5) ∧ Aside0 (Kd.R (Kd.int .u64) 23 w' w.heap.size (fun _ => True) v10 x10_2) ∧ Aside0 (w'.heap[gb101]? = some (.cells #[.int .i64 a0_0, .bool a0_1, .int .u64 a0_2, .int .u64 a0_3, .int .u64 a0_4, .int .u64 a0_5] 49 (0, 0))) ∧ Aside0 (w'.heap[gb102]? = some (.cells #[.int .i64 x103000_2, .int .i64 x103001_2] 26 (0, 0))) ∧ Aside0 (w'.heap[gb108]? = some (.cells #[.int .u64 x109000_2, .int .u64 x109001_2, .int .u64 x109002_2, .bool x109003_2] 51 (0, 0))) ∧ Aside0 (Below w.heap.size w w'))
     case atStart => exact ⟨(([] : List Int)), (0), (0), (0), (t103), (t104), (t105), (t106), (by first | rfl | (simp; done) | (simp [*]; done)), H', ⟨Nat.le_refl _⟩, ⟨by first | exact Kd.R_nil _ _ _ _ _ | exact Kd.N_nil _ _ _ _ _ | exact Kd.V_nil _ _ _ _ _ | exact Kd.Q_nil _ _ _ _ _ | exact Kd.S_nil _ _ _ _ _⟩, ⟨zw BK101⟩, ⟨zw BK102⟩, ⟨zw BK108⟩, ⟨zh HB⟩⟩
     case round =>
      clear H'
      (try clear c1); (try clear p2); (try clear c3); (try clear c5); (try clear c5b0); (try clear c5b1); (try clear c6); (try clear c9); (try clear c13); (try clear c14); (try clear c16); (try clear c16b0); (try clear c17); (try clear c18); (try clear c19)
      try clear hc10_0 hc10_1 hc10_2 hc10_3 hc10_4 hc10_5 hc15_0 hc15_1 hc15_2 hc15_3 hc20_0 hc20_1 hf10_0 hf10_1 hf10_2 hf10_3 hf10_4 hf10_5 hf15_0 hf15_1 hf15_2 hf15_3 hf20_0 hf20_1
      (try clear p2)
      obtain ⟨x10_2, x11_2, x103000_2, x103001_2, x109000_2, x109001_2, x109002_2, x109003_2, rfl, HA, HK2, HO_10, BK101, BK102, BK108, HB⟩ := hrel
      cases gk with
      | zero => exact absurd HA.out (by simp [weighbridgeref30_Pace.l0])
      | succ k2 =>
       have H := HA.out
       clear HA
       simp only [weighbridgeref30_Pace.l0] at H
       by_cases c21 : x11_2 < (l1.length : Int)
       ·
        rw [if_pos c21] at H
        have c21b0 : decide (x11_2 < (l1.length : Int)) = true := decide_eq_true c21
        clear c21
        by_cases c22 : 0 ≤ x11_2
        ·
         rw [if_pos c22] at H
         have c22b0 : decide (0 ≤ x11_2) = true := decide_eq_true c22
         clear c22
         replace H := Option.bind_eq_some_iff.mp H
         obtain ⟨⟨t110, t111⟩, A230, H⟩ := H
         replace H : (if t111 = true then ((weighbridgeref28_Step.f k2 a0_0 a0_1 a0_2 a0_3 a0_4 a0_5 x109000_2 x109001_2 x109002_2 x109003_2 t110 (rd l1 x11_2) 0).bind fun bt113 => (if x10_2.length < 17592186044416 then (weighbridgeref30_Pace.l0 k2 l1 a2 (x10_2 ++ [t110]) (wrap64 (x11_2 + 1)) a0_0 a0_1 a0_2 a0_3 a0_4 a0_5 bt113.1 bt113.2.1 bt113.2.2.1 bt113.2.2.2.1) else (none))) else (some (([] : List Int), 8, x11_2))) = some (r1, r2, r3) := H
         have A23 := zq3 A230
         clear A230
         by_cases c24 : t111 = true
         ·
          subst c24
          have H1 : ((weighbridgeref28_Step.f k2 a0_0 a0_1 a0_2 a0_3 a0_4 a0_5 x109000_2 x109001_2 x109002_2 x109003_2 t110 (rd l1 x11_2) 0).bind fun bt113 => (if x10_2.length < 17592186044416 then (weighbridgeref30_Pace.l0 k2 l1 a2 (x10_2 ++ [t110]) (wrap64 (x11_2 + 1)) a0_0 a0_1 a0_2 a0_3 a0_4 a0_5 bt113.1 bt113.2.1 bt113.2.2.1 bt113.2.2.2.1) else (none))) = some (r1, r2, r3) := by rw [if_pos rfl] at H; exact H
          clear H
          have H := H1
          clear H1
          replace H := Option.bind_eq_some_iff.mp H
          obtain ⟨⟨t113, t114, t115, t116, t117⟩, A250, H⟩ := H
          replace H : (if x10_2.length < 17592186044416 then (weighbridgeref30_Pace.l0 k2 l1 a2 (x10_2 ++ [t110]) (wrap64 (x11_2 + 1)) a0_0 a0_1 a0_2 a0_3 a0_4 a0_5 t113 t114 t115 t116) else (none)) = some (r1, r2, r3) := H
          have A25 := zq3 A250
          clear A250
          by_cases c26 : x10_2.length < 17592186044416
          ·
           rw [if_pos c26] at H
           have LMc26 := zq3 c26
           clear c26
           obtain ⟨y118, hy118⟩ : ∃ y_ : List Int, y_ = (x10_2 ++ [t110]) := ⟨_, rfl⟩
           replace H : (weighbridgeref30_Pace.l0 k2 l1 a2 y118 (wrap64 (x11_2 + 1)) a0_0 a0_1 a0_2 a0_3 a0_4 a0_5 t113 t114 t115 t116) = some (r1, r2, r3) := by first | (rw [hy118]; with_reducible exact H) | (have H2_ := (Option.bind_some _ _).symm.trans H; rw [hy118]; with_reducible exact H2_) | (have H2_ := (Option.bind_some _ _).symm.trans H; with_reducible exact H2_) | with_reducible exact H | (rw [hy118]; exact H) | exact H
           have Ny118 := zq3 hy118
           clear hy118
           have H' := zq3 H
           clear H
           try go_wp2
           replace HO_10 := zq3 (Kd.R_drew HO_10.out); replace BK101 := zq3 (zq2 BK101.out); replace BK102 := zq3 (zq2 BK102.out); replace BK108 := zq3 (zq2 BK108.out); replace HB := zq3 (zq8 HB.out)
           have p109 : 0 ≤ (x11_2 : Int) := of_decide_eq_true (by first | (with_reducible assumption) | assumption)
           have q109 : x11_2 < (l1.length : Int) := of_decide_eq_true (by first | (with_reducible assumption) | assumption)
           obtain ⟨ad109, e109, hx109_0⟩ := Kd.at_int HR1.out x11_2 p109 q109
           have hw109_0 := hx109_0
           cases e109
           replace hx109_0 := (HB.out.cell (World.block_lt_of_cell? w _ hx109_0)).trans hx109_0
           replace p109 := eq_true p109
           replace q109 := eq_true q109
           refine start_ (n := 13) (S := fun w' => w'.cell? ⟨gb101, 0, none⟩ = some (.int .i64 a0_0) ∧ w'.cell? ⟨gb101, 1, none⟩ = some (.bool a0_1) ∧ w'.cell? ⟨gb101, 2, none⟩ = some (.int .u64 a0_2) ∧ w'.cell? ⟨gb101, 3, none⟩ = some (.int .u64 a0_3) ∧ w'.cell? ⟨gb101, 4, none⟩ = some (.int .u64 a0_4) ∧ w'.cell? ⟨gb101, 5, none⟩ = some (.int .u64 a0_5) ∧ w'.cell? ⟨gb108, 0, none⟩ = some (.int .u64 x109000_2) ∧ w'.cell? ⟨gb108, 1, none⟩ = some (.int .u64 x109001_2) ∧ w'.cell? ⟨gb108, 2, none⟩ = some (.int .u64 x109002_2) ∧ w'.cell? ⟨gb108, 3, none⟩ = some (.bool x109003_2) ∧ w'.cell? (ad109.add (x11_2).toNat) = some (.int .i64 (rd l1 x11_2))) (ds := []) #[false, false, false, false, false, false, false, false, false, false, false, false, false] (by kernel_rfl) rfl rfl ⟨(zq5 BK101.out 0).trans rfl, (zq5 BK101.out 1).trans rfl, (zq5 BK101.out 2).trans rfl, (zq5 BK101.out 3).trans rfl, (zq5 BK101.out 4).trans rfl, (zq5 BK101.out 5).trans rfl, (zq5 BK108.out 0).trans rfl, (zq5 BK108.out 1).trans rfl, (zq5 BK108.out 2).trans rfl, (zq5 BK108.out 3).trans rfl, ((HB.out.cell (World.block_lt_of_cell? w _ hw109_0)).trans hw109_0)⟩ (fun hHeld => ?_); refine with_tabW weighbridgeref30_Pace.tab10 weighbridgeref30_Pace.bits10 (fun HT_ HW_ => ?_)
           generalize wr.drew = w27 at HO_10 BK101 BK102 BK108 HB hx109_0 hHeld ⊢
           refine pure_ (i := 2) (N := some 39) (v := ?_) (a' := ?_) #[false, false, true, false, false, false, false, false, false, false, false, false, false] rfl rfl (any_of HT_.out (by kernel_rfl)) (fun _ _ _ h => h) (Or.inl ⟨by rfl, ?_⟩) ?_ ?_
           rotate_left
           ·
            intro w'
            go_simp
            with_reducible rfl
           rotate_left
           ·
            simp only [Act.put, List.setIfInBounds_toArray, List.set_cons_zero, List.set_cons_succ, i64_w, i32_w]
            rfl
           refine pure_ (i := 3) (N := some 40) (v := ?_) (a' := ?_) #[false, false, true, true, false, false, false, false, false, false, false, false, false] rfl rfl (any_of HT_.out (by kernel_rfl)) (fun _ _ _ h => h) (Or.inl ⟨by rfl, ?_⟩) ?_ ?_
           rotate_left
           ·
            intro w'
            go_simp
            with_reducible rfl
           rotate_left
           ·
            simp only [Act.put, List.setIfInBounds_toArray, List.set_cons_zero, List.set_cons_succ, i64_w, i32_w]
            rfl
           refine pure_ (i := 4) (N := some 41) (v := ?_) (a' := ?_) #[false, false, true, true, true, false, false, false, false, false, false, false, false] rfl rfl (any_of HT_.out (by kernel_rfl)) (fun _ _ _ h => h) (Or.inl ⟨by rfl, ?_⟩) ?_ ?_
           rotate_left
           ·
            intro w'
            go_simp
            with_reducible rfl
           rotate_left
           ·
            simp only [Act.put, List.setIfInBounds_toArray, List.set_cons_zero, List.set_cons_succ, i64_w, i32_w]
            rfl
           refine pure_ (i := 6) (N := some 43) (v := ?_) (a' := ?_) #[false, false, true, true, true, false, true, false, false, false, false, false, false] rfl rfl (any_of HT_.out (by kernel_rfl)) (fun _ _ _ h => h) (Or.inl ⟨by rfl, ?_⟩) ?_ ?_
           rotate_left
           ·
            intro w'
            go_simp
            with_reducible rfl
           rotate_left
           ·
            simp only [Act.put, List.setIfInBounds_toArray, List.set_cons_zero, List.set_cons_succ, i64_w, i32_w]
            rfl
           refine take_ (i := 0) (N := some 37) (v := ?_) (a' := ?_) #[true, false, true, true, true, false, true, false, false, false, false, false, false] rfl rfl (take_ofW HT_.out HW_.out (by kernel_rfl)) (fun _ _ _ h => h) (Or.inl ⟨by rfl, ?_⟩) hHeld ?_ ?_
           rotate_left
           ·
            rintro w' ⟨s0, s1, s2, s3, s4, s5, s6, s7, s8, s9, s10⟩
            go_simp
            with_reducible rfl
           rotate_left
           ·
            simp only [Act.put, List.setIfInBounds_toArray, List.set_cons_zero, List.set_cons_succ, i64_w, i32_w]
            rfl
           refine take_ (i := 1) (N := some 38) (v := ?_) (a' := ?_) #[true, true, true, true, true, false, true, false, false, false, false, false, false] rfl rfl (take_ofW HT_.out HW_.out (by kernel_rfl)) (fun _ _ _ h => h) (Or.inl ⟨by rfl, ?_⟩) hHeld ?_ ?_
           rotate_left
           ·
            rintro w' ⟨s0, s1, s2, s3, s4, s5, s6, s7, s8, s9, s10⟩
            go_simp
            with_reducible rfl
           rotate_left
           ·
            simp only [Act.put, List.setIfInBounds_toArray, List.set_cons_zero, List.set_cons_succ, i64_w, i32_w]
            rfl
           refine take_ (i := 5) (N := some 42) (v := ?_) (a' := ?_) #[true, true, true, true, true, true, true, false, false, false, false, false, false] rfl rfl (take_ofW HT_.out HW_.out (by kernel_rfl)) (fun _ _ _ h => h) (Or.inl ⟨by rfl, ?_⟩) hHeld ?_ ?_
           rotate_left
           ·
            rintro w' ⟨s0, s1, s2, s3, s4, s5, s6, s7, s8, s9, s10⟩
            go_simp
            with_reducible rfl
           rotate_left
           ·
            simp only [Act.put, List.setIfInBounds_toArray, List.set_cons_zero, List.set_cons_succ, i64_w, i32_w]
            rfl
           refine one_ (i := 7) (N := some 44) #[true, true, true, true, true, true, true, true, false, false, false, false, false] rfl rfl (one_of HT_.out (by kernel_rfl)) (by decide) (fun K hK => ?_)
           refine goes_ Try.func27 (by kernel_rfl) rfl #[.agg #[.int .i64 a0_0, .bool a0_1, .int .u64 a0_2, .int .u64 a0_3, .int .u64 a0_4, .int .u64 a0_5], .agg #[.int .u64 x109000_2, .int .u64 x109001_2, .int .u64 x109002_2, .bool x109003_2], .int .i64 (rd l1 x11_2), .int .i64 a2] (by rfl) rfl rfl (by (try simp only [List.map_toArray, List.map_cons, List.map_nil]); first | done | rfl | (simp only [List.length_drop, List.length_take]; rfl)) ?_
           with_reducible refine (weighbridgeref30_When.calls k2 a0_0 a0_1 a0_2 a0_3 a0_4 a0_5 x109000_2 x109001_2 x109002_2 x109003_2 (rd l1 x11_2) a2 t110 true _ A23.out).mono ?_
           rintro e w28 ⟨rfl, hb⟩
           refine ⟨_, rfl, ?_⟩
           replace HO_10 := zr HO_10 hb; replace BK101 := zs BK101 hb; replace BK102 := zs BK102 hb; replace BK108 := zs BK108 hb; replace HB := zt HB hb
           (try clear hb)
           (try clear hb2)
           (try clear hk)
           (try clear hi)
           refine hK.out _ _ ⟨(zq5 BK101.out 0).trans rfl, (zq5 BK101.out 1).trans rfl, (zq5 BK101.out 2).trans rfl, (zq5 BK101.out 3).trans rfl, (zq5 BK101.out 4).trans rfl, (zq5 BK101.out 5).trans rfl, (zq5 BK108.out 0).trans rfl, (zq5 BK108.out 1).trans rfl, (zq5 BK108.out 2).trans rfl, (zq5 BK108.out 3).trans rfl, ((HB.out.cell (World.block_lt_of_cell? w _ hw109_0)).trans hw109_0)⟩ (fun hHeld => ?_)
           clear hK K
           refine norm_ (a' := ?_) ?_ ?_
           rotate_left
           ·
            show Act.put _ (some 44) _ = _
            simp only [Act.put, List.setIfInBounds_toArray, List.set_cons_zero, List.set_cons_succ, i64_w, i32_w]
            rfl
           refine pure_ (i := 8) (N := some 36) (v := ?_) (a' := ?_) #[true, true, true, true, true, true, true, true, true, false, false, false, false] rfl rfl (any_of HT_.out (by kernel_rfl)) (fun _ _ _ h => h) (Or.inl ⟨by rfl, ?_⟩) ?_ ?_
           rotate_left
           ·
            intro w'
            go_simp
            with_reducible rfl
           rotate_left
           ·
            simp only [Act.put, List.setIfInBounds_toArray, List.set_cons_zero, List.set_cons_succ, i64_w, i32_w]
            rfl
           refine pure_ (i := 9) (N := some 45) (v := ?_) (a' := ?_) #[true, true, true, true, true, true, true, true, true, true, false, false, false] rfl rfl (any_of HT_.out (by kernel_rfl)) (fun _ _ _ h => h) (Or.inl ⟨by rfl, ?_⟩) ?_ ?_
           rotate_left
           ·
            intro w'
            go_simp
            with_reducible rfl
           rotate_left
           ·
            simp only [Act.put, List.setIfInBounds_toArray, List.set_cons_zero, List.set_cons_succ, i64_w, i32_w]
            rfl
           refine pure_ (i := 10) (N := some 46) (v := ?_) (a' := ?_) #[true, true, true, true, true, true, true, true, true, true, true, false, false] rfl rfl (any_of HT_.out (by kernel_rfl)) (fun _ _ _ h => h) (Or.inl ⟨by rfl, ?_⟩) ?_ ?_
           rotate_left
           ·
            intro w'
            go_simp
            with_reducible rfl
           rotate_left
           ·
            simp only [Act.put, List.setIfInBounds_toArray, List.set_cons_zero, List.set_cons_succ, i64_w, i32_w]
            rfl
           refine pure_ (i := 11) (N := some 12) (v := ?_) (a' := ?_) #[true, true, true, true, true, true, true, true, true, true, true, true, false] rfl rfl (any_of HT_.out (by kernel_rfl)) (fun _ _ _ h => h) (Or.inl ⟨by rfl, ?_⟩) ?_ ?_
           rotate_left
           ·
            intro w'
            go_simp
            with_reducible rfl
           rotate_left
           ·
            simp only [Act.put, List.setIfInBounds_toArray, List.set_cons_zero, List.set_cons_succ, i64_w, i32_w]
            rfl
           refine pure_ (i := 12) (N := some 13) (v := ?_) (a' := ?_) #[true, true, true, true, true, true, true, true, true, true, true, true, true] rfl rfl (any_of HT_.out (by kernel_rfl)) (fun _ _ _ h => h) (Or.inl ⟨by rfl, ?_⟩) ?_ ?_
           rotate_left
           ·
            intro w'
            go_simp
            with_reducible rfl
           rotate_left
           ·
            simp only [Act.put, List.setIfInBounds_toArray, List.set_cons_zero, List.set_cons_succ, i64_w, i32_w]
            rfl
           refine done_ (done_of HT_.out (by kernel_rfl)) ?_
           try go_wp2
           replace HO_10 := zq3 (Kd.R_drew HO_10.out); replace BK101 := zq3 (zq2 BK101.out); replace BK102 := zq3 (zq2 BK102.out); replace BK108 := zq3 (zq2 BK108.out); replace HB := zq3 (zq8 HB.out)
           have p112 : 0 ≤ (x11_2 : Int) := of_decide_eq_true (by first | (with_reducible assumption) | assumption)
           have q112 : x11_2 < (l1.length : Int) := of_decide_eq_true (by first | (with_reducible assumption) | assumption)
           obtain ⟨ad112, e112, hx112_0⟩ := Kd.at_int HR1.out x11_2 p112 q112
           have hw112_0 := hx112_0
           obtain rfl : ad109 = ad112 := (by injection e112)
           replace hx112_0 := (HB.out.cell (World.block_lt_of_cell? w _ hx112_0)).trans hx112_0
           replace p112 := eq_true p112
           replace q112 := eq_true q112
           refine start_ (n := 12) (S := fun w' => w'.cell? ⟨gb101, 0, none⟩ = some (.int .i64 a0_0) ∧ w'.cell? ⟨gb101, 1, none⟩ = some (.bool a0_1) ∧ w'.cell? ⟨gb101, 2, none⟩ = some (.int .u64 a0_2) ∧ w'.cell? ⟨gb101, 3, none⟩ = some (.int .u64 a0_3) ∧ w'.cell? ⟨gb101, 4, none⟩ = some (.int .u64 a0_4) ∧ w'.cell? ⟨gb101, 5, none⟩ = some (.int .u64 a0_5) ∧ w'.cell? ⟨gb108, 0, none⟩ = some (.int .u64 x109000_2) ∧ w'.cell? ⟨gb108, 1, none⟩ = some (.int .u64 x109001_2) ∧ w'.cell? ⟨gb108, 2, none⟩ = some (.int .u64 x109002_2) ∧ w'.cell? ⟨gb108, 3, none⟩ = some (.bool x109003_2) ∧ w'.cell? (ad109.add (x11_2).toNat) = some (.int .i64 (rd l1 x11_2))) (ds := [11]) #[false, false, false, false, false, false, false, false, false, false, false, false] (by kernel_rfl) rfl rfl ⟨(zq5 BK101.out 0).trans rfl, (zq5 BK101.out 1).trans rfl, (zq5 BK101.out 2).trans rfl, (zq5 BK101.out 3).trans rfl, (zq5 BK101.out 4).trans rfl, (zq5 BK101.out 5).trans rfl, (zq5 BK108.out 0).trans rfl, (zq5 BK108.out 1).trans rfl, (zq5 BK108.out 2).trans rfl, (zq5 BK108.out 3).trans rfl, ((HB.out.cell (World.block_lt_of_cell? w _ hw112_0)).trans hw112_0)⟩ (fun hHeld => ?_); refine with_tabW weighbridgeref30_Pace.tab13 weighbridgeref30_Pace.bits13 (fun HT_ HW_ => ?_)
           generalize w28.drew = w29 at HO_10 BK101 BK102 BK108 HB hx112_0 hHeld ⊢
           refine pure_ (i := 2) (N := some 54) (v := ?_) (a' := ?_) #[false, false, true, false, false, false, false, false, false, false, false, false] rfl rfl (any_of HT_.out (by kernel_rfl)) (fun _ _ _ h => h) (Or.inl ⟨by rfl, ?_⟩) ?_ ?_
           rotate_left
           ·
            intro w'
            go_simp
            with_reducible rfl
           rotate_left
           ·
            simp only [Act.put, List.setIfInBounds_toArray, List.set_cons_zero, List.set_cons_succ, i64_w, i32_w]
            rfl
           refine pure_ (i := 3) (N := some 55) (v := ?_) (a' := ?_) #[false, false, true, true, false, false, false, false, false, false, false, false] rfl rfl (any_of HT_.out (by kernel_rfl)) (fun _ _ _ h => h) (Or.inl ⟨by rfl, ?_⟩) ?_ ?_
           rotate_left
           ·
            intro w'
            go_simp
            with_reducible rfl
           rotate_left
           ·
            simp only [Act.put, List.setIfInBounds_toArray, List.set_cons_zero, List.set_cons_succ, i64_w, i32_w]
            rfl
           refine pure_ (i := 4) (N := some 56) (v := ?_) (a' := ?_) #[false, false, true, true, true, false, false, false, false, false, false, false] rfl rfl (any_of HT_.out (by kernel_rfl)) (fun _ _ _ h => h) (Or.inl ⟨by rfl, ?_⟩) ?_ ?_
           rotate_left
           ·
            intro w'
            go_simp
            with_reducible rfl
           rotate_left
           ·
            simp only [Act.put, List.setIfInBounds_toArray, List.set_cons_zero, List.set_cons_succ, i64_w, i32_w]
            rfl
           refine pure_ (i := 5) (N := some 57) (v := ?_) (a' := ?_) #[false, false, true, true, true, true, false, false, false, false, false, false] rfl rfl (any_of HT_.out (by kernel_rfl)) (fun _ _ _ h => h) (Or.inl ⟨by rfl, ?_⟩) ?_ ?_
           rotate_left
           ·
            intro w'
            go_simp
            with_reducible rfl
           rotate_left
           ·
            simp only [Act.put, List.setIfInBounds_toArray, List.set_cons_zero, List.set_cons_succ, i64_w, i32_w]
            rfl
           refine take_ (i := 0) (N := some 52) (v := ?_) (a' := ?_) #[true, false, true, true, true, true, false, false, false, false, false, false] rfl rfl (take_ofW HT_.out HW_.out (by kernel_rfl)) (fun _ _ _ h => h) (Or.inl ⟨by rfl, ?_⟩) hHeld ?_ ?_
           rotate_left
           ·
            rintro w' ⟨s0, s1, s2, s3, s4, s5, s6, s7, s8, s9, s10⟩
            go_simp
            with_reducible rfl
           rotate_left
           ·
            simp only [Act.put, List.setIfInBounds_toArray, List.set_cons_zero, List.set_cons_succ, i64_w, i32_w]
            rfl
           refine take_ (i := 1) (N := some 53) (v := ?_) (a' := ?_) #[true, true, true, true, true, true, false, false, false, false, false, false] rfl rfl (take_ofW HT_.out HW_.out (by kernel_rfl)) (fun _ _ _ h => h) (Or.inl ⟨by rfl, ?_⟩) hHeld ?_ ?_
           rotate_left
           ·
            rintro w' ⟨s0, s1, s2, s3, s4, s5, s6, s7, s8, s9, s10⟩
            go_simp
            with_reducible rfl
           rotate_left
           ·
            simp only [Act.put, List.setIfInBounds_toArray, List.set_cons_zero, List.set_cons_succ, i64_w, i32_w]
            rfl
           refine take_ (i := 6) (N := some 58) (v := ?_) (a' := ?_) #[true, true, true, true, true, true, true, false, false, false, false, false] rfl rfl (take_ofW HT_.out HW_.out (by kernel_rfl)) (fun _ _ _ h => h) (Or.inl ⟨by rfl, ?_⟩) hHeld ?_ ?_
           rotate_left
           ·
            rintro w' ⟨s0, s1, s2, s3, s4, s5, s6, s7, s8, s9, s10⟩
            go_simp
            with_reducible rfl
           rotate_left
           ·
            simp only [Act.put, List.setIfInBounds_toArray, List.set_cons_zero, List.set_cons_succ, i64_w, i32_w]
            rfl
           refine one_ (i := 7) (N := some 59) #[true, true, true, true, true, true, true, true, false, false, false, false] rfl rfl (one_of HT_.out (by kernel_rfl)) (by decide) (fun K hK => ?_)
           refine goes_ Try.func64 (by kernel_rfl) rfl #[.agg #[.int .i64 a0_0, .bool a0_1, .int .u64 a0_2, .int .u64 a0_3, .int .u64 a0_4, .int .u64 a0_5], .agg #[.int .u64 x109000_2, .int .u64 x109001_2, .int .u64 x109002_2, .bool x109003_2], .int .u64 t110, .int .i64 (rd l1 x11_2), .int .i64 0] (by rfl) rfl rfl (by (try simp only [List.map_toArray, List.map_cons, List.map_nil]); first | done | rfl | (simp only [List.length_drop, List.length_take]; rfl)) ?_
           with_reducible refine (weighbridgeref28_Step.calls k2 a0_0 a0_1 a0_2 a0_3 a0_4 a0_5 x109000_2 x109001_2 x109002_2 x109003_2 t110 (rd l1 x11_2) 0 t113 t114 t115 t116 t117 _ A25.out).mono ?_
           rintro e w30 ⟨rfl, hb⟩
           refine ⟨_, rfl, ?_⟩
           replace HO_10 := zr HO_10 hb; replace BK101 := zs BK101 hb; replace BK102 := zs BK102 hb; replace BK108 := zs BK108 hb; replace HB := zt HB hb
           (try clear hb)
           (try clear hb2)
           (try clear hk)
           (try clear hi)
           refine hK.out _ _ ⟨(zq5 BK101.out 0).trans rfl, (zq5 BK101.out 1).trans rfl, (zq5 BK101.out 2).trans rfl, (zq5 BK101.out 3).trans rfl, (zq5 BK101.out 4).trans rfl, (zq5 BK101.out 5).trans rfl, (zq5 BK108.out 0).trans rfl, (zq5 BK108.out 1).trans rfl, (zq5 BK108.out 2).trans rfl, (zq5 BK108.out 3).trans rfl, ((HB.out.cell (World.block_lt_of_cell? w _ hw112_0)).trans hw112_0)⟩ (fun hHeld => ?_)
           clear hK K
           refine norm_ (a' := ?_) ?_ ?_
           rotate_left
           ·
            show Act.put _ (some 59) _ = _
            simp only [Act.put, List.setIfInBounds_toArray, List.set_cons_zero, List.set_cons_succ, i64_w, i32_w]
            rfl
           refine pure_ (i := 8) (N := some 51) (v := ?_) (a' := ?_) #[true, true, true, true, true, true, true, true, true, false, false, false] rfl rfl (any_of HT_.out (by kernel_rfl)) (fun _ _ _ h => h) (Or.inl ⟨by rfl, ?_⟩) ?_ ?_
           rotate_left
           ·
            intro w'
            go_simp
            with_reducible rfl
           rotate_left
           ·
            simp only [Act.put, List.setIfInBounds_toArray, List.set_cons_zero, List.set_cons_succ, i64_w, i32_w]
            rfl
           refine pure_ (i := 9) (N := some 60) (v := ?_) (a' := ?_) #[true, true, true, true, true, true, true, true, true, true, false, false] rfl rfl (any_of HT_.out (by kernel_rfl)) (fun _ _ _ h => h) (Or.inl ⟨by rfl, ?_⟩) ?_ ?_
           rotate_left
           ·
            intro w'
            go_simp
            with_reducible rfl
           rotate_left
           ·
            simp only [Act.put, List.setIfInBounds_toArray, List.set_cons_zero, List.set_cons_succ, i64_w, i32_w]
            rfl
           refine pure_ (i := 10) (N := some 61) (v := ?_) (a' := ?_) #[true, true, true, true, true, true, true, true, true, true, true, false] rfl rfl (any_of HT_.out (by kernel_rfl)) (fun _ _ _ h => h) (Or.inl ⟨by rfl, ?_⟩) ?_ ?_
           rotate_left
           ·
            intro w'
            go_simp
            with_reducible rfl
           rotate_left
           ·
            simp only [Act.put, List.setIfInBounds_toArray, List.set_cons_zero, List.set_cons_succ, i64_w, i32_w]
            rfl
           refine last_ (i := 11) (N := none) #[true, true, true, true, true, true, true, true, true, true, true, true] rfl rfl (one_of HT_.out (by kernel_rfl)) (by decide) (fun K hK => ?_)
           have hs31 : w30.cell? ⟨gb108, 0, none⟩ = some (.int .u64 x109000_2) := (zq5 BK108.out 0).trans rfl
           have hfs31 := zq4 BK108.out 0
           have hns31_0 := NB101_108.out
           have hns31_1 := NB102_108.out
           have hms31_0 := NB108_101.out
           have hms31_1 := NB108_102.out
           have hs32 : w30.cell? ⟨gb108, 1, none⟩ = some (.int .u64 x109001_2) := (zq5 BK108.out 1).trans rfl
           have hfs32 := zq4 BK108.out 1
           have hns32_0 := NB101_108.out
           have hns32_1 := NB102_108.out
           have hms32_0 := NB108_101.out
           have hms32_1 := NB108_102.out
           have hs33 : w30.cell? ⟨gb108, 2, none⟩ = some (.int .u64 x109002_2) := (zq5 BK108.out 2).trans rfl
           have hfs33 := zq4 BK108.out 2
           have hns33_0 := NB101_108.out
           have hns33_1 := NB102_108.out
           have hms33_0 := NB108_101.out
           have hms33_1 := NB108_102.out
           have hs34 : w30.cell? ⟨gb108, 3, none⟩ = some (.bool x109003_2) := (zq5 BK108.out 3).trans rfl
           have hfs34 := zq4 BK108.out 3
           have hns34_0 := NB101_108.out
           have hns34_1 := NB102_108.out
           have hms34_0 := NB108_101.out
           have hms34_1 := NB108_102.out
           refine skip_ (w1 := ?_) (by rfl) rfl ?_ ?_
           rotate_left
           ·
            go_simp
            rfl
           refine hK.out _ _ ?_
           clear hK K
           refine done_ (done_of HT_.out (by kernel_rfl)) ?_
           try go_wp2_with (first | ((with_reducible refine gate_builtin (b := .append) (xs := #[.tmp 62, .tmp 64]) rfl ?_); at_builtin; refine Kd.R_append (Kd.int .u64) (w0 := w) w.heap.size rfl (.tmp 62) (.tmp 64) 57 23 (.int .u64 0) 8 rfl Try.underlying57 info23 rfl (by decide) (by omega) u10 x10_2 t110 [.int .u64 t110] (fun _ => True) (fun _ => False) rfl (by first | (go_simp; done) | (go_simp; rfl)) ?aP (fun _ hk => hk.elim) ?aF ?aO ?aB ?aS ?aL ?_; (case aP => exact rfl); (case aB => exact (zh HB)); (case aF => exact (fun _ _ => trivial)); (case aO => exact (by (with_reducible repeat (first | apply Kd.R_alloc | apply Kd.R_drewN | apply Kd.R_drew)); exact Kd.R_mono (Kd.R_far (p := ⟨gb108, 3, none⟩) (Kd.R_far (p := ⟨gb108, 2, none⟩) (Kd.R_far (p := ⟨gb108, 1, none⟩) (Kd.R_far (p := ⟨gb108, 0, none⟩) (Kd.R_types HO_10.out BK108.out (by decide)) (fun _ hk => hk.2) (.int .u64 t113)) (fun _ hk => hk.2) (.int .u64 t114)) (fun _ hk => hk.2) (.int .u64 t115)) (fun _ hk => hk.2) (.bool t116)) (fun _ hk => trivial))); (case aS => exact (below_size (zh HB))); (case aL => have := LMc26.out; omega); intro v119 w35 ho hb hg hat; rw [← Ny118.out] at ho; have HO120 := zq3 (ho); replace BK101 := zq3 (blk_grown (g := gb101) (o := .cells #[.int .i64 a0_0, .bool a0_1, .int .u64 a0_2, .int .u64 a0_3, .int .u64 a0_4, .int .u64 a0_5] 49 (0, 0)) (zw BK101) hg (Kd.R_ne HO_10.out BK101.out (by decide))); replace BK102 := zq3 (blk_grown (g := gb102) (o := .cells #[.int .i64 x103000_2, .int .i64 x103001_2] 26 (0, 0)) (zw BK102) hg (Kd.R_ne HO_10.out BK102.out (by decide))); replace BK108 := zq3 (blk_grown (g := gb108) (o := .cells #[.int .u64 t113, .int .u64 t114, .int .u64 t115, .bool t116] 51 (0, 0)) (zw4 BK108) hg (Kd.R_ne HO_10.out BK108.out (by decide))); replace HB := zq3 (hb); clear HO_10; clear ho hb hg hat))
           go_roundg k2
           case measure => have := HJ5.out; have := HK2.out; omega
           case rel => exact ⟨(y118), (wrap64 (x11_2 + 1)), (x103000_2), (x103001_2), (t113), (t114), (t115), (t116), (by first | rfl | (simp; done) | (simp [*]; done)), H', ⟨by have := HJ5.out; have := HK2.out; omega⟩, ⟨by (with_reducible repeat (first | apply Kd.R_alloc | apply Kd.R_drewN | apply Kd.R_drew)); exact HO120.out⟩, ⟨zw BK101⟩, ⟨zw BK102⟩, ⟨zw BK108⟩, ⟨zh HB⟩⟩
          ·
           rw [if_neg c26] at H
           exact absurd H (by simp)
         ·
          replace c24 := Bool.eq_false_iff.mpr c24
          subst c24
          have H1 : (some (([] : List Int), 8, x11_2)) = some (r1, r2, r3) := by rw [if_neg (show ¬ (false = true) by decide)] at H; exact H
          clear H
          have H := H1
          clear H1
          simp only [Option.some.injEq, Prod.mk.injEq] at H
          obtain ⟨rfl, rfl, rfl⟩ := H
          try go_wp2
          replace HO_10 := zq3 (Kd.R_drew HO_10.out); replace BK101 := zq3 (zq2 BK101.out); replace BK102 := zq3 (zq2 BK102.out); replace BK108 := zq3 (zq2 BK108.out); replace HB := zq3 (zq8 HB.out)
          have p109 : 0 ≤ (x11_2 : Int) := of_decide_eq_true (by first | (with_reducible assumption) | assumption)
          have q109 : x11_2 < (l1.length : Int) := of_decide_eq_true (by first | (with_reducible assumption) | assumption)
          obtain ⟨ad109, e109, hx109_0⟩ := Kd.at_int HR1.out x11_2 p109 q109
          have hw109_0 := hx109_0
          cases e109
          replace hx109_0 := (HB.out.cell (World.block_lt_of_cell? w _ hx109_0)).trans hx109_0
          replace p109 := eq_true p109
          replace q109 := eq_true q109
          refine start_ (n := 13) (S := fun w' => w'.cell? ⟨gb101, 0, none⟩ = some (.int .i64 a0_0) ∧ w'.cell? ⟨gb101, 1, none⟩ = some (.bool a0_1) ∧ w'.cell? ⟨gb101, 2, none⟩ = some (.int .u64 a0_2) ∧ w'.cell? ⟨gb101, 3, none⟩ = some (.int .u64 a0_3) ∧ w'.cell? ⟨gb101, 4, none⟩ = some (.int .u64 a0_4) ∧ w'.cell? ⟨gb101, 5, none⟩ = some (.int .u64 a0_5) ∧ w'.cell? ⟨gb108, 0, none⟩ = some (.int .u64 x109000_2) ∧ w'.cell? ⟨gb108, 1, none⟩ = some (.int .u64 x109001_2) ∧ w'.cell? ⟨gb108, 2, none⟩ = some (.int .u64 x109002_2) ∧ w'.cell? ⟨gb108, 3, none⟩ = some (.bool x109003_2) ∧ w'.cell? (ad109.add (x11_2).toNat) = some (.int .i64 (rd l1 x11_2))) (ds := []) #[false, false, false, false, false, false, false, false, false, false, false, false, false] (by kernel_rfl) rfl rfl ⟨(zq5 BK101.out 0).trans rfl, (zq5 BK101.out 1).trans rfl, (zq5 BK101.out 2).trans rfl, (zq5 BK101.out 3).trans rfl, (zq5 BK101.out 4).trans rfl, (zq5 BK101.out 5).trans rfl, (zq5 BK108.out 0).trans rfl, (zq5 BK108.out 1).trans rfl, (zq5 BK108.out 2).trans rfl, (zq5 BK108.out 3).trans rfl, ((HB.out.cell (World.block_lt_of_cell? w _ hw109_0)).trans hw109_0)⟩ (fun hHeld => ?_); refine with_tabW weighbridgeref30_Pace.tab10 weighbridgeref30_Pace.bits10 (fun HT_ HW_ => ?_)
          generalize wr.drew = w36 at HO_10 BK101 BK102 BK108 HB hx109_0 hHeld ⊢
          refine pure_ (i := 2) (N := some 39) (v := ?_) (a' := ?_) #[false, false, true, false, false, false, false, false, false, false, false, false, false] rfl rfl (any_of HT_.out (by kernel_rfl)) (fun _ _ _ h => h) (Or.inl ⟨by rfl, ?_⟩) ?_ ?_
          rotate_left
          ·
           intro w'
           go_simp
           with_reducible rfl
          rotate_left
          ·
           simp only [Act.put, List.setIfInBounds_toArray, List.set_cons_zero, List.set_cons_succ, i64_w, i32_w]
           rfl
          refine pure_ (i := 3) (N := some 40) (v := ?_) (a' := ?_) #[false, false, true, true, false, false, false, false, false, false, false, false, false] rfl rfl (any_of HT_.out (by kernel_rfl)) (fun _ _ _ h => h) (Or.inl ⟨by rfl, ?_⟩) ?_ ?_
          rotate_left
          ·
           intro w'
           go_simp
           with_reducible rfl
          rotate_left
          ·
           simp only [Act.put, List.setIfInBounds_toArray, List.set_cons_zero, List.set_cons_succ, i64_w, i32_w]
           rfl
          refine pure_ (i := 4) (N := some 41) (v := ?_) (a' := ?_) #[false, false, true, true, true, false, false, false, false, false, false, false, false] rfl rfl (any_of HT_.out (by kernel_rfl)) (fun _ _ _ h => h) (Or.inl ⟨by rfl, ?_⟩) ?_ ?_
          rotate_left
          ·
           intro w'
           go_simp
           with_reducible rfl
          rotate_left
          ·
           simp only [Act.put, List.setIfInBounds_toArray, List.set_cons_zero, List.set_cons_succ, i64_w, i32_w]
           rfl
          refine pure_ (i := 6) (N := some 43) (v := ?_) (a' := ?_) #[false, false, true, true, true, false, true, false, false, false, false, false, false] rfl rfl (any_of HT_.out (by kernel_rfl)) (fun _ _ _ h => h) (Or.inl ⟨by rfl, ?_⟩) ?_ ?_
          rotate_left
          ·
           intro w'
           go_simp
           with_reducible rfl
          rotate_left
          ·
           simp only [Act.put, List.setIfInBounds_toArray, List.set_cons_zero, List.set_cons_succ, i64_w, i32_w]
           rfl
          refine take_ (i := 0) (N := some 37) (v := ?_) (a' := ?_) #[true, false, true, true, true, false, true, false, false, false, false, false, false] rfl rfl (take_ofW HT_.out HW_.out (by kernel_rfl)) (fun _ _ _ h => h) (Or.inl ⟨by rfl, ?_⟩) hHeld ?_ ?_
          rotate_left
          ·
           rintro w' ⟨s0, s1, s2, s3, s4, s5, s6, s7, s8, s9, s10⟩
           go_simp
           with_reducible rfl
          rotate_left
          ·
           simp only [Act.put, List.setIfInBounds_toArray, List.set_cons_zero, List.set_cons_succ, i64_w, i32_w]
           rfl
          refine take_ (i := 1) (N := some 38) (v := ?_) (a' := ?_) #[true, true, true, true, true, false, true, false, false, false, false, false, false] rfl rfl (take_ofW HT_.out HW_.out (by kernel_rfl)) (fun _ _ _ h => h) (Or.inl ⟨by rfl, ?_⟩) hHeld ?_ ?_
          rotate_left
          ·
           rintro w' ⟨s0, s1, s2, s3, s4, s5, s6, s7, s8, s9, s10⟩
           go_simp
           with_reducible rfl
          rotate_left
          ·
           simp only [Act.put, List.setIfInBounds_toArray, List.set_cons_zero, List.set_cons_succ, i64_w, i32_w]
           rfl
          refine take_ (i := 5) (N := some 42) (v := ?_) (a' := ?_) #[true, true, true, true, true, true, true, false, false, false, false, false, false] rfl rfl (take_ofW HT_.out HW_.out (by kernel_rfl)) (fun _ _ _ h => h) (Or.inl ⟨by rfl, ?_⟩) hHeld ?_ ?_
          rotate_left
          ·
           rintro w' ⟨s0, s1, s2, s3, s4, s5, s6, s7, s8, s9, s10⟩
           go_simp
           with_reducible rfl
          rotate_left
          ·
           simp only [Act.put, List.setIfInBounds_toArray, List.set_cons_zero, List.set_cons_succ, i64_w, i32_w]
           rfl
          refine one_ (i := 7) (N := some 44) #[true, true, true, true, true, true, true, true, false, false, false, false, false] rfl rfl (one_of HT_.out (by kernel_rfl)) (by decide) (fun K hK => ?_)
          refine goes_ Try.func27 (by kernel_rfl) rfl #[.agg #[.int .i64 a0_0, .bool a0_1, .int .u64 a0_2, .int .u64 a0_3, .int .u64 a0_4, .int .u64 a0_5], .agg #[.int .u64 x109000_2, .int .u64 x109001_2, .int .u64 x109002_2, .bool x109003_2], .int .i64 (rd l1 x11_2), .int .i64 a2] (by rfl) rfl rfl (by (try simp only [List.map_toArray, List.map_cons, List.map_nil]); first | done | rfl | (simp only [List.length_drop, List.length_take]; rfl)) ?_
          with_reducible refine (weighbridgeref30_When.calls k2 a0_0 a0_1 a0_2 a0_3 a0_4 a0_5 x109000_2 x109001_2 x109002_2 x109003_2 (rd l1 x11_2) a2 t110 false _ A23.out).mono ?_
          rintro e w37 ⟨rfl, hb⟩
          refine ⟨_, rfl, ?_⟩
          replace HO_10 := zr HO_10 hb; replace BK101 := zs BK101 hb; replace BK102 := zs BK102 hb; replace BK108 := zs BK108 hb; replace HB := zt HB hb
          (try clear hb)
          (try clear hb2)
          (try clear hk)
          (try clear hi)
          refine hK.out _ _ ⟨(zq5 BK101.out 0).trans rfl, (zq5 BK101.out 1).trans rfl, (zq5 BK101.out 2).trans rfl, (zq5 BK101.out 3).trans rfl, (zq5 BK101.out 4).trans rfl, (zq5 BK101.out 5).trans rfl, (zq5 BK108.out 0).trans rfl, (zq5 BK108.out 1).trans rfl, (zq5 BK108.out 2).trans rfl, (zq5 BK108.out 3).trans rfl, ((HB.out.cell (World.block_lt_of_cell? w _ hw109_0)).trans hw109_0)⟩ (fun hHeld => ?_)
          clear hK K
          refine norm_ (a' := ?_) ?_ ?_
          rotate_left
          ·
           show Act.put _ (some 44) _ = _
           simp only [Act.put, List.setIfInBounds_toArray, List.set_cons_zero, List.set_cons_succ, i64_w, i32_w]
           rfl
          refine pure_ (i := 8) (N := some 36) (v := ?_) (a' := ?_) #[true, true, true, true, true, true, true, true, true, false, false, false, false] rfl rfl (any_of HT_.out (by kernel_rfl)) (fun _ _ _ h => h) (Or.inl ⟨by rfl, ?_⟩) ?_ ?_
          rotate_left
          ·
           intro w'
           go_simp
           with_reducible rfl
          rotate_left
          ·
           simp only [Act.put, List.setIfInBounds_toArray, List.set_cons_zero, List.set_cons_succ, i64_w, i32_w]
           rfl
          refine pure_ (i := 9) (N := some 45) (v := ?_) (a' := ?_) #[true, true, true, true, true, true, true, true, true, true, false, false, false] rfl rfl (any_of HT_.out (by kernel_rfl)) (fun _ _ _ h => h) (Or.inl ⟨by rfl, ?_⟩) ?_ ?_
          rotate_left
          ·
           intro w'
           go_simp
           with_reducible rfl
          rotate_left
          ·
           simp only [Act.put, List.setIfInBounds_toArray, List.set_cons_zero, List.set_cons_succ, i64_w, i32_w]
           rfl
          refine pure_ (i := 10) (N := some 46) (v := ?_) (a' := ?_) #[true, true, true, true, true, true, true, true, true, true, true, false, false] rfl rfl (any_of HT_.out (by kernel_rfl)) (fun _ _ _ h => h) (Or.inl ⟨by rfl, ?_⟩) ?_ ?_
          rotate_left
          ·
           intro w'
           go_simp
           with_reducible rfl
          rotate_left
          ·
           simp only [Act.put, List.setIfInBounds_toArray, List.set_cons_zero, List.set_cons_succ, i64_w, i32_w]
           rfl
          refine pure_ (i := 11) (N := some 12) (v := ?_) (a' := ?_) #[true, true, true, true, true, true, true, true, true, true, true, true, false] rfl rfl (any_of HT_.out (by kernel_rfl)) (fun _ _ _ h => h) (Or.inl ⟨by rfl, ?_⟩) ?_ ?_
          rotate_left
          ·
           intro w'
           go_simp
           with_reducible rfl
          rotate_left
          ·
           simp only [Act.put, List.setIfInBounds_toArray, List.set_cons_zero, List.set_cons_succ, i64_w, i32_w]
           rfl
          refine pure_ (i := 12) (N := some 13) (v := ?_) (a' := ?_) #[true, true, true, true, true, true, true, true, true, true, true, true, true] rfl rfl (any_of HT_.out (by kernel_rfl)) (fun _ _ _ h => h) (Or.inl ⟨by rfl, ?_⟩) ?_ ?_
          rotate_left
          ·
           intro w'
           go_simp
           with_reducible rfl
          rotate_left
          ·
           simp only [Act.put, List.setIfInBounds_toArray, List.set_cons_zero, List.set_cons_succ, i64_w, i32_w]
           rfl
          refine done_ (done_of HT_.out (by kernel_rfl)) ?_
          have hnb38 := NB102_101.out
          have hnc38 := NB101_102.out
          have hnb39 := NB102_108.out
          have hnc39 := NB108_102.out
          obtain ⟨hc40_0, hc40_1⟩ := zc2 BK102
          obtain ⟨hf40_0, hf40_1⟩ := zf2 BK102
          try go_wp2
          refine bodyPost_ret (results_tc rfl _ _ gb102 26 #[.int .i64 8, .int .i64 x11_2] (0, 0) _ rfl (zw2 BK102) Try.underlying26 rfl (by kernel_rfl)) rfl ?_
          exact ⟨_, by first | rfl | (simp [errW_none, errW_some] <;> rfl) | (simp [*, errW_none, errW_some] <;> rfl), by first | exact Kd.R_nil _ _ _ _ _ | exact Kd.N_nil _ _ _ _ _ | exact Kd.V_nil _ _ _ _ _ | exact Kd.Q_nil _ _ _ _ _ | exact Kd.S_nil _ _ _ _ _, zh HB⟩
        ·
         rw [if_neg c22] at H
         exact absurd H (by simp)
       ·
        rw [if_neg c21] at H
        have c21b0 : decide (x11_2 < (l1.length : Int)) = false := decide_eq_false c21
        clear c21
        simp only [Option.some.injEq, Prod.mk.injEq] at H
        obtain ⟨rfl, rfl, rfl⟩ := H
        have hnb41 := NB102_101.out
        have hnc41 := NB101_102.out
        have hnb42 := NB102_108.out
        have hnc42 := NB108_102.out
        obtain ⟨hc43_0, hc43_1⟩ := zc2 BK102
        obtain ⟨hf43_0, hf43_1⟩ := zf2 BK102
        go_wp2
        refine bodyPost_ret (results_tc rfl _ _ gb102 26 #[.int .i64 0, .int .i64 0] (0, 0) _ rfl (zw2 BK102) Try.underlying26 rfl (by kernel_rfl)) rfl ?_
        exact ⟨_, by first | rfl | (simp [errW_none, errW_some] <;> rfl) | (simp [*, errW_none, errW_some] <;> rfl), by (with_reducible repeat (first | apply Kd.R_alloc | apply Kd.R_drewN | apply Kd.R_drew)); exact Kd.R_mono (Kd.R_far (p := ⟨gb102, 1, none⟩) (Kd.R_far (p := ⟨gb102, 0, none⟩) (Kd.R_types HO_10.out BK102.out (by decide)) (fun _ hk => hk.2) (.int .i64 0)) (fun _ hk => hk.2) (.int .i64 0)) (fun _ hk => trivial), zh HB⟩
 ·
  rw [if_neg c5] at H
  have c5b0 : (t107 == 0) = false := beq_eq_false_iff_ne.mpr c5
  have c5b1 : (t107 != 0) = true := bne_iff_ne.mpr c5
  simp only [Option.some.injEq, Prod.mk.injEq] at H
  obtain ⟨rfl, rfl, rfl⟩ := H
  go_enter Try.func32, Try.ntmps32
  go_wp2_with (first | ((with_reducible refine zd 3 rfl ?_); refine zb 3 #[.int .i64 a0_0, .bool a0_1, .int .u64 a0_2, .int .u64 a0_3, .int .u64 a0_4, .int .u64 a0_5] 49 ?_; intro gb101 hg w44 hbox hb; have BK101 := zq3 (hbox); have GW101 := ze hg HB; have GE101 := GW101; replace HB := zt HB hb; clear hb hbox hg) | ((with_reducible refine zd 7 rfl ?_); refine zb 7 #[.int .i64 0, .int .i64 0] 26 ?_; intro gb102 hg w45 hbox hb; have BK102 := zq3 (hbox); have GW102 := ze hg HB; have GE102 := GW102; have NB101_102 := zl hg BK101; have NB102_101 := zg hg BK101; replace BK101 := zs BK101 hb; replace HB := zt HB hb; clear hb hbox hg; have hnb46 := NB101_102.out; have hnc46 := NB102_101.out; obtain ⟨hc47_0, hc47_1, hc47_2, hc47_3, hc47_4, hc47_5⟩ := zc6 BK101; obtain ⟨hf47_0, hf47_1, hf47_2, hf47_3, hf47_4, hf47_5⟩ := zf6 BK101) | ((with_reducible refine gate_callee (f := 62) rfl ?_); refine zgo (some 16) Try.func62 #[.agg #[.int .i64 a0_0, .bool a0_1, .int .u64 a0_2, .int .u64 a0_3, .int .u64 a0_4, .int .u64 a0_5]] ?_; (with_reducible refine (weighbridgeref28_New.calls k a0_0 a0_1 a0_2 a0_3 a0_4 a0_5 t103 t104 t105 t106 t107 _ A4.out).mono ?_); rintro e w48 ⟨rfl, hb⟩; refine ⟨_, rfl, ?_⟩; replace BK101 := zs BK101 hb; replace BK102 := zs BK102 hb; replace HB := zt HB hb; (try clear hb)) | ((with_reducible refine zd 8 rfl ?_); refine zb 8 #[.int .u64 0, .int .u64 0, .int .u64 0, .bool false] 51 ?_; intro gb108 hg w49 hbox hb; have BK108 := zq3 (hbox); have GW108 := ze hg HB; have GE108 := GW108; have NB101_108 := zl hg BK101; have NB108_101 := zg hg BK101; have NB102_108 := zl hg BK102; have NB108_102 := zg hg BK102; replace BK101 := zs BK101 hb; replace BK102 := zs BK102 hb; replace HB := zt HB hb; clear hb hbox hg; have hnb50 := NB108_101.out; have hnc50 := NB101_108.out; have hnb51 := NB108_102.out; have hnc51 := NB102_108.out; obtain ⟨hc52_0, hc52_1, hc52_2, hc52_3⟩ := zc4 BK108; obtain ⟨hf52_0, hf52_1, hf52_2, hf52_3⟩ := zf4 BK108; obtain ⟨hc53_0, hc53_1⟩ := zc2 BK102; obtain ⟨hf53_0, hf53_1⟩ := zf2 BK102))
  refine bodyPost_ret (results_tc rfl _ _ gb102 26 #[.int .i64 t107, .int .i64 0] (0, 0) _ rfl (zw2 BK102) Try.underlying26 rfl (by kernel_rfl)) rfl ?_
  exact ⟨_, by first | rfl | (simp [errW_none, errW_some] <;> rfl) | (simp [*, errW_none, errW_some] <;> rfl), by first | exact Kd.R_nil _ _ _ _ _ | exact Kd.N_nil _ _ _ _ _ | exact Kd.V_nil _ _ _ _ _ | exact Kd.Q_nil _ _ _ _ _ | exact Kd.S_nil _ _ _ _ _, zh HB⟩

end Go.Proofs.Ytiaoaoebghnpkaa.P
end
section
namespace Go.Proofs.Ytiaoaoebghnpkaa.P
open Go.RowKit Go.Proofs.YtiaoaoebghnpkaaW.PrintWords Go.Proofs.YtiaoaoebghnpkaaW.PrintLast Go.Proofs.YtiaoaoebghnpkaaW.PrintMore
attribute [local go_sem] max2_int min2_int max_two min_two max_three min_three max_four min_four   -- for this text's walks alone
set_option linter.unusedVariables false
set_option linter.unusedSimpArgs false

/-! ### weighbridgeref18_Same: function 65 -/
def weighbridgeref18_Same.l0 : Nat → List Int → List Int → Int → Option (Bool)
 | 0, _, _, _ => none
 | k + 1, x0, x1, x5 => if x5 < (x0.length : Int) then (if 0 ≤ x5 then (if x5 < (x1.length : Int) then (if (rd x0 x5) = (rd x1 x5) then (weighbridgeref18_Same.l0 k x0 x1 (wrap64 (x5 + 1))) else (some false)) else (none)) else (none)) else (some true)
def weighbridgeref18_Same.f (k : Nat) (l0 : List Int) (l1 : List Int) : Option (Bool) := if (l0.length : Int) = (l1.length : Int) then (weighbridgeref18_Same.l0 k l0 l1 0) else (some false)
set_option maxHeartbeats 8000000 in
set_option maxRecDepth 100000 in
theorem weighbridgeref18_Same.calls (k : Nat) (A0 : Option Addr) (c0 : Nat) (l0 : List Int) (A1 : Option Addr) (c1 : Nat) (l1 : List Int) (r : Bool) (w : World) (hr0 : Kd.C (Kd.int .u64) w A0 l0.length l0) (hc0 : l0.length ≤ c0) (hr1 : Kd.C (Kd.int .u64) w A1 l1.length l1) (hc1 : l1.length ≤ c1) (h : weighbridgeref18_Same.f k l0 l1 = some r) :
  Calls Try.prog 65 #[.slice A0 l0.length c0, .slice A1 l1.length c1] w fun e w' => e = .returned (.bool r) ∧ Below w.heap.size w w' := by
 have HR0 := zq3 hr0
 have HC0 := zq3 hc0
 clear hr0 hc0
 have HR1 := zq3 hr1
 have HC1 := zq3 hc1
 clear hr1 hc1
 have HB := zq3 (Below.refl w.heap.size w)
 have H : (if (l0.length : Int) = (l1.length : Int) then (weighbridgeref18_Same.l0 k l0 l1 0) else (some false)) = some r := h
 clear h
 by_cases c3 : (l0.length : Int) = (l1.length : Int)
 ·
  rw [if_pos c3] at H
  have c3b0 : ((l0.length : Int) == (l1.length : Int)) = true := beq_iff_eq.mpr c3
  have c3b1 : ((l0.length : Int) != (l1.length : Int)) = false := bne_eq_false_iff_eq.mpr c3
  have c3b2 : (l0.length == l1.length) = true := by first | simpa using c3 | (simp at c3 ⊢; omega)
  clear c3
  have H' := zq3 H
  clear H
  go_enter Try.func65, Try.ntmps65
  go_wp2
  repeat (go_quiet (fail); try go_wp2)
  go_loopg [5] k (fun kq v5 w' => ∃ (x5_1 : Int), v5 = .int .i64 x5_1 ∧ Aside0 (weighbridgeref18_Same.l0 kq l0 l1 x5_1 = some r) ∧ Aside0 (kq ≤ k) ∧ Aside0 (Below w.heap.size w w'))
  case atStart => exact ⟨(0), (by first | rfl | (simp; done) | (simp [*]; done)), H', ⟨Nat.le_refl _⟩, ⟨zh HB⟩⟩
  case round =>
   clear H'
   (try clear c1); (try clear p2); (try clear c3); (try clear c3b0); (try clear c3b1); (try clear c3b2)
   obtain ⟨x5_1, rfl, HA, HK1, HB⟩ := hrel
   cases gk with
   | zero => exact absurd HA.out (by simp [weighbridgeref18_Same.l0])
   | succ k1 =>
    have H := HA.out
    clear HA
    simp only [weighbridgeref18_Same.l0] at H
    by_cases c4 : x5_1 < (l0.length : Int)
    ·
     rw [if_pos c4] at H
     have c4b0 : decide (x5_1 < (l0.length : Int)) = true := decide_eq_true c4
     clear c4
     by_cases c5 : 0 ≤ x5_1
     ·
      rw [if_pos c5] at H
      have c5b0 : decide (0 ≤ x5_1) = true := decide_eq_true c5
      clear c5
      by_cases c6 : x5_1 < (l1.length : Int)
      ·
       rw [if_pos c6] at H
       have c6b0 : decide (x5_1 < (l1.length : Int)) = true := decide_eq_true c6
       clear c6
       by_cases c7 : (rd l0 x5_1) = (rd l1 x5_1)
       ·
        rw [if_pos c7] at H
        have c7b0 : ((rd l0 x5_1) == (rd l1 x5_1)) = true := beq_iff_eq.mpr c7
        have c7b1 : ((rd l0 x5_1) != (rd l1 x5_1)) = false := bne_eq_false_iff_eq.mpr c7
        clear c7
        have H' := zq3 H
        clear H
        have p101 : 0 ≤ (x5_1 : Int) := of_decide_eq_true (by first | (with_reducible assumption) | assumption)
        have q101 : x5_1 < (l0.length : Int) := of_decide_eq_true (by first | (with_reducible assumption) | assumption)
        obtain ⟨ad101, e101, hx101_0⟩ := Kd.at_int HR0.out x5_1 p101 q101
        cases e101
        replace hx101_0 := (HB.out.cell (World.block_lt_of_cell? w _ hx101_0)).trans hx101_0
        replace p101 := eq_true p101
        replace q101 := eq_true q101
        have p102 : 0 ≤ (x5_1 : Int) := of_decide_eq_true (by first | (with_reducible assumption) | assumption)
        have q102 : x5_1 < (l1.length : Int) := of_decide_eq_true (by first | (with_reducible assumption) | assumption)
        obtain ⟨ad102, e102, hx102_0⟩ := Kd.at_int HR1.out x5_1 p102 q102
        cases e102
        replace hx102_0 := (HB.out.cell (World.block_lt_of_cell? w _ hx102_0)).trans hx102_0
        replace p102 := eq_true p102
        replace q102 := eq_true q102
        go_wp2
        repeat (go_quiet (fail); try go_wp2)
        go_roundg k1
        case measure => have := HK1.out; omega
        case rel => exact ⟨(wrap64 (x5_1 + 1)), (by first | rfl | (simp; done) | (simp [*]; done)), H', ⟨by have := HK1.out; omega⟩, ⟨zh HB⟩⟩
       ·
        rw [if_neg c7] at H
        have c7b0 : ((rd l0 x5_1) == (rd l1 x5_1)) = false := beq_eq_false_iff_ne.mpr c7
        have c7b1 : ((rd l0 x5_1) != (rd l1 x5_1)) = true := bne_iff_ne.mpr c7
        obtain rfl := Option.some.inj H
        have p101 : 0 ≤ (x5_1 : Int) := of_decide_eq_true (by first | (with_reducible assumption) | assumption)
        have q101 : x5_1 < (l0.length : Int) := of_decide_eq_true (by first | (with_reducible assumption) | assumption)
        obtain ⟨ad101, e101, hx101_0⟩ := Kd.at_int HR0.out x5_1 p101 q101
        cases e101
        replace hx101_0 := (HB.out.cell (World.block_lt_of_cell? w _ hx101_0)).trans hx101_0
        replace p101 := eq_true p101
        replace q101 := eq_true q101
        have p102 : 0 ≤ (x5_1 : Int) := of_decide_eq_true (by first | (with_reducible assumption) | assumption)
        have q102 : x5_1 < (l1.length : Int) := of_decide_eq_true (by first | (with_reducible assumption) | assumption)
        obtain ⟨ad102, e102, hx102_0⟩ := Kd.at_int HR1.out x5_1 p102 q102
        cases e102
        replace hx102_0 := (HB.out.cell (World.block_lt_of_cell? w _ hx102_0)).trans hx102_0
        replace p102 := eq_true p102
        replace q102 := eq_true q102
        go_wp2
        repeat (go_quiet (fail); try go_wp2)
        go_ret
        exact ⟨by first | rfl | (simp [errW_none, errW_some] <;> rfl) | (simp [*, errW_none, errW_some] <;> rfl), zh HB⟩
      ·
       rw [if_neg c6] at H
       exact absurd H (by simp)
     ·
      rw [if_neg c5] at H
      exact absurd H (by simp)
    ·
     rw [if_neg c4] at H
     have c4b0 : decide (x5_1 < (l0.length : Int)) = false := decide_eq_false c4
     clear c4
     obtain rfl := Option.some.inj H
     go_wp2
     repeat (go_quiet (fail); try go_wp2)
     go_ret
     exact ⟨by first | rfl | (simp [errW_none, errW_some] <;> rfl) | (simp [*, errW_none, errW_some] <;> rfl), zh HB⟩
 ·
  rw [if_neg c3] at H
  have c3b0 : ((l0.length : Int) == (l1.length : Int)) = false := beq_eq_false_iff_ne.mpr c3
  have c3b1 : ((l0.length : Int) != (l1.length : Int)) = true := bne_iff_ne.mpr c3
  have c3b2 : (l0.length == l1.length) = false := by first | simpa using c3 | (simp at c3 ⊢; omega)
  obtain rfl := Option.some.inj H
  go_enter Try.func65, Try.ntmps65
  go_wp2
  repeat (go_quiet (fail); try go_wp2)
  go_ret
  exact ⟨by first | rfl | (simp [errW_none, errW_some] <;> rfl) | (simp [*, errW_none, errW_some] <;> rfl), zh HB⟩

end Go.Proofs.Ytiaoaoebghnpkaa.P
end
section
namespace Go.Proofs.Ytiaoaoebghnpkaa.P
open Go.RowKit Go.Proofs.YtiaoaoebghnpkaaW.PrintWords Go.Proofs.YtiaoaoebghnpkaaW.PrintLast Go.Proofs.YtiaoaoebghnpkaaW.PrintMore
attribute [local go_sem] max2_int min2_int max_two min_two max_three min_three max_four min_four   -- for this text's walks alone
set_option linter.unusedVariables false
set_option linter.unusedSimpArgs false

/-! ### weighbridgeref25_Same: function 33 -/
def weighbridgeref25_Same.f (k : Nat) (l0 : List Int) (l1 : List Int) : Option (Bool) := (weighbridgeref18_Same.f k l0 l1).bind fun t101 => (some t101)
set_option maxHeartbeats 8000000 in
set_option maxRecDepth 100000 in
theorem weighbridgeref25_Same.calls (k : Nat) (A0 : Option Addr) (c0 : Nat) (l0 : List Int) (A1 : Option Addr) (c1 : Nat) (l1 : List Int) (r : Bool) (w : World) (hr0 : Kd.C (Kd.int .u64) w A0 l0.length l0) (hc0 : l0.length ≤ c0) (hr1 : Kd.C (Kd.int .u64) w A1 l1.length l1) (hc1 : l1.length ≤ c1) (h : weighbridgeref25_Same.f k l0 l1 = some r) :
  Calls Try.prog 33 #[.slice A0 l0.length c0, .slice A1 l1.length c1] w fun e w' => e = .returned (.bool r) ∧ Below w.heap.size w w' := by
 have HR0 := zq3 hr0
 have HC0 := zq3 hc0
 clear hr0 hc0
 have HR1 := zq3 hr1
 have HC1 := zq3 hc1
 clear hr1 hc1
 have HB := zq3 (Below.refl w.heap.size w)
 have H : ((weighbridgeref18_Same.f k l0 l1).bind fun t101 => (some t101)) = some r := h
 clear h
 replace H := Option.bind_eq_some_iff.mp H
 obtain ⟨t101, A30, H⟩ := H
 replace H : (some t101) = some r := H
 have A3 := zq3 A30
 clear A30
 obtain rfl := Option.some.inj H
 go_enter Try.func33, Try.ntmps33
 go_wp2_with (first | ((with_reducible refine gate_callee (f := 65) rfl ?_); refine zgo (some 7) Try.func65 #[.slice A0 l0.length c0, .slice A1 l1.length c1] ?_; (with_reducible refine (weighbridgeref18_Same.calls k _ _ l0 _ _ l1 t101 _ ?side1 ?side2 ?side3 ?side4 A3.out).mono ?_); (case side1 => repeat (first | exact HR0.out | (with_reducible refine Kd.C_alloc ?_ _) | (with_reducible refine Kd.C_drewN ?_ _) | (with_reducible refine Kd.C_drew ?_))); (case side2 => exact HC0.out); (case side3 => repeat (first | exact HR1.out | (with_reducible refine Kd.C_alloc ?_ _) | (with_reducible refine Kd.C_drewN ?_ _) | (with_reducible refine Kd.C_drew ?_))); (case side4 => exact HC1.out); rintro e w4 ⟨rfl, hb⟩; refine ⟨_, rfl, ?_⟩; replace HB := zt HB hb; (try clear hb)))
 go_ret
 exact ⟨by first | rfl | (simp [errW_none, errW_some] <;> rfl) | (simp [*, errW_none, errW_some] <;> rfl), zh HB⟩

end Go.Proofs.Ytiaoaoebghnpkaa.P
end
section
namespace Go.Proofs.Ytiaoaoebghnpkaa.P
open Go.RowKit Go.Proofs.YtiaoaoebghnpkaaW.PrintWords Go.Proofs.YtiaoaoebghnpkaaW.PrintLast Go.Proofs.YtiaoaoebghnpkaaW.PrintMore
attribute [local go_sem] max2_int min2_int max_two min_two max_three min_three max_four min_four   -- for this text's walks alone
set_option linter.unusedVariables false
set_option linter.unusedSimpArgs false

theorem eqA26 (d : Nat) (w : World) (x0 y0 : Int) (x1 y1 : Int) :
    (Op.equalIn (d + 2) 26 (.agg #[.int .i64 x0, .int .i64 x1]) (.agg #[.int .i64 y0, .int .i64 y1])).run Try.prog w = .ok (x0 == y0 && (x1 == y1)) w := by
  refine eqA_of Try.underlying26 (by kernel_rfl) ?_
  refine eqf_cons (by rfl) (by go_simp; rfl) (by go_simp; rfl) (by go_simp) ?_
  exact eqf_last (by rfl) (by go_simp; rfl) (by go_simp; rfl) (by go_simp)
end Go.Proofs.Ytiaoaoebghnpkaa.P
end
