/- Part of the proof. -/
import Derived.Test.YtiaoaoebghnpkaaMT18
import Derived.Test.YtiaoaoebghnpkaaMT19
import Derived.Test.YtiaoaoebghnpkaaMT28
import Derived.Test.YtiaoaoebghnpkaaMT39
import Derived.Test.YtiaoaoebghnpkaaMT43
import Derived.Test.YtiaoaoebghnpkaaMT31
import Derived.Test.YtiaoaoebghnpkaaMT38
import Derived.Test.YtiaoaoebghnpkaaMT44
namespace Go.Proofs.Ytiaoaoebghnpkaa.P
open Go.RowKit Go.Proofs.YtiaoaoebghnpkaaW.PrintWords Go.Proofs.YtiaoaoebghnpkaaW.PrintLast Go.Proofs.YtiaoaoebghnpkaaW.PrintMore
attribute [local go_sem] max2_int min2_int max_two min_two max_three min_three max_four min_four   -- for this text's walks alone
set_option linter.unusedVariables false
set_option linter.unusedSimpArgs false

attribute [local go_sem high] eqA26
/-! ### oTrue: function 8 -/
def oTrue.T11 : Bool × List (List Nat × List Nat) := (true, [([], []), ([], []), ([], []), ([2], [2]), ([3], [3]), ([], []), ([0, 1, 4, 5], [0, 1, 4, 5]), ([6], [6]), ([7], [7]), ([7], [7]), ([8, 6, 0, 1, 2, 3, 4, 5, 6, 7, 8], [8]), ([9, 10, 0, 1, 2, 3, 4, 5, 6, 7, 8, 9, 10], [9])])
def oTrue.B11 : List Nat := [0, 0, 0, 4, 12, 0, 63, 127, 255, 255, 511, 2047]
theorem oTrue.tab11 : rtab .any (opsOf Try.f8 11) = oTrue.T11 := by kernel_rfl
theorem oTrue.bits11 : waitsOk oTrue.T11.2 oTrue.B11 = true := by kernel_rfl
def oTrue.T13 : Bool × List (List Nat × List Nat) := (true, [([], []), ([], []), ([], []), ([2], [2]), ([3], [3]), ([0, 1, 4], [0, 1, 4]), ([5], [5]), ([6], [6]), ([6], [6]), ([], []), ([9, 7, 5, 0, 1, 2, 3, 4, 5, 6, 7, 9], [7, 9]), ([8, 10, 0, 1, 2, 3, 4, 5, 6, 7, 8, 9, 10], [8])])
def oTrue.B13 : List Nat := [0, 0, 0, 4, 12, 31, 63, 127, 127, 0, 767, 2047]
theorem oTrue.tab13 : rtab .any (opsOf Try.f8 13) = oTrue.T13 := by kernel_rfl
theorem oTrue.bits13 : waitsOk oTrue.T13.2 oTrue.B13 = true := by kernel_rfl
def oTrue.T16 : Bool × List (List Nat × List Nat) := (true, [([], []), ([], []), ([], []), ([], []), ([3], [3]), ([4], [4]), ([0, 1, 2, 5], [0, 1, 2, 5]), ([6], [6]), ([7], [7]), ([7], [7]), ([], []), ([10, 8, 6, 0, 1, 2, 3, 4, 5, 6, 7, 8, 10], [8, 10]), ([9, 11, 0, 1, 2, 3, 4, 5, 6, 7, 8, 9, 10, 11], [9])])
def oTrue.B16 : List Nat := [0, 0, 0, 0, 8, 24, 63, 127, 255, 255, 0, 1535, 4095]
theorem oTrue.tab16 : rtab .any (opsOf Try.f8 16) = oTrue.T16 := by kernel_rfl
theorem oTrue.bits16 : waitsOk oTrue.T16.2 oTrue.B16 = true := by kernel_rfl
def oTrue.T20 : Bool × List (List Nat × List Nat) := (true, [([], []), ([], []), ([], []), ([2], [2]), ([], []), ([4], [4]), ([5], [5]), ([0, 1, 3, 6], [0, 1, 3, 6]), ([7], [7]), ([8], [8]), ([8], [8]), ([], []), ([11, 9, 7, 0, 1, 2, 3, 4, 5, 6, 7, 8, 9, 11], [9, 11]), ([10, 12, 0, 1, 2, 3, 4, 5, 6, 7, 8, 9, 10, 11, 12], [10])])
def oTrue.B20 : List Nat := [0, 0, 0, 4, 0, 16, 48, 127, 255, 511, 511, 0, 3071, 8191]
theorem oTrue.tab20 : rtab .any (opsOf Try.f8 20) = oTrue.T20 := by kernel_rfl
theorem oTrue.bits20 : waitsOk oTrue.T20.2 oTrue.B20 = true := by kernel_rfl
def oTrue.T30 : Bool × List (List Nat × List Nat) := (true, [([], []), ([], []), ([], []), ([1, 2], [1, 2]), ([3], [3]), ([], []), ([], []), ([5, 6], [5, 6]), ([7], [7]), ([4, 8], [4, 8]), ([9], [9]), ([0, 10], [0, 10]), ([11, 11, 0, 1, 2, 3, 4, 5, 6, 7, 8, 9, 10, 11], [0, 11])])
def oTrue.B30 : List Nat := [0, 0, 0, 6, 14, 0, 0, 96, 224, 510, 1022, 2047, 4095]
theorem oTrue.tab30 : rtab .any (opsOf Try.f8 30) = oTrue.T30 := by kernel_rfl
theorem oTrue.bits30 : waitsOk oTrue.T30.2 oTrue.B30 = true := by kernel_rfl
def oTrue.T35 : Bool × List (List Nat × List Nat) := (true, [([], []), ([], []), ([0, 1], [0, 1]), ([2], [2]), ([3], [3]), ([4], [4]), ([5], [5]), ([6, 5], [5, 6]), ([7, 5, 5], [5, 7]), ([8], [8]), ([8], [8]), ([9, 10, 8], [8, 9, 10]), ([11, 8], [8, 11]), ([8], [8]), ([8], [8]), ([14, 8], [8, 14]), ([13, 15, 8], [8, 13, 15]), ([16, 8], [8, 16]), ([12, 17, 8], [8, 12, 17]), ([8, 18, 5], [5, 8, 18]), ([5, 19], [5, 19])])
def oTrue.B35 : List Nat := [0, 0, 3, 7, 15, 31, 63, 127, 255, 511, 511, 2047, 4095, 511, 511, 16895, 57855, 123391, 262143, 524287, 1048575]
theorem oTrue.tab35 : rtab .any (opsOf Try.f8 35) = oTrue.T35 := by kernel_rfl
theorem oTrue.bits35 : waitsOk oTrue.T35.2 oTrue.B35 = true := by kernel_rfl
set_option maxHeartbeats 8000000 in
set_option maxRecDepth 100000 in
theorem oTrue.calls (k : Nat) (a0_0 : Int) (a0_1 : Bool) (a0_2 : Int) (a0_3 : Int) (a0_4 : Int) (a0_5 : Int) (a1_0 : Int) (a1_1 : Int) (a1_2 : Int) (a1_3 : Bool) (A2 : Option Addr) (c2 : Nat) (l2 : List Int) (r : Bool) (w : World) (hr2 : Kd.C (Kd.int .u16) w A2 l2.length l2) (hc2 : l2.length ≤ c2) (h : oTrue.f k a0_0 a0_1 a0_2 a0_3 a0_4 a0_5 a1_0 a1_1 a1_2 a1_3 l2 = some r) :
  Calls Try.prog 8 #[.agg #[.int .i64 a0_0, .bool a0_1, .int .u64 a0_2, .int .u64 a0_3, .int .u64 a0_4, .int .u64 a0_5], .agg #[.int .u64 a1_0, .int .u64 a1_1, .int .u64 a1_2, .bool a1_3], .slice A2 l2.length c2] w fun e w' => e = .returned (.bool r) ∧ Below w.heap.size w w' := by
 have hu49 := Try.underlying49
 have hu51 := Try.underlying51
 have hu26 := Try.underlying26
 have hu68 := Try.underlying68
 have HR2 := zq3 hr2
 have HC2 := zq3 hc2
 clear hr2 hc2
 have HB := zq3 (Below.refl w.heap.size w)
 have H : ((meter_Check.f a0_0 a0_1 a0_2 a0_3 a0_4 a0_5).bind fun t103 => (if t103 = 0 then (oTrue.j0 k l2 (decide ((l2.length : Int) > 30)) a0_0 a0_1 a0_2 a0_3 a0_4 a0_5 a1_0 a1_1 a1_2 a1_3) else (oTrue.j0 k l2 true a0_0 a0_1 a0_2 a0_3 a0_4 a0_5 a1_0 a1_1 a1_2 a1_3))) = some r := h
 clear h
 have HC4 := zq3 H
 clear H
 go_enter Try.func8, Try.ntmps8
 go_upto_region 1 with (first | ((with_reducible refine gate_dst (N := 3) rfl ?_); (try (refine gate_guard (by rfl) ?_; dsimp only)); refine box_event ?hg (N := 3) ?hd (cs := #[.int .i64 a0_0, .bool a0_1, .int .u64 a0_2, .int .u64 a0_3, .int .u64 a0_4, .int .u64 a0_5]) (t := 49) ?hr ?_; (case hd => rfl); (case hg => rfl); (case hr => first | (go_simp; done) | (go_simp; rfl)); intro gb101 hg w5 hbox hb; have BK101 := zq3 (hbox); have GW101 := ze hg HB; have GE101 := GW101; replace HB := zt HB hb; clear hb hbox hg) | ((with_reducible refine gate_dst (N := 4) rfl ?_); (try (refine gate_guard (by rfl) ?_; dsimp only)); refine box_event ?hg (N := 4) ?hd (cs := #[.int .u64 a1_0, .int .u64 a1_1, .int .u64 a1_2, .bool a1_3]) (t := 51) ?hr ?_; (case hd => rfl); (case hg => rfl); (case hr => first | (go_simp; done) | (go_simp; rfl)); intro gb102 hg w6 hbox hb; have BK102 := zq3 (hbox); have GW102 := ze hg HB; have GE102 := GW102; have NB101_102 := zl hg BK101; have NB102_101 := zg hg BK101; replace BK101 := zs BK101 hb; replace HB := zt HB hb; clear hb hbox hg))
 (try simp only [Act.put, List.setIfInBounds_toArray, List.set_cons_zero, List.set_cons_succ])
 go_cut [32] (fun v32 wc => ∃ (kq : Nat) (x32_3 : Bool), v32 = .bool x32_3 ∧ Aside0 (oTrue.j0 kq l2 x32_3 a0_0 a0_1 a0_2 a0_3 a0_4 a0_5 a1_0 a1_1 a1_2 a1_3 = some r) ∧ Aside0 (kq ≤ k) ∧ Aside0 (wc.heap[gb101]? = some (.cells #[.int .i64 a0_0, .bool a0_1, .int .u64 a0_2, .int .u64 a0_3, .int .u64 a0_4, .int .u64 a0_5] 49 (0, 0))) ∧ Aside0 (wc.heap[gb102]? = some (.cells #[.int .u64 a1_0, .int .u64 a1_1, .int .u64 a1_2, .bool a1_3] 51 (0, 0))) ∧ Aside0 (Below w.heap.size w wc))
 case first => as_aux_lemma =>
  have H := HC4.out
  clear HC4
  replace H := Option.bind_eq_some_iff.mp H
  obtain ⟨t103, A70, H⟩ := H
  replace H : (if t103 = 0 then (oTrue.j0 k l2 (decide ((l2.length : Int) > 30)) a0_0 a0_1 a0_2 a0_3 a0_4 a0_5 a1_0 a1_1 a1_2 a1_3) else (oTrue.j0 k l2 true a0_0 a0_1 a0_2 a0_3 a0_4 a0_5 a1_0 a1_1 a1_2 a1_3)) = some r := H
  have A7 := zq3 A70
  clear A70
  by_cases c8 : t103 = 0
  ·
   rw [if_pos c8] at H
   have c8b0 : (t103 == 0) = true := beq_iff_eq.mpr c8
   have c8b1 : (t103 != 0) = false := bne_eq_false_iff_eq.mpr c8
   clear c8
   (first | rw [c8b0] | (simp only [i64_w, i32_w]; rw [c8b0]) | skip)
   have H' := zq3 H
   clear H
   have hnb9 := NB101_102.out
   have hnc9 := NB102_101.out
   obtain ⟨hc10_0, hc10_1, hc10_2, hc10_3, hc10_4, hc10_5⟩ := zc6 BK101
   obtain ⟨hf10_0, hf10_1, hf10_2, hf10_3, hf10_4, hf10_5⟩ := zf6 BK101
   go_wp2_with (first | ((with_reducible refine gate_callee (f := 34) rfl ?_); refine zgo (some 26) Try.func34 #[.agg #[.int .i64 a0_0, .bool a0_1, .int .u64 a0_2, .int .u64 a0_3, .int .u64 a0_4, .int .u64 a0_5]] ?_; (with_reducible refine (meter_Check.calls a0_0 a0_1 a0_2 a0_3 a0_4 a0_5 t103 _ A7.out).mono ?_); rintro e w11 ⟨rfl, hb⟩; refine ⟨_, rfl, ?_⟩; replace BK101 := zs BK101 hb; replace BK102 := zs BK102 hb; replace HB := zt HB hb; (try clear hb)))
   go_meet
   case rel => exact ⟨_, (decide ((l2.length : Int) > 30)), (by first | rfl | (simp; done) | (simp [*]; done)), H', ⟨by first | omega | exact Nat.le_refl _⟩, ⟨zw BK101⟩, ⟨zw BK102⟩, ⟨zh HB⟩⟩
  ·
   rw [if_neg c8] at H
   have c8b0 : (t103 == 0) = false := beq_eq_false_iff_ne.mpr c8
   have c8b1 : (t103 != 0) = true := bne_iff_ne.mpr c8
   (first | rw [c8b0] | (simp only [i64_w, i32_w]; rw [c8b0]) | skip)
   have H' := zq3 H
   clear H
   have hnb12 := NB101_102.out
   have hnc12 := NB102_101.out
   obtain ⟨hc13_0, hc13_1, hc13_2, hc13_3, hc13_4, hc13_5⟩ := zc6 BK101
   obtain ⟨hf13_0, hf13_1, hf13_2, hf13_3, hf13_4, hf13_5⟩ := zf6 BK101
   go_wp2_with (first | ((with_reducible refine gate_callee (f := 34) rfl ?_); refine zgo (some 26) Try.func34 #[.agg #[.int .i64 a0_0, .bool a0_1, .int .u64 a0_2, .int .u64 a0_3, .int .u64 a0_4, .int .u64 a0_5]] ?_; (with_reducible refine (meter_Check.calls a0_0 a0_1 a0_2 a0_3 a0_4 a0_5 t103 _ A7.out).mono ?_); rintro e w14 ⟨rfl, hb⟩; refine ⟨_, rfl, ?_⟩; replace BK101 := zs BK101 hb; replace BK102 := zs BK102 hb; replace HB := zt HB hb; (try clear hb)))
   go_meet
   case rel => exact ⟨_, (true), (by first | rfl | (simp; done) | (simp [*]; done)), H', ⟨by first | omega | exact Nat.le_refl _⟩, ⟨zw BK101⟩, ⟨zw BK102⟩, ⟨zh HB⟩⟩
 case rest => as_aux_lemma =>
  clear HC4
  (try clear c1); (try clear c2); (try clear p2); (try clear c3); (try clear c8); (try clear c8b0); (try clear c8b1); (try clear c9); (try clear c12)
  try clear hc10_0 hc10_1 hc10_2 hc10_3 hc10_4 hc10_5 hc13_0 hc13_1 hc13_2 hc13_3 hc13_4 hc13_5 hf10_0 hf10_1 hf10_2 hf10_3 hf10_4 hf10_5 hf13_0 hf13_1 hf13_2 hf13_3 hf13_4 hf13_5
  obtain ⟨kq, x32_3, rfl, HA, HJ3, BK101, BK102, HB⟩ := hcut
  cases kq with
  | zero => exact absurd HA.out (by simp [oTrue.j0])
  | succ kj3 =>
   have H := HA.out
   clear HA
   simp only [oTrue.j0] at H
   by_cases c15 : x32_3 = true
   ·
    subst c15
    have H1 : ((weighbridgelaw30_live.f kj3).bind fun t104 => (some t104)) = some r := by rw [if_pos rfl] at H; exact H
    clear H
    have H := H1
    clear H1
    replace H := Option.bind_eq_some_iff.mp H
    obtain ⟨t104, A160, H⟩ := H
    replace H : (some t104) = some r := H
    have A16 := zq3 A160
    clear A160
    obtain rfl := Option.some.inj H
    go_wp2_with (first | ((with_reducible refine gate_callee (f := 30) rfl ?_); refine zgo (some 33) Try.func30 #[] ?_; (with_reducible refine (weighbridgelaw30_live.calls kj3  t104 _ A16.out).mono ?_); rintro e w17 ⟨rfl, hb⟩; refine ⟨_, rfl, ?_⟩; replace BK101 := zs BK101 hb; replace BK102 := zs BK102 hb; replace HB := zt HB hb; (try clear hb)))
    go_ret
    exact ⟨by first | rfl | (simp [errW_none, errW_some] <;> rfl) | (simp [*, errW_none, errW_some] <;> rfl), zh HB⟩
   ·
    replace c15 := Bool.eq_false_iff.mpr c15
    subst c15
    have H1 : (oTrue.l0 kj3 l2 ([] : List Int) 0 a0_0 a0_1 a0_2 a0_3 a0_4 a0_5 a1_0 a1_1 a1_2 a1_3) = some r := by rw [if_neg (show ¬ (false = true) by decide)] at H; exact H
    clear H
    have H := H1
    clear H1
    have H' := zq3 H
    clear H
    go_wp2
    go_loopg [7, 8] kj3 (fun kq v7 v8 w' => ∃ (x7_2 : List Int) (x8_2 : Int), v8 = .int .i64 x8_2 ∧ Aside0 (oTrue.l0 kq l2 x7_2 x8_2 a0_0 a0_1 a0_2 a0_3 a0_4 a0_5 a1_0 a1_1 a1_2 a1_3 = some r) ∧ Aside0 (kq ≤ kj3) ∧ Aside0 (Kd.R (Kd.int .i64) 3 w' w.heap.size (fun _ => True) v7 x7_2) ∧ Aside0 (w'.heap[gb101]? = some (.cells #[.int .i64 a0_0, .bool a0_1, .int .u64 a0_2, .int .u64 a0_3, .int .u64 a0_4, .int .u64 a0_5] 49 (0, 0))) ∧ Aside0 (w'.heap[gb102]? = some (.cells #[.int .u64 a1_0, .int .u64 a1_1, .int .u64 a1_2, .bool a1_3] 51 (0, 0))) ∧ Aside0 (Below w.heap.size w w'))
    case atStart => exact ⟨(([] : List Int)), (0), (by first | rfl | (simp; done) | (simp [*]; done)), H', ⟨Nat.le_refl _⟩, ⟨by first | exact Kd.R_nil _ _ _ _ _ | exact Kd.N_nil _ _ _ _ _ | exact Kd.V_nil _ _ _ _ _ | exact Kd.Q_nil _ _ _ _ _ | exact Kd.S_nil _ _ _ _ _⟩, ⟨zw BK101⟩, ⟨zw BK102⟩, ⟨zh HB⟩⟩
    case round => as_aux_lemma =>
     clear H'
     (try clear c1); (try clear c2); (try clear p2); (try clear c3); (try clear c8); (try clear c8b0); (try clear c8b1); (try clear c9); (try clear c12); (try clear c15)
     try clear hc10_0 hc10_1 hc10_2 hc10_3 hc10_4 hc10_5 hc13_0 hc13_1 hc13_2 hc13_3 hc13_4 hc13_5 hf10_0 hf10_1 hf10_2 hf10_3 hf10_4 hf10_5 hf13_0 hf13_1 hf13_2 hf13_3 hf13_4 hf13_5
     (try clear p2)
     obtain ⟨x7_2, x8_2, rfl, HA, HK2, HO_7, BK101, BK102, HB⟩ := hrel
     cases gk with
     | zero => exact absurd HA.out (by simp [oTrue.l0])
     | succ k2 =>
      have H := HA.out
      clear HA
      simp only [oTrue.l0] at H
      by_cases c18 : x8_2 < (l2.length : Int)
      ·
       rw [if_pos c18] at H
       have c18b0 : decide (x8_2 < (l2.length : Int)) = true := decide_eq_true c18
       clear c18
       by_cases c19 : 0 ≤ x8_2
       ·
        rw [if_pos c19] at H
        have c19b0 : decide (0 ≤ x8_2) = true := decide_eq_true c19
        clear c19
        by_cases c20 : x7_2.length < 17592186044416
        ·
         rw [if_pos c20] at H
         have LMc20 := zq3 c20
         clear c20
         obtain ⟨y106, hy106⟩ : ∃ y_ : List Int, y_ = (x7_2 ++ [wrap64 (rd l2 x8_2)]) := ⟨_, rfl⟩
         replace H : (oTrue.l0 k2 l2 y106 (wrap64 (x8_2 + 1)) a0_0 a0_1 a0_2 a0_3 a0_4 a0_5 a1_0 a1_1 a1_2 a1_3) = some r := by first | (rw [hy106]; with_reducible exact H) | (have H2_ := (Option.bind_some _ _).symm.trans H; rw [hy106]; with_reducible exact H2_) | (have H2_ := (Option.bind_some _ _).symm.trans H; with_reducible exact H2_) | with_reducible exact H | (rw [hy106]; exact H) | exact H
         have Ny106 := zq3 hy106
         clear hy106
         have H' := zq3 H
         clear H
         have p105 : 0 ≤ (x8_2 : Int) := of_decide_eq_true (by first | (with_reducible assumption) | assumption)
         have q105 : x8_2 < (l2.length : Int) := of_decide_eq_true (by first | (with_reducible assumption) | assumption)
         obtain ⟨ad105, e105, hx105_0⟩ := Kd.at_int HR2.out x8_2 p105 q105
         cases e105
         replace hx105_0 := (HB.out.cell (World.block_lt_of_cell? w _ hx105_0)).trans hx105_0
         replace p105 := eq_true p105
         replace q105 := eq_true q105
         go_wp2_with (first | ((with_reducible refine gate_builtin (b := .append) (xs := #[.tmp 40, .tmp 46]) rfl ?_); (try (refine gate_guard (by rfl) ?_; dsimp only)); at_builtin; refine Kd.R_append (Kd.int .i64) (w0 := w) w.heap.size rfl (.tmp 40) (.tmp 46) 33 3 (.int .i64 0) 8 rfl Try.underlying33 info3 rfl (by decide) (by omega) u7 x7_2 (wrap64 (rd l2 x8_2)) [.int .i64 (wrap64 (rd l2 x8_2))] (fun _ => True) (fun _ => False) rfl rfl ?aP (fun _ hk => hk.elim) ?aF ?aO ?aB ?aS ?aL ?_; (case aP => exact rfl); (case aB => exact (zh HB)); (case aF => exact (fun _ _ => trivial)); (case aO => exact (zo HO_7)); (case aS => exact (below_size (zh HB))); (case aL => have := LMc20.out; omega); intro v107 w21 ho hb hg hat; rw [← Ny106.out] at ho; have HO108 := zq3 (ho); replace BK101 := zq3 (blk_grown (g := gb101) (o := .cells #[.int .i64 a0_0, .bool a0_1, .int .u64 a0_2, .int .u64 a0_3, .int .u64 a0_4, .int .u64 a0_5] 49 (0, 0)) (zw BK101) hg (Kd.R_ne HO_7.out BK101.out (by decide))); replace BK102 := zq3 (blk_grown (g := gb102) (o := .cells #[.int .u64 a1_0, .int .u64 a1_1, .int .u64 a1_2, .bool a1_3] 51 (0, 0)) (zw BK102) hg (Kd.R_ne HO_7.out BK102.out (by decide))); replace HB := zq3 (hb); clear HO_7; clear ho hb hg hat))
         go_roundg k2
         case measure => have := HJ3.out; have := HK2.out; omega
         case rel => exact ⟨(y106), (wrap64 (x8_2 + 1)), (by first | rfl | (simp; done) | (simp [*]; done)), H', ⟨by have := HJ3.out; have := HK2.out; omega⟩, ⟨by (with_reducible repeat (first | apply Kd.R_alloc | apply Kd.R_drewN | apply Kd.R_drew)); exact HO108.out⟩, ⟨zw BK101⟩, ⟨zw BK102⟩, ⟨zh HB⟩⟩
        ·
         rw [if_neg c20] at H
         exact absurd H (by simp)
       ·
        rw [if_neg c19] at H
        exact absurd H (by simp)
      ·
       rw [if_neg c18] at H
       have c18b0 : decide (x8_2 < (l2.length : Int)) = false := decide_eq_false c18
       clear c18
       have H' := zq3 H
       clear H
       go_wp2
       go_loopg [9] k2 (fun kq v9 w' => ∃ (x9_3 : Int), v9 = .int .i64 x9_3 ∧ Aside0 (oTrue.l1 kq x7_2 x9_3 a0_0 a0_1 a0_2 a0_3 a0_4 a0_5 a1_0 a1_1 a1_2 a1_3 = some r) ∧ Aside0 (kq ≤ k2) ∧ Aside0 (Kd.R (Kd.int .i64) 3 w' w.heap.size (fun _ => True) u7 x7_2) ∧ Aside0 (w'.heap[gb101]? = some (.cells #[.int .i64 a0_0, .bool a0_1, .int .u64 a0_2, .int .u64 a0_3, .int .u64 a0_4, .int .u64 a0_5] 49 (0, 0))) ∧ Aside0 (w'.heap[gb102]? = some (.cells #[.int .u64 a1_0, .int .u64 a1_1, .int .u64 a1_2, .bool a1_3] 51 (0, 0))) ∧ Aside0 (Below w.heap.size w w'))
       case atStart => exact ⟨(0), (by first | rfl | (simp; done) | (simp [*]; done)), H', ⟨Nat.le_refl _⟩, ⟨zo HO_7⟩, ⟨zw BK101⟩, ⟨zw BK102⟩, ⟨zh HB⟩⟩
       case round => as_aux_lemma =>
        clear H'
        (try clear c1); (try clear p1); (try clear q1); (try clear hx1); (try clear c2); (try clear p2); (try clear c3); (try clear p6); (try clear c8); (try clear c8b0); (try clear c8b1); (try clear c9); (try clear p10); (try clear q10); (try clear hx10); (try clear c12); (try clear c15); (try clear c18); (try clear c18b0); (try clear c19); (try clear c19b0); (try clear c20)
        try clear hc10_0 hc10_1 hc10_2 hc10_3 hc10_4 hc10_5 hc13_0 hc13_1 hc13_2 hc13_3 hc13_4 hc13_5 hf10_0 hf10_1 hf10_2 hf10_3 hf10_4 hf10_5 hf13_0 hf13_1 hf13_2 hf13_3 hf13_4 hf13_5
        (try clear hx105_0); (try clear p105); (try clear p2); (try clear q105)
        obtain ⟨x9_3, rfl, HA, HK3, HO_7, BK101, BK102, HB⟩ := hrel
        cases gk with
        | zero => exact absurd HA.out (by simp [oTrue.l1])
        | succ k3 =>
         have H := HA.out
         clear HA
         simp only [oTrue.l1] at H
         have HC22 := zq3 H
         clear H
         go_upto_region 9 with (fail)
         go_cut [54] (fun v54 wc => ∃ (kq : Nat) (x54_21 : Bool), v54 = .bool x54_21 ∧ Aside0 (oTrue.j3 kq x7_2 x9_3 x54_21 a0_0 a0_1 a0_2 a0_3 a0_4 a0_5 a1_0 a1_1 a1_2 a1_3 = some r) ∧ Aside0 (kq ≤ k3) ∧ Aside0 (Kd.R (Kd.int .i64) 3 wc w.heap.size (fun _ => True) u7 x7_2) ∧ Aside0 (wc.heap[gb101]? = some (.cells #[.int .i64 a0_0, .bool a0_1, .int .u64 a0_2, .int .u64 a0_3, .int .u64 a0_4, .int .u64 a0_5] 49 (0, 0))) ∧ Aside0 (wc.heap[gb102]? = some (.cells #[.int .u64 a1_0, .int .u64 a1_1, .int .u64 a1_2, .bool a1_3] 51 (0, 0))) ∧ Aside0 (Below w.heap.size w wc))
         case first => as_aux_lemma =>
          have H := HC22.out
          clear HC22
          by_cases c23 : x9_3 ≤ 2
          ·
           rw [if_pos c23] at H
           have c23b0 : decide (x9_3 ≤ 2) = true := decide_eq_true c23
           clear c23
           (first | rw [c23b0] | (simp only [i64_w, i32_w]; rw [c23b0]) | skip)
           have H' := zq3 H
           clear H
           obtain ⟨Ao24, co24, eo24⟩ := Kd.R_slice HO_7.out
           subst eo24
           go_wp2
           go_meet
           case rel => exact ⟨_, (decide ((x7_2.length : Int) > 0)), (by first | rfl | (simp; done) | (simp [*]; done)), H', ⟨by have := HJ3.out; have := HK2.out; have := HK3.out; first | omega | exact Nat.le_refl _⟩, ⟨zo HO_7⟩, ⟨zw BK101⟩, ⟨zw BK102⟩, ⟨zh HB⟩⟩
          ·
           rw [if_neg c23] at H
           have c23b0 : decide (x9_3 ≤ 2) = false := decide_eq_false c23
           clear c23
           (first | rw [c23b0] | (simp only [i64_w, i32_w]; rw [c23b0]) | skip)
           have H' := zq3 H
           clear H
           go_wp2
           go_meet
           case rel => exact ⟨_, (false), (by first | rfl | (simp; done) | (simp [*]; done)), H', ⟨by have := HJ3.out; have := HK2.out; have := HK3.out; first | omega | exact Nat.le_refl _⟩, ⟨zo HO_7⟩, ⟨zw BK101⟩, ⟨zw BK102⟩, ⟨zh HB⟩⟩
         case rest => as_aux_lemma =>
          clear HC22
          (try clear c1); (try clear p1); (try clear q1); (try clear hx1); (try clear c2); (try clear p2); (try clear c3); (try clear p6); (try clear c8); (try clear c8b0); (try clear c8b1); (try clear c9); (try clear p10); (try clear q10); (try clear hx10); (try clear c12); (try clear c15); (try clear c18); (try clear c18b0); (try clear c19); (try clear c19b0); (try clear c20); (try clear c23); (try clear c23b0)
          try clear hc10_0 hc10_1 hc10_2 hc10_3 hc10_4 hc10_5 hc13_0 hc13_1 hc13_2 hc13_3 hc13_4 hc13_5 hf10_0 hf10_1 hf10_2 hf10_3 hf10_4 hf10_5 hf13_0 hf13_1 hf13_2 hf13_3 hf13_4 hf13_5
          (try clear hx105_0); (try clear p1); (try clear p10); (try clear p105); (try clear p2); (try clear p6); (try clear q1); (try clear q10); (try clear q105)
          obtain ⟨kq, x54_21, rfl, HA, HJ21, HO_7, BK101, BK102, HB⟩ := hcut
          cases kq with
          | zero => exact absurd HA.out (by simp [oTrue.j3])
          | succ kj21 =>
           have H := HA.out
           clear HA
           simp only [oTrue.j3] at H
           by_cases c25 : x54_21 = true
           ·
            subst c25
            have H1 : (if 0 < (x7_2.length : Int) then ((outlook_When.f kj21 a0_0 a0_1 a0_2 a0_3 a0_4 a0_5 a1_0 a1_1 a1_2 a1_3 (rd x7_2 0) x9_3).bind fun bt110 => (if bt110.2 = true then ((meter_Step.f a0_0 a0_1 a0_2 a0_3 a0_4 a0_5 a1_0 a1_1 a1_2 a1_3 bt110.1 (rd x7_2 0) 0).bind fun bt120 => (if bt120.2.2.2.2 > x9_3 then (none) else (if a1_3 = true then (if bt110.1 < a1_2 then (none) else (oTrue.j4 kj21 x7_2 x9_3 bt110.1 false a0_0 a0_1 a0_2 a0_3 a0_4 a0_5 a1_0 a1_1 a1_2 a1_3)) else (oTrue.j4 kj21 x7_2 x9_3 bt110.1 (decide (bt110.1 > 0)) a0_0 a0_1 a0_2 a0_3 a0_4 a0_5 a1_0 a1_1 a1_2 a1_3)))) else ((meter_Step.f a0_0 a0_1 a0_2 a0_3 a0_4 a0_5 a1_0 a1_1 a1_2 a1_3 9223372036854775808 (rd x7_2 0) 0).bind fun bt113 => (if bt113.2.2.2.2 ≤ x9_3 then (none) else (oTrue.l1 kj21 x7_2 (wrap64 (x9_3 + 1)) a0_0 a0_1 a0_2 a0_3 a0_4 a0_5 a1_0 a1_1 a1_2 a1_3))))) else (none)) = some r := by rw [if_pos rfl] at H; exact H
            clear H
            have H := H1
            clear H1
            by_cases c26 : 0 < (x7_2.length : Int)
            ·
             rw [if_pos c26] at H
             have c26b0 : decide (0 < (x7_2.length : Int)) = true := decide_eq_true c26
             have c26b1 : decide (0 < x7_2.length) = true := decide_eq_true (by omega)
             clear c26
             replace H := Option.bind_eq_some_iff.mp H
             obtain ⟨⟨t110, t111⟩, A270, H⟩ := H
             replace H : (if t111 = true then ((meter_Step.f a0_0 a0_1 a0_2 a0_3 a0_4 a0_5 a1_0 a1_1 a1_2 a1_3 t110 (rd x7_2 0) 0).bind fun bt120 => (if bt120.2.2.2.2 > x9_3 then (none) else (if a1_3 = true then (if t110 < a1_2 then (none) else (oTrue.j4 kj21 x7_2 x9_3 t110 false a0_0 a0_1 a0_2 a0_3 a0_4 a0_5 a1_0 a1_1 a1_2 a1_3)) else (oTrue.j4 kj21 x7_2 x9_3 t110 (decide (t110 > 0)) a0_0 a0_1 a0_2 a0_3 a0_4 a0_5 a1_0 a1_1 a1_2 a1_3)))) else ((meter_Step.f a0_0 a0_1 a0_2 a0_3 a0_4 a0_5 a1_0 a1_1 a1_2 a1_3 9223372036854775808 (rd x7_2 0) 0).bind fun bt113 => (if bt113.2.2.2.2 ≤ x9_3 then (none) else (oTrue.l1 kj21 x7_2 (wrap64 (x9_3 + 1)) a0_0 a0_1 a0_2 a0_3 a0_4 a0_5 a1_0 a1_1 a1_2 a1_3)))) = some r := H
             have A27 := zq3 A270
             clear A270
             by_cases c28 : t111 = true
             ·
              subst c28
              have H1 : ((meter_Step.f a0_0 a0_1 a0_2 a0_3 a0_4 a0_5 a1_0 a1_1 a1_2 a1_3 t110 (rd x7_2 0) 0).bind fun bt120 => (if bt120.2.2.2.2 > x9_3 then (none) else (if a1_3 = true then (if t110 < a1_2 then (none) else (oTrue.j4 kj21 x7_2 x9_3 t110 false a0_0 a0_1 a0_2 a0_3 a0_4 a0_5 a1_0 a1_1 a1_2 a1_3)) else (oTrue.j4 kj21 x7_2 x9_3 t110 (decide (t110 > 0)) a0_0 a0_1 a0_2 a0_3 a0_4 a0_5 a1_0 a1_1 a1_2 a1_3)))) = some r := by rw [if_pos rfl] at H; exact H
              clear H
              have H := H1
              clear H1
              replace H := Option.bind_eq_some_iff.mp H
              obtain ⟨⟨t120, t121, t122, t123, t124⟩, A290, H⟩ := H
              replace H : (if t124 > x9_3 then (none) else (if a1_3 = true then (if t110 < a1_2 then (none) else (oTrue.j4 kj21 x7_2 x9_3 t110 false a0_0 a0_1 a0_2 a0_3 a0_4 a0_5 a1_0 a1_1 a1_2 a1_3)) else (oTrue.j4 kj21 x7_2 x9_3 t110 (decide (t110 > 0)) a0_0 a0_1 a0_2 a0_3 a0_4 a0_5 a1_0 a1_1 a1_2 a1_3))) = some r := H
              have A29 := zq3 A290
              clear A290
              have HC30 := zq3 H
              clear H
              try go_wp2
              replace HO_7 := zq3 (Kd.R_drew HO_7.out); replace BK101 := zq3 (zq2 BK101.out); replace BK102 := zq3 (zq2 BK102.out); replace HB := zq3 (zq8 HB.out)
              obtain ⟨Ao32, co32, eo32⟩ := Kd.R_slice HO_7.out
              (first | subst eo32 | (injection eo32 with f1_ f2_ f3_; have f4_ := f1_.symm; have f5_ := f3_.symm; clear f1_ f2_ f3_; subst f4_; subst f5_))
              have p109 : 0 ≤ (0 : Int) := (by omega)
              have q109 : 0 < (x7_2.length : Int) := of_decide_eq_true (by first | (with_reducible assumption) | assumption)
              obtain ⟨ad109, e109, hx109_0⟩ := Kd.at_int (Kd.R_reads' HO_7.out).2.2 0 p109 q109
              cases e109
              have qi109 : (0 < x7_2.length) = True := eq_true (by omega)
              (try rw [show ((0 : Int)).toNat = 0 from rfl] at hx109_0)
              (try rw [Addr.add_zero'] at hx109_0)
              replace p109 := eq_true p109
              replace q109 := eq_true q109
              refine start_ (n := 12) (S := fun w' => w'.cell? ⟨gb101, 0, none⟩ = some (.int .i64 a0_0) ∧ w'.cell? ⟨gb101, 1, none⟩ = some (.bool a0_1) ∧ w'.cell? ⟨gb101, 2, none⟩ = some (.int .u64 a0_2) ∧ w'.cell? ⟨gb101, 3, none⟩ = some (.int .u64 a0_3) ∧ w'.cell? ⟨gb101, 4, none⟩ = some (.int .u64 a0_4) ∧ w'.cell? ⟨gb101, 5, none⟩ = some (.int .u64 a0_5) ∧ w'.cell? ⟨gb102, 0, none⟩ = some (.int .u64 a1_0) ∧ w'.cell? ⟨gb102, 1, none⟩ = some (.int .u64 a1_1) ∧ w'.cell? ⟨gb102, 2, none⟩ = some (.int .u64 a1_2) ∧ w'.cell? ⟨gb102, 3, none⟩ = some (.bool a1_3) ∧ w'.cell? ad109 = some (.int .i64 (rd x7_2 0))) (ds := []) #[false, false, false, false, false, false, false, false, false, false, false, false] (by kernel_rfl) rfl rfl ⟨(zq5 BK101.out 0).trans rfl, (zq5 BK101.out 1).trans rfl, (zq5 BK101.out 2).trans rfl, (zq5 BK101.out 3).trans rfl, (zq5 BK101.out 4).trans rfl, (zq5 BK101.out 5).trans rfl, (zq5 BK102.out 0).trans rfl, (zq5 BK102.out 1).trans rfl, (zq5 BK102.out 2).trans rfl, (zq5 BK102.out 3).trans rfl, hx109_0⟩ (fun hHeld => ?_); refine with_tabW oTrue.tab11 oTrue.bits11 (fun HT_ HW_ => ?_)
              generalize wc.drew = w31 at HO_7 BK101 BK102 HB hx109_0 hHeld ⊢
              refine pure_ (i := 2) (N := some 60) (v := ?_) (a' := ?_) #[false, false, true, false, false, false, false, false, false, false, false, false] rfl rfl (any_of HT_.out (by kernel_rfl)) (fun _ _ _ h => h) (Or.inl ⟨by rfl, ?_⟩) ?_ ?_
              rotate_left
              ·
               intro w'
               go_simp
               with_reducible rfl
              rotate_left
              ·
               simp only [Act.put, List.setIfInBounds_toArray, List.set_cons_zero, List.set_cons_succ, i64_w, i32_w]
               rfl
              refine pure_ (i := 3) (N := some 61) (v := ?_) (a' := ?_) #[false, false, true, true, false, false, false, false, false, false, false, false] rfl rfl (any_of HT_.out (by kernel_rfl)) (fun _ _ _ h => h) (Or.inl ⟨by rfl, ?_⟩) ?_ ?_
              rotate_left
              ·
               intro w'
               go_simp
               with_reducible rfl
              rotate_left
              ·
               simp only [Act.put, List.setIfInBounds_toArray, List.set_cons_zero, List.set_cons_succ, i64_w, i32_w]
               rfl
              refine pure_ (i := 5) (N := some 63) (v := ?_) (a' := ?_) #[false, false, true, true, false, true, false, false, false, false, false, false] rfl rfl (any_of HT_.out (by kernel_rfl)) (fun _ _ _ h => h) (Or.inl ⟨by rfl, ?_⟩) ?_ ?_
              rotate_left
              ·
               intro w'
               go_simp
               with_reducible rfl
              rotate_left
              ·
               simp only [Act.put, List.setIfInBounds_toArray, List.set_cons_zero, List.set_cons_succ, i64_w, i32_w]
               rfl
              refine take_ (i := 0) (N := some 58) (v := ?_) (a' := ?_) #[true, false, true, true, false, true, false, false, false, false, false, false] rfl rfl (take_ofW HT_.out HW_.out (by kernel_rfl)) (fun _ _ _ h => h) (Or.inl ⟨by rfl, ?_⟩) hHeld ?_ ?_
              rotate_left
              ·
               rintro w' ⟨s0, s1, s2, s3, s4, s5, s6, s7, s8, s9, s10⟩
               go_simp
               with_reducible rfl
              rotate_left
              ·
               simp only [Act.put, List.setIfInBounds_toArray, List.set_cons_zero, List.set_cons_succ, i64_w, i32_w]
               rfl
              refine take_ (i := 1) (N := some 59) (v := ?_) (a' := ?_) #[true, true, true, true, false, true, false, false, false, false, false, false] rfl rfl (take_ofW HT_.out HW_.out (by kernel_rfl)) (fun _ _ _ h => h) (Or.inl ⟨by rfl, ?_⟩) hHeld ?_ ?_
              rotate_left
              ·
               rintro w' ⟨s0, s1, s2, s3, s4, s5, s6, s7, s8, s9, s10⟩
               go_simp
               with_reducible rfl
              rotate_left
              ·
               simp only [Act.put, List.setIfInBounds_toArray, List.set_cons_zero, List.set_cons_succ, i64_w, i32_w]
               rfl
              refine take_ (i := 4) (N := some 62) (v := ?_) (a' := ?_) #[true, true, true, true, true, true, false, false, false, false, false, false] rfl rfl (take_ofW HT_.out HW_.out (by kernel_rfl)) (fun _ _ _ h => h) (Or.inl ⟨by rfl, ?_⟩) hHeld ?_ ?_
              rotate_left
              ·
               rintro w' ⟨s0, s1, s2, s3, s4, s5, s6, s7, s8, s9, s10⟩
               go_simp
               with_reducible rfl
              rotate_left
              ·
               simp only [Act.put, List.setIfInBounds_toArray, List.set_cons_zero, List.set_cons_succ, i64_w, i32_w]
               rfl
              refine one_ (i := 6) (N := some 64) #[true, true, true, true, true, true, true, false, false, false, false, false] rfl rfl (one_of HT_.out (by kernel_rfl)) (by decide) (fun K hK => ?_)
              refine goes_ Try.func26 (by kernel_rfl) rfl #[.agg #[.int .i64 a0_0, .bool a0_1, .int .u64 a0_2, .int .u64 a0_3, .int .u64 a0_4, .int .u64 a0_5], .agg #[.int .u64 a1_0, .int .u64 a1_1, .int .u64 a1_2, .bool a1_3], .int .i64 (rd x7_2 0), .int .i64 x9_3] (by rfl) rfl rfl (by (try simp only [List.map_toArray, List.map_cons, List.map_nil]); first | done | rfl | (simp only [List.length_drop, List.length_take]; rfl)) ?_
              with_reducible refine (outlook_When.calls kj21 a0_0 a0_1 a0_2 a0_3 a0_4 a0_5 a1_0 a1_1 a1_2 a1_3 (rd x7_2 0) x9_3 t110 true _ A27.out).mono ?_
              rintro e w33 ⟨rfl, hb⟩
              have HS10_ := (hb.cell (World.block_lt_of_cell? _ _ (hHeld.2.2.2.2.2.2.2.2.2.2))).trans (hHeld.2.2.2.2.2.2.2.2.2.2)
              refine ⟨_, rfl, ?_⟩
              replace HO_7 := zr HO_7 hb; replace BK101 := zs BK101 hb; replace BK102 := zs BK102 hb; replace HB := zt HB hb
              (try clear hb)
              (try clear hb2)
              (try clear hk)
              (try clear hi)
              refine hK.out _ _ ⟨(zq5 BK101.out 0).trans rfl, (zq5 BK101.out 1).trans rfl, (zq5 BK101.out 2).trans rfl, (zq5 BK101.out 3).trans rfl, (zq5 BK101.out 4).trans rfl, (zq5 BK101.out 5).trans rfl, (zq5 BK102.out 0).trans rfl, (zq5 BK102.out 1).trans rfl, (zq5 BK102.out 2).trans rfl, (zq5 BK102.out 3).trans rfl, HS10_⟩ (fun hHeld => ?_)
              clear hK K
              refine norm_ (a' := ?_) ?_ ?_
              rotate_left
              ·
               show Act.put _ (some 64) _ = _
               simp only [Act.put, List.setIfInBounds_toArray, List.set_cons_zero, List.set_cons_succ, i64_w, i32_w]
               rfl
              refine pure_ (i := 7) (N := some 57) (v := ?_) (a' := ?_) #[true, true, true, true, true, true, true, true, false, false, false, false] rfl rfl (any_of HT_.out (by kernel_rfl)) (fun _ _ _ h => h) (Or.inl ⟨by rfl, ?_⟩) ?_ ?_
              rotate_left
              ·
               intro w'
               go_simp
               with_reducible rfl
              rotate_left
              ·
               simp only [Act.put, List.setIfInBounds_toArray, List.set_cons_zero, List.set_cons_succ, i64_w, i32_w]
               rfl
              refine pure_ (i := 8) (N := some 65) (v := ?_) (a' := ?_) #[true, true, true, true, true, true, true, true, true, false, false, false] rfl rfl (any_of HT_.out (by kernel_rfl)) (fun _ _ _ h => h) (Or.inl ⟨by rfl, ?_⟩) ?_ ?_
              rotate_left
              ·
               intro w'
               go_simp
               with_reducible rfl
              rotate_left
              ·
               simp only [Act.put, List.setIfInBounds_toArray, List.set_cons_zero, List.set_cons_succ, i64_w, i32_w]
               rfl
              refine pure_ (i := 9) (N := some 66) (v := ?_) (a' := ?_) #[true, true, true, true, true, true, true, true, true, true, false, false] rfl rfl (any_of HT_.out (by kernel_rfl)) (fun _ _ _ h => h) (Or.inl ⟨by rfl, ?_⟩) ?_ ?_
              rotate_left
              ·
               intro w'
               go_simp
               with_reducible rfl
              rotate_left
              ·
               simp only [Act.put, List.setIfInBounds_toArray, List.set_cons_zero, List.set_cons_succ, i64_w, i32_w]
               rfl
              refine pure_ (i := 10) (N := some 10) (v := ?_) (a' := ?_) #[true, true, true, true, true, true, true, true, true, true, true, false] rfl rfl (any_of HT_.out (by kernel_rfl)) (fun _ _ _ h => h) (Or.inl ⟨by rfl, ?_⟩) ?_ ?_
              rotate_left
              ·
               intro w'
               go_simp
               with_reducible rfl
              rotate_left
              ·
               simp only [Act.put, List.setIfInBounds_toArray, List.set_cons_zero, List.set_cons_succ, i64_w, i32_w]
               rfl
              refine pure_ (i := 11) (N := some 11) (v := ?_) (a' := ?_) #[true, true, true, true, true, true, true, true, true, true, true, true] rfl rfl (any_of HT_.out (by kernel_rfl)) (fun _ _ _ h => h) (Or.inl ⟨by rfl, ?_⟩) ?_ ?_
              rotate_left
              ·
               intro w'
               go_simp
               with_reducible rfl
              rotate_left
              ·
               simp only [Act.put, List.setIfInBounds_toArray, List.set_cons_zero, List.set_cons_succ, i64_w, i32_w]
               rfl
              refine done_ (done_of HT_.out (by kernel_rfl)) ?_
              try go_wp2
              replace HO_7 := zq3 (Kd.R_drew HO_7.out); replace BK101 := zq3 (zq2 BK101.out); replace BK102 := zq3 (zq2 BK102.out); replace HB := zq3 (zq8 HB.out)
              have p119 : 0 ≤ (0 : Int) := (by omega)
              have q119 : 0 < (x7_2.length : Int) := of_decide_eq_true (by first | (with_reducible assumption) | assumption)
              obtain ⟨ad119, e119, hx119_0⟩ := Kd.at_int (Kd.R_reads' HO_7.out).2.2 0 p119 q119
              obtain rfl : ad109 = ad119 := (by injection e119)
              have qi119 : (0 < x7_2.length) = True := eq_true (by omega)
              (try rw [show ((0 : Int)).toNat = 0 from rfl] at hx119_0)
              (try rw [Addr.add_zero'] at hx119_0)
              replace p119 := eq_true p119
              replace q119 := eq_true q119
              refine start_ (n := 13) (S := fun w' => w'.cell? ⟨gb101, 0, none⟩ = some (.int .i64 a0_0) ∧ w'.cell? ⟨gb101, 1, none⟩ = some (.bool a0_1) ∧ w'.cell? ⟨gb101, 2, none⟩ = some (.int .u64 a0_2) ∧ w'.cell? ⟨gb101, 3, none⟩ = some (.int .u64 a0_3) ∧ w'.cell? ⟨gb101, 4, none⟩ = some (.int .u64 a0_4) ∧ w'.cell? ⟨gb101, 5, none⟩ = some (.int .u64 a0_5) ∧ w'.cell? ⟨gb102, 0, none⟩ = some (.int .u64 a1_0) ∧ w'.cell? ⟨gb102, 1, none⟩ = some (.int .u64 a1_1) ∧ w'.cell? ⟨gb102, 2, none⟩ = some (.int .u64 a1_2) ∧ w'.cell? ⟨gb102, 3, none⟩ = some (.bool a1_3) ∧ w'.cell? ad109 = some (.int .i64 (rd x7_2 0))) (ds := []) #[false, false, false, false, false, false, false, false, false, false, false, false, false] (by kernel_rfl) rfl rfl ⟨(zq5 BK101.out 0).trans rfl, (zq5 BK101.out 1).trans rfl, (zq5 BK101.out 2).trans rfl, (zq5 BK101.out 3).trans rfl, (zq5 BK101.out 4).trans rfl, (zq5 BK101.out 5).trans rfl, (zq5 BK102.out 0).trans rfl, (zq5 BK102.out 1).trans rfl, (zq5 BK102.out 2).trans rfl, (zq5 BK102.out 3).trans rfl, hx119_0⟩ (fun hHeld => ?_); refine with_tabW oTrue.tab16 oTrue.bits16 (fun HT_ HW_ => ?_)
              generalize w33.drew = w34 at HO_7 BK101 BK102 HB hx119_0 hHeld ⊢
              refine pure_ (i := 2) (N := some 84) (v := ?_) (a' := ?_) #[false, false, true, false, false, false, false, false, false, false, false, false, false] rfl rfl (any_of HT_.out (by kernel_rfl)) (fun _ _ _ h => h) (Or.inl ⟨by rfl, ?_⟩) ?_ ?_
              rotate_left
              ·
               intro w'
               go_simp
               with_reducible rfl
              rotate_left
              ·
               simp only [Act.put, List.setIfInBounds_toArray, List.set_cons_zero, List.set_cons_succ, i64_w, i32_w]
               rfl
              refine pure_ (i := 3) (N := some 85) (v := ?_) (a' := ?_) #[false, false, true, true, false, false, false, false, false, false, false, false, false] rfl rfl (any_of HT_.out (by kernel_rfl)) (fun _ _ _ h => h) (Or.inl ⟨by rfl, ?_⟩) ?_ ?_
              rotate_left
              ·
               intro w'
               go_simp
               with_reducible rfl
              rotate_left
              ·
               simp only [Act.put, List.setIfInBounds_toArray, List.set_cons_zero, List.set_cons_succ, i64_w, i32_w]
               rfl
              refine pure_ (i := 4) (N := some 86) (v := ?_) (a' := ?_) #[false, false, true, true, true, false, false, false, false, false, false, false, false] rfl rfl (any_of HT_.out (by kernel_rfl)) (fun _ _ _ h => h) (Or.inl ⟨by rfl, ?_⟩) ?_ ?_
              rotate_left
              ·
               intro w'
               go_simp
               with_reducible rfl
              rotate_left
              ·
               simp only [Act.put, List.setIfInBounds_toArray, List.set_cons_zero, List.set_cons_succ, i64_w, i32_w]
               rfl
              refine take_ (i := 0) (N := some 82) (v := ?_) (a' := ?_) #[true, false, true, true, true, false, false, false, false, false, false, false, false] rfl rfl (take_ofW HT_.out HW_.out (by kernel_rfl)) (fun _ _ _ h => h) (Or.inl ⟨by rfl, ?_⟩) hHeld ?_ ?_
              rotate_left
              ·
               rintro w' ⟨s0, s1, s2, s3, s4, s5, s6, s7, s8, s9, s10⟩
               go_simp
               with_reducible rfl
              rotate_left
              ·
               simp only [Act.put, List.setIfInBounds_toArray, List.set_cons_zero, List.set_cons_succ, i64_w, i32_w]
               rfl
              refine take_ (i := 1) (N := some 83) (v := ?_) (a' := ?_) #[true, true, true, true, true, false, false, false, false, false, false, false, false] rfl rfl (take_ofW HT_.out HW_.out (by kernel_rfl)) (fun _ _ _ h => h) (Or.inl ⟨by rfl, ?_⟩) hHeld ?_ ?_
              rotate_left
              ·
               rintro w' ⟨s0, s1, s2, s3, s4, s5, s6, s7, s8, s9, s10⟩
               go_simp
               with_reducible rfl
              rotate_left
              ·
               simp only [Act.put, List.setIfInBounds_toArray, List.set_cons_zero, List.set_cons_succ, i64_w, i32_w]
               rfl
              refine take_ (i := 5) (N := some 87) (v := ?_) (a' := ?_) #[true, true, true, true, true, true, false, false, false, false, false, false, false] rfl rfl (take_ofW HT_.out HW_.out (by kernel_rfl)) (fun _ _ _ h => h) (Or.inl ⟨by rfl, ?_⟩) hHeld ?_ ?_
              rotate_left
              ·
               rintro w' ⟨s0, s1, s2, s3, s4, s5, s6, s7, s8, s9, s10⟩
               go_simp
               with_reducible rfl
              rotate_left
              ·
               simp only [Act.put, List.setIfInBounds_toArray, List.set_cons_zero, List.set_cons_succ, i64_w, i32_w]
               rfl
              refine join_ (σ := Nat) 2 #[true, true, true, true, true, true, true, true, true, true, true, false, false] (fun s_ => [(88, .tuple #[.agg #[.int .u64 t120, .int .u64 t121, .int .u64 t122, .bool t123], .int .i64 t124]), (14, .pointer (some ⟨s_, 0, none⟩)), (81, .tuple #[.agg #[.int .u64 t120, .int .u64 t121, .int .u64 t122, .bool t123], .int .i64 t124]), (89, .agg #[.int .u64 t120, .int .u64 t121, .int .u64 t122, .bool t123]), (90, .int .i64 t124)]) (fun s_ w' => (w'.cell? ⟨gb101, 0, none⟩ = some (.int .i64 a0_0) ∧ w'.cell? ⟨gb101, 1, none⟩ = some (.bool a0_1) ∧ w'.cell? ⟨gb101, 2, none⟩ = some (.int .u64 a0_2) ∧ w'.cell? ⟨gb101, 3, none⟩ = some (.int .u64 a0_3) ∧ w'.cell? ⟨gb101, 4, none⟩ = some (.int .u64 a0_4) ∧ w'.cell? ⟨gb101, 5, none⟩ = some (.int .u64 a0_5) ∧ w'.cell? ⟨gb102, 0, none⟩ = some (.int .u64 a1_0) ∧ w'.cell? ⟨gb102, 1, none⟩ = some (.int .u64 a1_1) ∧ w'.cell? ⟨gb102, 2, none⟩ = some (.int .u64 a1_2) ∧ w'.cell? ⟨gb102, 3, none⟩ = some (.bool a1_3) ∧ w'.cell? ad109 = some (.int .i64 (rd x7_2 0))) ∧ (Kd.R (Kd.int .i64) 3 w' w.heap.size (fun _ => True) (.slice (some ad109) x7_2.length co32) x7_2) ∧ (w'.heap[gb101]? = some (.cells #[.int .i64 a0_0, .bool a0_1, .int .u64 a0_2, .int .u64 a0_3, .int .u64 a0_4, .int .u64 a0_5] 49 (0, 0))) ∧ (w'.heap[gb102]? = some (.cells #[.int .u64 a1_0, .int .u64 a1_1, .int .u64 a1_2, .bool a1_3] 51 (0, 0))) ∧ (w'.heap[s_]? = some (.cells #[.int .u64 0, .int .u64 0, .int .u64 0, .bool false] 51 (0, 0))) ∧ (w.heap.size ≤ s_) ∧ (w.heap.size ≤ s_) ∧ (gb101 ≠ s_) ∧ (s_ ≠ gb101) ∧ (gb102 ≠ s_) ∧ (s_ ≠ gb102) ∧ (Below w.heap.size w w')) ?_ ?_
              rotate_left
              ·
               intro hCont
               refine two_ (i := 6) (j := 10) (Ni := some 88) (Nj := some 14) #[true, true, true, true, true, true, true, false, false, false, false, false, false] #[true, true, true, true, true, true, false, false, false, false, true, false, false] rfl rfl rfl rfl (two_of HT_.out (by kernel_rfl)) (by decide) (by decide) (fun K hK => ?_) (fun K hK => ?_)
               ·
                skip
                refine goes_ Try.func35 (by kernel_rfl) rfl #[.agg #[.int .i64 a0_0, .bool a0_1, .int .u64 a0_2, .int .u64 a0_3, .int .u64 a0_4, .int .u64 a0_5], .agg #[.int .u64 a1_0, .int .u64 a1_1, .int .u64 a1_2, .bool a1_3], .int .u64 t110, .int .i64 (rd x7_2 0), .int .i64 0] (by rfl) rfl rfl (by (try simp only [List.map_toArray, List.map_cons, List.map_nil]); first | done | rfl | (simp only [List.length_drop, List.length_take]; rfl)) ?_
                with_reducible refine (meter_Step.calls a0_0 a0_1 a0_2 a0_3 a0_4 a0_5 a1_0 a1_1 a1_2 a1_3 t110 (rd x7_2 0) 0 t120 t121 t122 t123 t124 _ A29.out).mono ?_
                rintro e w35 ⟨rfl, hb⟩
                have HS10_ := (hb.cell (World.block_lt_of_cell? _ _ (hHeld.2.2.2.2.2.2.2.2.2.2))).trans (hHeld.2.2.2.2.2.2.2.2.2.2)
                refine ⟨_, rfl, ?_⟩
                replace HO_7 := zr HO_7 hb; replace BK101 := zs BK101 hb; replace BK102 := zs BK102 hb; replace HB := zt HB hb
                (try clear hb)
                (try clear hb2)
                (try clear hk)
                (try clear hi)
                refine hK.out _ _ ⟨(zq5 BK101.out 0).trans rfl, (zq5 BK101.out 1).trans rfl, (zq5 BK101.out 2).trans rfl, (zq5 BK101.out 3).trans rfl, (zq5 BK101.out 4).trans rfl, (zq5 BK101.out 5).trans rfl, (zq5 BK102.out 0).trans rfl, (zq5 BK102.out 1).trans rfl, (zq5 BK102.out 2).trans rfl, (zq5 BK102.out 3).trans rfl, HS10_⟩ (fun hHeld => ?_)
                clear hK K
                refine norm_ (a' := ?_) ?_ ?_
                rotate_left
                ·
                 show Act.put _ (some 88) _ = _
                 simp only [Act.put, List.setIfInBounds_toArray, List.set_cons_zero, List.set_cons_succ, i64_w, i32_w]
                 rfl
                refine pure_ (i := 7) (N := some 81) (v := ?_) (a' := ?_) #[true, true, true, true, true, true, true, true, false, false, false, false, false] rfl rfl (any_of HT_.out (by kernel_rfl)) (fun _ _ _ h => h) (Or.inl ⟨by rfl, ?_⟩) ?_ ?_
                rotate_left
                ·
                 intro w'
                 go_simp
                 with_reducible rfl
                rotate_left
                ·
                 simp only [Act.put, List.setIfInBounds_toArray, List.set_cons_zero, List.set_cons_succ, i64_w, i32_w]
                 rfl
                refine pure_ (i := 8) (N := some 89) (v := ?_) (a' := ?_) #[true, true, true, true, true, true, true, true, true, false, false, false, false] rfl rfl (any_of HT_.out (by kernel_rfl)) (fun _ _ _ h => h) (Or.inl ⟨by rfl, ?_⟩) ?_ ?_
                rotate_left
                ·
                 intro w'
                 go_simp
                 with_reducible rfl
                rotate_left
                ·
                 simp only [Act.put, List.setIfInBounds_toArray, List.set_cons_zero, List.set_cons_succ, i64_w, i32_w]
                 rfl
                refine pure_ (i := 9) (N := some 90) (v := ?_) (a' := ?_) #[true, true, true, true, true, true, true, true, true, true, false, false, false] rfl rfl (any_of HT_.out (by kernel_rfl)) (fun _ _ _ h => h) (Or.inl ⟨by rfl, ?_⟩) ?_ ?_
                rotate_left
                ·
                 intro w'
                 go_simp
                 with_reducible rfl
                rotate_left
                ·
                 simp only [Act.put, List.setIfInBounds_toArray, List.set_cons_zero, List.set_cons_succ, i64_w, i32_w]
                 rfl
                refine one_ (i := 10) (N := some 14) #[true, true, true, true, true, true, true, true, true, true, true, false, false] rfl rfl (one_of HT_.out (by kernel_rfl)) (by decide) (fun K hK => ?_)
                refine box_step ?hg (N := 14) ?hd (cs := #[.int .u64 0, .int .u64 0, .int .u64 0, .bool false]) (t := 51) ?hr ?_; (case hd => rfl); (case hg => rfl); (case hr => first | (go_simp; done) | (go_simp; rfl))
                intro gb125 hg w36 hbox hb
                have HS10_ := (hb.cell (World.block_lt_of_cell? _ _ (hHeld.2.2.2.2.2.2.2.2.2.2))).trans (hHeld.2.2.2.2.2.2.2.2.2.2)
                have BK125 := zq3 (hbox); have GW125 := ze hg HB; have GE125 := GW125; have NB101_125 := zl hg BK101; have NB125_101 := zg hg BK101; have NB102_125 := zl hg BK102; have NB125_102 := zg hg BK102; replace HO_7 := zr HO_7 hb; replace BK101 := zs BK101 hb; replace BK102 := zs BK102 hb; replace HB := zt HB hb
                clear hb hbox hg
                refine hK.out _ _ ⟨(zq5 BK101.out 0).trans rfl, (zq5 BK101.out 1).trans rfl, (zq5 BK101.out 2).trans rfl, (zq5 BK101.out 3).trans rfl, (zq5 BK101.out 4).trans rfl, (zq5 BK101.out 5).trans rfl, (zq5 BK102.out 0).trans rfl, (zq5 BK102.out 1).trans rfl, (zq5 BK102.out 2).trans rfl, (zq5 BK102.out 3).trans rfl, HS10_⟩ (fun hHeld => ?_)
                clear hK K
                refine norm_ (a' := ?_) ?_ ?_
                rotate_left
                ·
                 show Act.put _ (some 14) _ = _
                 simp only [Act.put, List.setIfInBounds_toArray, List.set_cons_zero, List.set_cons_succ, i64_w, i32_w]
                 rfl
                exact norm_ (by simp only [putAll, Act.put, List.setIfInBounds_toArray, List.set_cons_zero, List.set_cons_succ]) (hCont (gb125) _ ⟨hHeld, (zo HO_7), (zw BK101), (zw BK102), (zw BK125), GW125.out, GE125.out, NB101_125.out, NB125_101.out, NB102_125.out, NB125_102.out, (zh HB)⟩)
               ·
                skip
                refine box_step ?hg (N := 14) ?hd (cs := #[.int .u64 0, .int .u64 0, .int .u64 0, .bool false]) (t := 51) ?hr ?_; (case hd => rfl); (case hg => rfl); (case hr => first | (go_simp; done) | (go_simp; rfl))
                intro gb125 hg w35 hbox hb
                have HS10_ := (hb.cell (World.block_lt_of_cell? _ _ (hHeld.2.2.2.2.2.2.2.2.2.2))).trans (hHeld.2.2.2.2.2.2.2.2.2.2)
                have BK125 := zq3 (hbox); have GW125 := ze hg HB; have GE125 := GW125; have NB101_125 := zl hg BK101; have NB125_101 := zg hg BK101; have NB102_125 := zl hg BK102; have NB125_102 := zg hg BK102; replace HO_7 := zr HO_7 hb; replace BK101 := zs BK101 hb; replace BK102 := zs BK102 hb; replace HB := zt HB hb
                clear hb hbox hg
                refine hK.out _ _ ⟨(zq5 BK101.out 0).trans rfl, (zq5 BK101.out 1).trans rfl, (zq5 BK101.out 2).trans rfl, (zq5 BK101.out 3).trans rfl, (zq5 BK101.out 4).trans rfl, (zq5 BK101.out 5).trans rfl, (zq5 BK102.out 0).trans rfl, (zq5 BK102.out 1).trans rfl, (zq5 BK102.out 2).trans rfl, (zq5 BK102.out 3).trans rfl, HS10_⟩ (fun hHeld => ?_)
                clear hK K
                refine norm_ (a' := ?_) ?_ ?_
                rotate_left
                ·
                 show Act.put _ (some 14) _ = _
                 simp only [Act.put, List.setIfInBounds_toArray, List.set_cons_zero, List.set_cons_succ, i64_w, i32_w]
                 rfl
                refine one_ (i := 6) (N := some 88) #[true, true, true, true, true, true, true, false, false, false, true, false, false] rfl rfl (one_of HT_.out (by kernel_rfl)) (by decide) (fun K hK => ?_)
                refine goes_ Try.func35 (by kernel_rfl) rfl #[.agg #[.int .i64 a0_0, .bool a0_1, .int .u64 a0_2, .int .u64 a0_3, .int .u64 a0_4, .int .u64 a0_5], .agg #[.int .u64 a1_0, .int .u64 a1_1, .int .u64 a1_2, .bool a1_3], .int .u64 t110, .int .i64 (rd x7_2 0), .int .i64 0] (by rfl) rfl rfl (by (try simp only [List.map_toArray, List.map_cons, List.map_nil]); first | done | rfl | (simp only [List.length_drop, List.length_take]; rfl)) ?_
                with_reducible refine (meter_Step.calls a0_0 a0_1 a0_2 a0_3 a0_4 a0_5 a1_0 a1_1 a1_2 a1_3 t110 (rd x7_2 0) 0 t120 t121 t122 t123 t124 _ A29.out).mono ?_
                rintro e w36 ⟨rfl, hb⟩
                have HS10_ := (hb.cell (World.block_lt_of_cell? _ _ (hHeld.2.2.2.2.2.2.2.2.2.2))).trans (hHeld.2.2.2.2.2.2.2.2.2.2)
                refine ⟨_, rfl, ?_⟩
                replace HO_7 := zr HO_7 hb; replace BK101 := zs BK101 hb; replace BK102 := zs BK102 hb; replace BK125 := zs BK125 hb; replace HB := zt HB hb
                (try clear hb)
                (try clear hb2)
                (try clear hk)
                (try clear hi)
                refine hK.out _ _ ⟨(zq5 BK101.out 0).trans rfl, (zq5 BK101.out 1).trans rfl, (zq5 BK101.out 2).trans rfl, (zq5 BK101.out 3).trans rfl, (zq5 BK101.out 4).trans rfl, (zq5 BK101.out 5).trans rfl, (zq5 BK102.out 0).trans rfl, (zq5 BK102.out 1).trans rfl, (zq5 BK102.out 2).trans rfl, (zq5 BK102.out 3).trans rfl, HS10_⟩ (fun hHeld => ?_)
                clear hK K
                refine norm_ (a' := ?_) ?_ ?_
                rotate_left
                ·
                 show Act.put _ (some 88) _ = _
                 simp only [Act.put, List.setIfInBounds_toArray, List.set_cons_zero, List.set_cons_succ, i64_w, i32_w]
                 rfl
                refine pure_ (i := 7) (N := some 81) (v := ?_) (a' := ?_) #[true, true, true, true, true, true, true, true, false, false, true, false, false] rfl rfl (any_of HT_.out (by kernel_rfl)) (fun _ _ _ h => h) (Or.inl ⟨by rfl, ?_⟩) ?_ ?_
                rotate_left
                ·
                 intro w'
                 go_simp
                 with_reducible rfl
                rotate_left
                ·
                 simp only [Act.put, List.setIfInBounds_toArray, List.set_cons_zero, List.set_cons_succ, i64_w, i32_w]
                 rfl
                refine pure_ (i := 8) (N := some 89) (v := ?_) (a' := ?_) #[true, true, true, true, true, true, true, true, true, false, true, false, false] rfl rfl (any_of HT_.out (by kernel_rfl)) (fun _ _ _ h => h) (Or.inl ⟨by rfl, ?_⟩) ?_ ?_
                rotate_left
                ·
                 intro w'
                 go_simp
                 with_reducible rfl
                rotate_left
                ·
                 simp only [Act.put, List.setIfInBounds_toArray, List.set_cons_zero, List.set_cons_succ, i64_w, i32_w]
                 rfl
                refine pure_ (i := 9) (N := some 90) (v := ?_) (a' := ?_) #[true, true, true, true, true, true, true, true, true, true, true, false, false] rfl rfl (any_of HT_.out (by kernel_rfl)) (fun _ _ _ h => h) (Or.inl ⟨by rfl, ?_⟩) ?_ ?_
                rotate_left
                ·
                 intro w'
                 go_simp
                 with_reducible rfl
                rotate_left
                ·
                 simp only [Act.put, List.setIfInBounds_toArray, List.set_cons_zero, List.set_cons_succ, i64_w, i32_w]
                 rfl
                exact norm_ (by simp only [putAll, Act.put, List.setIfInBounds_toArray, List.set_cons_zero, List.set_cons_succ]) (hCont (gb125) _ ⟨hHeld, (zo HO_7), (zw BK101), (zw BK102), (zw BK125), GW125.out, GE125.out, NB101_125.out, NB125_101.out, NB102_125.out, NB125_102.out, (zh HB)⟩)
              rintro gb125 w37 ⟨hS_, h0_, h1_, h2_, h3_, h4_, h5_, h6_, h7_, h8_, h9_, h10_⟩
              have n0_ : Aside0 (Kd.R (Kd.int .i64) 3 w37 w.heap.size (fun _ => True) (.slice (some ad109) x7_2.length co32) x7_2) := ⟨h0_⟩
              have n1_ : Aside0 (w37.heap[gb101]? = some (.cells #[.int .i64 a0_0, .bool a0_1, .int .u64 a0_2, .int .u64 a0_3, .int .u64 a0_4, .int .u64 a0_5] 49 (0, 0))) := ⟨h1_⟩
              have n2_ : Aside0 (w37.heap[gb102]? = some (.cells #[.int .u64 a1_0, .int .u64 a1_1, .int .u64 a1_2, .bool a1_3] 51 (0, 0))) := ⟨h2_⟩
              have n3_ : Aside0 (w37.heap[gb125]? = some (.cells #[.int .u64 0, .int .u64 0, .int .u64 0, .bool false] 51 (0, 0))) := ⟨h3_⟩
              have n4_ : Aside0 (w.heap.size ≤ gb125) := ⟨h4_⟩
              have n5_ : Aside0 (w.heap.size ≤ gb125) := ⟨h5_⟩
              have n6_ : Aside0 (gb101 ≠ gb125) := ⟨h6_⟩
              have n7_ : Aside0 (gb125 ≠ gb101) := ⟨h7_⟩
              have n8_ : Aside0 (gb102 ≠ gb125) := ⟨h8_⟩
              have n9_ : Aside0 (gb125 ≠ gb102) := ⟨h9_⟩
              have n10_ : Aside0 (Below w.heap.size w w37) := ⟨h10_⟩
              clear HO_7
              clear BK101
              clear BK102
              clear HB
              clear h0_ h1_ h2_ h3_ h4_ h5_ h6_ h7_ h8_ h9_ h10_
              have HO_7 := n0_
              have BK101 := n1_
              have BK102 := n2_
              have BK125 := n3_
              have GW125 := n4_
              have GE125 := n5_
              have NB101_125 := n6_
              have NB125_101 := n7_
              have NB102_125 := n8_
              have NB125_102 := n9_
              have HB := n10_
              clear n0_ n1_ n2_ n3_ n4_ n5_ n6_ n7_ n8_ n9_ n10_
              have hHeld : w37.cell? ⟨gb101, 0, none⟩ = some (.int .i64 a0_0) ∧ w37.cell? ⟨gb101, 1, none⟩ = some (.bool a0_1) ∧ w37.cell? ⟨gb101, 2, none⟩ = some (.int .u64 a0_2) ∧ w37.cell? ⟨gb101, 3, none⟩ = some (.int .u64 a0_3) ∧ w37.cell? ⟨gb101, 4, none⟩ = some (.int .u64 a0_4) ∧ w37.cell? ⟨gb101, 5, none⟩ = some (.int .u64 a0_5) ∧ w37.cell? ⟨gb102, 0, none⟩ = some (.int .u64 a1_0) ∧ w37.cell? ⟨gb102, 1, none⟩ = some (.int .u64 a1_1) ∧ w37.cell? ⟨gb102, 2, none⟩ = some (.int .u64 a1_2) ∧ w37.cell? ⟨gb102, 3, none⟩ = some (.bool a1_3) ∧ w37.cell? ad109 = some (.int .i64 (rd x7_2 0)) := hS_
              refine norm_ (a' := ?_) ?_ ?_
              rotate_left
              ·
               simp only [putAll, Act.put, List.setIfInBounds_toArray, List.set_cons_zero, List.set_cons_succ]
               rfl
              refine one_ (i := 11) (N := none) #[true, true, true, true, true, true, true, true, true, true, true, true, false] rfl rfl (one_of HT_.out (by kernel_rfl)) (by decide) (fun K hK => ?_)
              have hs38 : w37.cell? ⟨gb125, 0, none⟩ = some (.int .u64 0) := (zq5 BK125.out 0).trans rfl
              have hfs38 := zq4 BK125.out 0
              have hns38_0 := NB101_125.out
              have hns38_1 := NB102_125.out
              have hms38_0 := NB125_101.out
              have hms38_1 := NB125_102.out
              have hs39 : w37.cell? ⟨gb125, 1, none⟩ = some (.int .u64 0) := (zq5 BK125.out 1).trans rfl
              have hfs39 := zq4 BK125.out 1
              have hns39_0 := NB101_125.out
              have hns39_1 := NB102_125.out
              have hms39_0 := NB125_101.out
              have hms39_1 := NB125_102.out
              have hs40 : w37.cell? ⟨gb125, 2, none⟩ = some (.int .u64 0) := (zq5 BK125.out 2).trans rfl
              have hfs40 := zq4 BK125.out 2
              have hns40_0 := NB101_125.out
              have hns40_1 := NB102_125.out
              have hms40_0 := NB125_101.out
              have hms40_1 := NB125_102.out
              have hs41 : w37.cell? ⟨gb125, 3, none⟩ = some (.bool false) := (zq5 BK125.out 3).trans rfl
              have hfs41 := zq4 BK125.out 3
              have hns41_0 := NB101_125.out
              have hns41_1 := NB102_125.out
              have hms41_0 := NB125_101.out
              have hms41_1 := NB125_102.out
              refine skip_ (w1 := ?_) (by rfl) rfl ?_ ?_
              rotate_left
              ·
               go_simp
               rfl
              refine hK.out _ _ ⟨((cell_far (p := ⟨gb125, _, none⟩) NB101_125.out _).trans (((cell_far (p := ⟨gb125, _, none⟩) NB101_125.out _).trans (((cell_far (p := ⟨gb125, _, none⟩) NB101_125.out _).trans (((cell_far (p := ⟨gb125, _, none⟩) NB101_125.out _).trans (hHeld.1)))))))), ((cell_far (p := ⟨gb125, _, none⟩) NB101_125.out _).trans (((cell_far (p := ⟨gb125, _, none⟩) NB101_125.out _).trans (((cell_far (p := ⟨gb125, _, none⟩) NB101_125.out _).trans (((cell_far (p := ⟨gb125, _, none⟩) NB101_125.out _).trans (hHeld.2.1)))))))), ((cell_far (p := ⟨gb125, _, none⟩) NB101_125.out _).trans (((cell_far (p := ⟨gb125, _, none⟩) NB101_125.out _).trans (((cell_far (p := ⟨gb125, _, none⟩) NB101_125.out _).trans (((cell_far (p := ⟨gb125, _, none⟩) NB101_125.out _).trans (hHeld.2.2.1)))))))), ((cell_far (p := ⟨gb125, _, none⟩) NB101_125.out _).trans (((cell_far (p := ⟨gb125, _, none⟩) NB101_125.out _).trans (((cell_far (p := ⟨gb125, _, none⟩) NB101_125.out _).trans (((cell_far (p := ⟨gb125, _, none⟩) NB101_125.out _).trans (hHeld.2.2.2.1)))))))), ((cell_far (p := ⟨gb125, _, none⟩) NB101_125.out _).trans (((cell_far (p := ⟨gb125, _, none⟩) NB101_125.out _).trans (((cell_far (p := ⟨gb125, _, none⟩) NB101_125.out _).trans (((cell_far (p := ⟨gb125, _, none⟩) NB101_125.out _).trans (hHeld.2.2.2.2.1)))))))), ((cell_far (p := ⟨gb125, _, none⟩) NB101_125.out _).trans (((cell_far (p := ⟨gb125, _, none⟩) NB101_125.out _).trans (((cell_far (p := ⟨gb125, _, none⟩) NB101_125.out _).trans (((cell_far (p := ⟨gb125, _, none⟩) NB101_125.out _).trans (hHeld.2.2.2.2.2.1)))))))), ((cell_far (p := ⟨gb125, _, none⟩) NB102_125.out _).trans (((cell_far (p := ⟨gb125, _, none⟩) NB102_125.out _).trans (((cell_far (p := ⟨gb125, _, none⟩) NB102_125.out _).trans (((cell_far (p := ⟨gb125, _, none⟩) NB102_125.out _).trans (hHeld.2.2.2.2.2.2.1)))))))), ((cell_far (p := ⟨gb125, _, none⟩) NB102_125.out _).trans (((cell_far (p := ⟨gb125, _, none⟩) NB102_125.out _).trans (((cell_far (p := ⟨gb125, _, none⟩) NB102_125.out _).trans (((cell_far (p := ⟨gb125, _, none⟩) NB102_125.out _).trans (hHeld.2.2.2.2.2.2.2.1)))))))), ((cell_far (p := ⟨gb125, _, none⟩) NB102_125.out _).trans (((cell_far (p := ⟨gb125, _, none⟩) NB102_125.out _).trans (((cell_far (p := ⟨gb125, _, none⟩) NB102_125.out _).trans (((cell_far (p := ⟨gb125, _, none⟩) NB102_125.out _).trans (hHeld.2.2.2.2.2.2.2.2.1)))))))), ((cell_far (p := ⟨gb125, _, none⟩) NB102_125.out _).trans (((cell_far (p := ⟨gb125, _, none⟩) NB102_125.out _).trans (((cell_far (p := ⟨gb125, _, none⟩) NB102_125.out _).trans (((cell_far (p := ⟨gb125, _, none⟩) NB102_125.out _).trans (hHeld.2.2.2.2.2.2.2.2.2.1)))))))), ((cell_far (p := ⟨gb125, _, none⟩) (by first | exact Kd.own_blk (Kd.R_ne HO_7.out BK125.out (by decide)) | (rw [add_block]; exact Kd.own_blk (Kd.R_ne HO_7.out BK125.out (by decide))) | (show (Addr.add _ _).block ≠ _; rw [add_block]; exact Kd.own_blk (Kd.R_ne HO_7.out BK125.out (by decide))) | (dsimp only; exact Kd.own_blk (Kd.R_ne HO_7.out BK125.out (by decide)))) _).trans (((cell_far (p := ⟨gb125, _, none⟩) (by first | exact Kd.own_blk (Kd.R_ne HO_7.out BK125.out (by decide)) | (rw [add_block]; exact Kd.own_blk (Kd.R_ne HO_7.out BK125.out (by decide))) | (show (Addr.add _ _).block ≠ _; rw [add_block]; exact Kd.own_blk (Kd.R_ne HO_7.out BK125.out (by decide))) | (dsimp only; exact Kd.own_blk (Kd.R_ne HO_7.out BK125.out (by decide)))) _).trans (((cell_far (p := ⟨gb125, _, none⟩) (by first | exact Kd.own_blk (Kd.R_ne HO_7.out BK125.out (by decide)) | (rw [add_block]; exact Kd.own_blk (Kd.R_ne HO_7.out BK125.out (by decide))) | (show (Addr.add _ _).block ≠ _; rw [add_block]; exact Kd.own_blk (Kd.R_ne HO_7.out BK125.out (by decide))) | (dsimp only; exact Kd.own_blk (Kd.R_ne HO_7.out BK125.out (by decide)))) _).trans (((cell_far (p := ⟨gb125, _, none⟩) (by first | exact Kd.own_blk (Kd.R_ne HO_7.out BK125.out (by decide)) | (rw [add_block]; exact Kd.own_blk (Kd.R_ne HO_7.out BK125.out (by decide))) | (show (Addr.add _ _).block ≠ _; rw [add_block]; exact Kd.own_blk (Kd.R_ne HO_7.out BK125.out (by decide))) | (dsimp only; exact Kd.own_blk (Kd.R_ne HO_7.out BK125.out (by decide)))) _).trans (hHeld.2.2.2.2.2.2.2.2.2.2))))))))⟩ (fun hHeld => ?_)
              clear hK K
              refine pure_ (i := 12) (N := some 15) (v := ?_) (a' := ?_) #[true, true, true, true, true, true, true, true, true, true, true, true, true] rfl rfl (any_of HT_.out (by kernel_rfl)) (fun _ _ _ h => h) (Or.inl ⟨by rfl, ?_⟩) ?_ ?_
              rotate_left
              ·
               intro w'
               go_simp
               with_reducible rfl
              rotate_left
              ·
               simp only [Act.put, List.setIfInBounds_toArray, List.set_cons_zero, List.set_cons_succ, i64_w, i32_w]
               rfl
              refine done_ (done_of HT_.out (by kernel_rfl)) ?_
              go_upto_region 17 with (fail)
              go_cut [112] (fun v112 wc => ∃ (kq : Nat) (x112_29 : Bool), v112 = .bool x112_29 ∧ Aside0 (oTrue.j4 kq x7_2 x9_3 t110 x112_29 a0_0 a0_1 a0_2 a0_3 a0_4 a0_5 a1_0 a1_1 a1_2 a1_3 = some r) ∧ Aside0 (kq ≤ kj21) ∧ Aside0 (Kd.R (Kd.int .i64) 3 wc w.heap.size (fun _ => True) (.slice (some ad109) x7_2.length co32) x7_2) ∧ Aside0 (wc.heap[gb101]? = some (.cells #[.int .i64 a0_0, .bool a0_1, .int .u64 a0_2, .int .u64 a0_3, .int .u64 a0_4, .int .u64 a0_5] 49 (0, 0))) ∧ Aside0 (wc.heap[gb102]? = some (.cells #[.int .u64 a1_0, .int .u64 a1_1, .int .u64 a1_2, .bool a1_3] 51 (0, 0))) ∧ Aside0 (wc.heap[gb125]? = some (.cells #[.int .u64 t120, .int .u64 t121, .int .u64 t122, .bool t123] 51 (0, 0))) ∧ Aside0 (Below w.heap.size w wc))
              case first => as_aux_lemma =>
               have H := HC30.out
               clear HC30
               by_cases c42 : t124 > x9_3
               ·
                rw [if_pos c42] at H
                exact absurd H (by simp)
               ·
                rw [if_neg c42] at H
                have c42b0 : decide (x9_3 < t124) = false := decide_eq_false c42
                clear c42
                (first | rw [c42b0] | (simp only [i64_w, i32_w]; rw [c42b0]) | skip)
                by_cases c43 : a1_3 = true
                ·
                 subst c43
                 have H1 : (if t110 < a1_2 then (none) else (oTrue.j4 kj21 x7_2 x9_3 t110 false a0_0 a0_1 a0_2 a0_3 a0_4 a0_5 a1_0 a1_1 a1_2 true)) = some r := by rw [if_pos rfl] at H; exact H
                 clear H
                 have H := H1
                 clear H1
                 by_cases c44 : t110 < a1_2
                 ·
                  rw [if_pos c44] at H
                  exact absurd H (by simp)
                 ·
                  rw [if_neg c44] at H
                  have c44b0 : decide (t110 < a1_2) = false := decide_eq_false c44
                  clear c44
                  have H' := zq3 H
                  clear H
                  have hnb45 := NB102_101.out
                  have hnc45 := NB101_102.out
                  have hnb46 := NB102_125.out
                  have hnc46 := NB125_102.out
                  obtain ⟨hc47_0, hc47_1, hc47_2, hc47_3⟩ := zc4 BK102
                  obtain ⟨hf47_0, hf47_1, hf47_2, hf47_3⟩ := zf4 BK102
                  go_wp2
                  go_meet
                  case rel => exact ⟨_, (false), (by first | rfl | (simp; done) | (simp [*]; done)), H', ⟨by have := HJ3.out; have := HK2.out; have := HK3.out; have := HJ21.out; first | omega | exact Nat.le_refl _⟩, ⟨by (with_reducible repeat (first | apply Kd.R_alloc | apply Kd.R_drewN | apply Kd.R_drew)); exact Kd.R_mono (Kd.R_far (p := ⟨gb125, 3, none⟩) (Kd.R_far (p := ⟨gb125, 2, none⟩) (Kd.R_far (p := ⟨gb125, 1, none⟩) (Kd.R_far (p := ⟨gb125, 0, none⟩) (Kd.R_types HO_7.out BK125.out (by decide)) (fun _ hk => hk.2) (.int .u64 t120)) (fun _ hk => hk.2) (.int .u64 t121)) (fun _ hk => hk.2) (.int .u64 t122)) (fun _ hk => hk.2) (.bool t123)) (fun _ hk => trivial)⟩, ⟨zw BK101⟩, ⟨zw BK102⟩, ⟨zw4 BK125⟩, ⟨zh HB⟩⟩
                ·
                 replace c43 := Bool.eq_false_iff.mpr c43
                 subst c43
                 have H1 : (oTrue.j4 kj21 x7_2 x9_3 t110 (decide (t110 > 0)) a0_0 a0_1 a0_2 a0_3 a0_4 a0_5 a1_0 a1_1 a1_2 false) = some r := by rw [if_neg (show ¬ (false = true) by decide)] at H; exact H
                 clear H
                 have H := H1
                 clear H1
                 have H' := zq3 H
                 clear H
                 have hnb48 := NB102_101.out
                 have hnc48 := NB101_102.out
                 have hnb49 := NB102_125.out
                 have hnc49 := NB125_102.out
                 obtain ⟨hc50_0, hc50_1, hc50_2, hc50_3⟩ := zc4 BK102
                 obtain ⟨hf50_0, hf50_1, hf50_2, hf50_3⟩ := zf4 BK102
                 go_wp2
                 go_meet
                 case rel => exact ⟨_, (decide (t110 > 0)), (by first | rfl | (simp; done) | (simp [*]; done)), H', ⟨by have := HJ3.out; have := HK2.out; have := HK3.out; have := HJ21.out; first | omega | exact Nat.le_refl _⟩, ⟨by (with_reducible repeat (first | apply Kd.R_alloc | apply Kd.R_drewN | apply Kd.R_drew)); exact Kd.R_mono (Kd.R_far (p := ⟨gb125, 3, none⟩) (Kd.R_far (p := ⟨gb125, 2, none⟩) (Kd.R_far (p := ⟨gb125, 1, none⟩) (Kd.R_far (p := ⟨gb125, 0, none⟩) (Kd.R_types HO_7.out BK125.out (by decide)) (fun _ hk => hk.2) (.int .u64 t120)) (fun _ hk => hk.2) (.int .u64 t121)) (fun _ hk => hk.2) (.int .u64 t122)) (fun _ hk => hk.2) (.bool t123)) (fun _ hk => trivial)⟩, ⟨zw BK101⟩, ⟨zw BK102⟩, ⟨zw4 BK125⟩, ⟨zh HB⟩⟩
              case rest => as_aux_lemma =>
               clear HC30
               (try clear p1); (try clear q1); (try clear hx1); (try clear qi1); (try clear c2); (try clear p2); (try clear c3); (try clear c4); (try clear p6); (try clear p10); (try clear q10); (try clear hx10); (try clear qi10); (try clear p11); (try clear q11); (try clear hx11); (try clear qi11); (try clear c25); (try clear c26); (try clear c26b0); (try clear c26b1); (try clear c28); (try clear c35); (try clear c42); (try clear c42b0); (try clear c43); (try clear c44); (try clear c44b0); (try clear c45); (try clear c46); (try clear c48); (try clear c49)
               try clear hc47_0 hc47_1 hc47_2 hc47_3 hc50_0 hc50_1 hc50_2 hc50_3 hf13_5 hf47_0 hf47_1 hf47_2 hf47_3 hf50_0 hf50_1 hf50_2 hf50_3
               (try clear hx105_0); (try clear hx109_0); (try clear hx119_0); (try clear p1); (try clear p10); (try clear p105); (try clear p109); (try clear p119); (try clear p2); (try clear p6); (try clear q1); (try clear q10); (try clear q105); (try clear q109); (try clear q119)
               obtain ⟨kq, x112_29, rfl, HA, HJ29, HO_7, BK101, BK102, BK125, HB⟩ := hcut
               cases kq with
               | zero => exact absurd HA.out (by simp [oTrue.j4])
               | succ kj29 =>
                have H := HA.out
                clear HA
                simp only [oTrue.j4] at H
                by_cases c51 : x112_29 = true
                ·
                 subst c51
                 have H1 : (none) = some r := by rw [if_pos rfl] at H; exact H
                 clear H
                 have H := H1
                 clear H1
                 exact absurd H (by simp)
                ·
                 replace c51 := Bool.eq_false_iff.mpr c51
                 subst c51
                 have H1 : (if t110 > 0 then (oTrue.j5 kj29 x7_2 x9_3 t110 (decide (t110 > a1_2)) a0_0 a0_1 a0_2 a0_3 a0_4 a0_5 a1_0 a1_1 a1_2 a1_3) else (oTrue.j5 kj29 x7_2 x9_3 t110 false a0_0 a0_1 a0_2 a0_3 a0_4 a0_5 a1_0 a1_1 a1_2 a1_3)) = some r := by rw [if_neg (show ¬ (false = true) by decide)] at H; exact H
                 clear H
                 have H := H1
                 clear H1
                 have HC52 := zq3 H
                 clear H
                 go_upto_region 19 with (fail)
                 go_cut [120] (fun v120 wc => ∃ (kq : Nat) (x120_51 : Bool), v120 = .bool x120_51 ∧ Aside0 (oTrue.j5 kq x7_2 x9_3 t110 x120_51 a0_0 a0_1 a0_2 a0_3 a0_4 a0_5 a1_0 a1_1 a1_2 a1_3 = some r) ∧ Aside0 (kq ≤ kj29) ∧ Aside0 (Kd.R (Kd.int .i64) 3 wc w.heap.size (fun _ => True) (.slice (some ad109) x7_2.length co32) x7_2) ∧ Aside0 (wc.heap[gb101]? = some (.cells #[.int .i64 a0_0, .bool a0_1, .int .u64 a0_2, .int .u64 a0_3, .int .u64 a0_4, .int .u64 a0_5] 49 (0, 0))) ∧ Aside0 (wc.heap[gb102]? = some (.cells #[.int .u64 a1_0, .int .u64 a1_1, .int .u64 a1_2, .bool a1_3] 51 (0, 0))) ∧ Aside0 (wc.heap[gb125]? = some (.cells #[.int .u64 t120, .int .u64 t121, .int .u64 t122, .bool t123] 51 (0, 0))) ∧ Aside0 (Below w.heap.size w wc))
                 case first => as_aux_lemma =>
                  have H := HC52.out
                  clear HC52
                  by_cases c53 : t110 > 0
                  ·
                   rw [if_pos c53] at H
                   have c53b0 : decide (0 < t110) = true := decide_eq_true c53
                   clear c53
                   (first | rw [c53b0] | (simp only [i64_w, i32_w]; rw [c53b0]) | skip)
                   have H' := zq3 H
                   clear H
                   have hnb54 := NB102_101.out
                   have hnc54 := NB101_102.out
                   have hnb55 := NB102_125.out
                   have hnc55 := NB125_102.out
                   obtain ⟨hc56_0, hc56_1, hc56_2, hc56_3⟩ := zc4 BK102
                   obtain ⟨hf56_0, hf56_1, hf56_2, hf56_3⟩ := zf4 BK102
                   go_wp2
                   go_meet
                   case rel => exact ⟨_, (decide (t110 > a1_2)), (by first | rfl | (simp; done) | (simp [*]; done)), H', ⟨by have := HJ3.out; have := HK2.out; have := HK3.out; have := HJ21.out; have := HJ29.out; first | omega | exact Nat.le_refl _⟩, ⟨zo HO_7⟩, ⟨zw BK101⟩, ⟨zw BK102⟩, ⟨zw BK125⟩, ⟨zh HB⟩⟩
                  ·
                   rw [if_neg c53] at H
                   have c53b0 : decide (0 < t110) = false := decide_eq_false c53
                   clear c53
                   (first | rw [c53b0] | (simp only [i64_w, i32_w]; rw [c53b0]) | skip)
                   have H' := zq3 H
                   clear H
                   go_wp2
                   go_meet
                   case rel => exact ⟨_, (false), (by first | rfl | (simp; done) | (simp [*]; done)), H', ⟨by have := HJ3.out; have := HK2.out; have := HK3.out; have := HJ21.out; have := HJ29.out; first | omega | exact Nat.le_refl _⟩, ⟨zo HO_7⟩, ⟨zw BK101⟩, ⟨zw BK102⟩, ⟨zw BK125⟩, ⟨zh HB⟩⟩
                 case rest => as_aux_lemma =>
                  clear HC52
                  (try clear p1); (try clear q1); (try clear hx1); (try clear qi1); (try clear c2); (try clear p2); (try clear c3); (try clear c4); (try clear c5); (try clear p6); (try clear p10); (try clear q10); (try clear hx10); (try clear qi10); (try clear p11); (try clear q11); (try clear hx11); (try clear qi11); (try clear c25); (try clear c26); (try clear c26b0); (try clear c26b1); (try clear c28); (try clear c35); (try clear c42); (try clear c42b0); (try clear c43); (try clear c44); (try clear c44b0); (try clear c45); (try clear c46); (try clear c48); (try clear c49); (try clear c51); (try clear c53); (try clear c53b0); (try clear c54); (try clear c55)
                  try clear hc47_0 hc47_1 hc47_2 hc47_3 hc50_0 hc50_1 hc50_2 hc50_3 hc56_0 hc56_1 hc56_2 hc56_3 hf13_5 hf47_0 hf47_1 hf47_2 hf47_3 hf50_0 hf50_1 hf50_2 hf50_3 hf56_0 hf56_1 hf56_2 hf56_3
                  (try clear hx105_0); (try clear hx109_0); (try clear hx119_0); (try clear p1); (try clear p10); (try clear p105); (try clear p109); (try clear p11); (try clear p119); (try clear p2); (try clear p6); (try clear q1); (try clear q10); (try clear q105); (try clear q109); (try clear q11); (try clear q119)
                  obtain ⟨kq, x120_51, rfl, HA, HJ51, HO_7, BK101, BK102, BK125, HB⟩ := hcut
                  cases kq with
                  | zero => exact absurd HA.out (by simp [oTrue.j5])
                  | succ kj51 =>
                   have H := HA.out
                   clear HA
                   simp only [oTrue.j5] at H
                   by_cases c57 : x120_51 = true
                   ·
                    subst c57
                    have H1 : (if 0 < (x7_2.length : Int) then ((meter_Step.f a0_0 a0_1 a0_2 a0_3 a0_4 a0_5 a1_0 a1_1 a1_2 a1_3 (IntKind.u64.wrap (t110 - 1)) (rd x7_2 0) 0).bind fun bt127 => (if bt127.2.2.2.2 ≤ x9_3 then (none) else (oTrue.l1 kj51 x7_2 (wrap64 (x9_3 + 1)) a0_0 a0_1 a0_2 a0_3 a0_4 a0_5 a1_0 a1_1 a1_2 a1_3))) else (none)) = some r := by rw [if_pos rfl] at H; exact H
                    clear H
                    have H := H1
                    clear H1
                    by_cases c58 : 0 < (x7_2.length : Int)
                    ·
                     rw [if_pos c58] at H
                     have c58b0 : decide (0 < (x7_2.length : Int)) = true := decide_eq_true c58
                     have c58b1 : decide (0 < x7_2.length) = true := decide_eq_true (by omega)
                     clear c58
                     replace H := Option.bind_eq_some_iff.mp H
                     obtain ⟨⟨t127, t128, t129, t130, t131⟩, A590, H⟩ := H
                     replace H : (if t131 ≤ x9_3 then (none) else (oTrue.l1 kj51 x7_2 (wrap64 (x9_3 + 1)) a0_0 a0_1 a0_2 a0_3 a0_4 a0_5 a1_0 a1_1 a1_2 a1_3)) = some r := H
                     have A59 := zq3 A590
                     clear A590
                     by_cases c60 : t131 ≤ x9_3
                     ·
                      rw [if_pos c60] at H
                      exact absurd H (by simp)
                     ·
                      rw [if_neg c60] at H
                      have c60b0 : decide (t131 ≤ x9_3) = false := decide_eq_false c60
                      clear c60
                      have H' := zq3 H
                      clear H
                      try go_wp2
                      replace HO_7 := zq3 (Kd.R_drew HO_7.out); replace BK101 := zq3 (zq2 BK101.out); replace BK102 := zq3 (zq2 BK102.out); replace BK125 := zq3 (zq2 BK125.out); replace HB := zq3 (zq8 HB.out)
                      have p126 : 0 ≤ (0 : Int) := (by omega)
                      have q126 : 0 < (x7_2.length : Int) := of_decide_eq_true (by first | (with_reducible assumption) | assumption)
                      obtain ⟨ad126, e126, hx126_0⟩ := Kd.at_int (Kd.R_reads' HO_7.out).2.2 0 p126 q126
                      obtain rfl : ad109 = ad126 := (by injection e126)
                      have qi126 : (0 < x7_2.length) = True := eq_true (by omega)
                      (try rw [show ((0 : Int)).toNat = 0 from rfl] at hx126_0)
                      (try rw [Addr.add_zero'] at hx126_0)
                      replace p126 := eq_true p126
                      replace q126 := eq_true q126
                      refine start_ (n := 14) (S := fun w' => w'.cell? ⟨gb101, 0, none⟩ = some (.int .i64 a0_0) ∧ w'.cell? ⟨gb101, 1, none⟩ = some (.bool a0_1) ∧ w'.cell? ⟨gb101, 2, none⟩ = some (.int .u64 a0_2) ∧ w'.cell? ⟨gb101, 3, none⟩ = some (.int .u64 a0_3) ∧ w'.cell? ⟨gb101, 4, none⟩ = some (.int .u64 a0_4) ∧ w'.cell? ⟨gb101, 5, none⟩ = some (.int .u64 a0_5) ∧ w'.cell? ⟨gb102, 0, none⟩ = some (.int .u64 a1_0) ∧ w'.cell? ⟨gb102, 1, none⟩ = some (.int .u64 a1_1) ∧ w'.cell? ⟨gb102, 2, none⟩ = some (.int .u64 a1_2) ∧ w'.cell? ⟨gb102, 3, none⟩ = some (.bool a1_3) ∧ w'.cell? ad109 = some (.int .i64 (rd x7_2 0))) (ds := []) #[false, false, false, false, false, false, false, false, false, false, false, false, false, false] (by kernel_rfl) rfl rfl ⟨(zq5 BK101.out 0).trans rfl, (zq5 BK101.out 1).trans rfl, (zq5 BK101.out 2).trans rfl, (zq5 BK101.out 3).trans rfl, (zq5 BK101.out 4).trans rfl, (zq5 BK101.out 5).trans rfl, (zq5 BK102.out 0).trans rfl, (zq5 BK102.out 1).trans rfl, (zq5 BK102.out 2).trans rfl, (zq5 BK102.out 3).trans rfl, hx126_0⟩ (fun hHeld => ?_); refine with_tabW oTrue.tab20 oTrue.bits20 (fun HT_ HW_ => ?_)
                      generalize wc.drew = w61 at HO_7 BK101 BK102 BK125 HB hx126_0 hHeld ⊢
                      refine pure_ (i := 2) (N := some 124) (v := ?_) (a' := ?_) #[false, false, true, false, false, false, false, false, false, false, false, false, false, false] rfl rfl (any_of HT_.out (by kernel_rfl)) (fun _ _ _ h => h) (Or.inl ⟨by rfl, ?_⟩) ?_ ?_
                      rotate_left
                      ·
                       intro w'
                       go_simp
                       with_reducible rfl
                      rotate_left
                      ·
                       simp only [Act.put, List.setIfInBounds_toArray, List.set_cons_zero, List.set_cons_succ, i64_w, i32_w]
                       rfl
                      refine pure_ (i := 3) (N := some 125) (v := ?_) (a' := ?_) #[false, false, true, true, false, false, false, false, false, false, false, false, false, false] rfl rfl (any_of HT_.out (by kernel_rfl)) (fun _ _ _ h => h) (Or.inl ⟨by rfl, ?_⟩) ?_ ?_
                      rotate_left
                      ·
                       intro w'
                       go_simp
                       with_reducible rfl
                      rotate_left
                      ·
                       simp only [Act.put, List.setIfInBounds_toArray, List.set_cons_zero, List.set_cons_succ, i64_w, i32_w]
                       rfl
                      refine pure_ (i := 4) (N := some 126) (v := ?_) (a' := ?_) #[false, false, true, true, true, false, false, false, false, false, false, false, false, false] rfl rfl (any_of HT_.out (by kernel_rfl)) (fun _ _ _ h => h) (Or.inl ⟨by rfl, ?_⟩) ?_ ?_
                      rotate_left
                      ·
                       intro w'
                       go_simp
                       with_reducible rfl
                      rotate_left
                      ·
                       simp only [Act.put, List.setIfInBounds_toArray, List.set_cons_zero, List.set_cons_succ, i64_w, i32_w]
                       rfl
                      refine pure_ (i := 5) (N := some 127) (v := ?_) (a' := ?_) #[false, false, true, true, true, true, false, false, false, false, false, false, false, false] rfl rfl (any_of HT_.out (by kernel_rfl)) (fun _ _ _ h => h) (Or.inl ⟨by rfl, ?_⟩) ?_ ?_
                      rotate_left
                      ·
                       intro w'
                       go_simp
                       with_reducible rfl
                      rotate_left
                      ·
                       simp only [Act.put, List.setIfInBounds_toArray, List.set_cons_zero, List.set_cons_succ, i64_w, i32_w]
                       rfl
                      refine take_ (i := 0) (N := some 122) (v := ?_) (a' := ?_) #[true, false, true, true, true, true, false, false, false, false, false, false, false, false] rfl rfl (take_ofW HT_.out HW_.out (by kernel_rfl)) (fun _ _ _ h => h) (Or.inl ⟨by rfl, ?_⟩) hHeld ?_ ?_
                      rotate_left
                      ·
                       rintro w' ⟨s0, s1, s2, s3, s4, s5, s6, s7, s8, s9, s10⟩
                       go_simp
                       with_reducible rfl
                      rotate_left
                      ·
                       simp only [Act.put, List.setIfInBounds_toArray, List.set_cons_zero, List.set_cons_succ, i64_w, i32_w]
                       rfl
                      refine take_ (i := 1) (N := some 123) (v := ?_) (a' := ?_) #[true, true, true, true, true, true, false, false, false, false, false, false, false, false] rfl rfl (take_ofW HT_.out HW_.out (by kernel_rfl)) (fun _ _ _ h => h) (Or.inl ⟨by rfl, ?_⟩) hHeld ?_ ?_
                      rotate_left
                      ·
                       rintro w' ⟨s0, s1, s2, s3, s4, s5, s6, s7, s8, s9, s10⟩
                       go_simp
                       with_reducible rfl
                      rotate_left
                      ·
                       simp only [Act.put, List.setIfInBounds_toArray, List.set_cons_zero, List.set_cons_succ, i64_w, i32_w]
                       rfl
                      refine take_ (i := 6) (N := some 128) (v := ?_) (a' := ?_) #[true, true, true, true, true, true, true, false, false, false, false, false, false, false] rfl rfl (take_ofW HT_.out HW_.out (by kernel_rfl)) (fun _ _ _ h => h) (Or.inl ⟨by rfl, ?_⟩) hHeld ?_ ?_
                      rotate_left
                      ·
                       rintro w' ⟨s0, s1, s2, s3, s4, s5, s6, s7, s8, s9, s10⟩
                       go_simp
                       with_reducible rfl
                      rotate_left
                      ·
                       simp only [Act.put, List.setIfInBounds_toArray, List.set_cons_zero, List.set_cons_succ, i64_w, i32_w]
                       rfl
                      refine join_ (σ := Nat) 2 #[true, true, true, true, true, true, true, true, true, true, true, true, false, false] (fun s_ => [(129, .tuple #[.agg #[.int .u64 t127, .int .u64 t128, .int .u64 t129, .bool t130], .int .i64 t131]), (16, .pointer (some ⟨s_, 0, none⟩)), (121, .tuple #[.agg #[.int .u64 t127, .int .u64 t128, .int .u64 t129, .bool t130], .int .i64 t131]), (130, .agg #[.int .u64 t127, .int .u64 t128, .int .u64 t129, .bool t130]), (131, .int .i64 t131)]) (fun s_ w' => (w'.cell? ⟨gb101, 0, none⟩ = some (.int .i64 a0_0) ∧ w'.cell? ⟨gb101, 1, none⟩ = some (.bool a0_1) ∧ w'.cell? ⟨gb101, 2, none⟩ = some (.int .u64 a0_2) ∧ w'.cell? ⟨gb101, 3, none⟩ = some (.int .u64 a0_3) ∧ w'.cell? ⟨gb101, 4, none⟩ = some (.int .u64 a0_4) ∧ w'.cell? ⟨gb101, 5, none⟩ = some (.int .u64 a0_5) ∧ w'.cell? ⟨gb102, 0, none⟩ = some (.int .u64 a1_0) ∧ w'.cell? ⟨gb102, 1, none⟩ = some (.int .u64 a1_1) ∧ w'.cell? ⟨gb102, 2, none⟩ = some (.int .u64 a1_2) ∧ w'.cell? ⟨gb102, 3, none⟩ = some (.bool a1_3) ∧ w'.cell? ad109 = some (.int .i64 (rd x7_2 0))) ∧ (Kd.R (Kd.int .i64) 3 w' w.heap.size (fun _ => True) (.slice (some ad109) x7_2.length co32) x7_2) ∧ (w'.heap[gb101]? = some (.cells #[.int .i64 a0_0, .bool a0_1, .int .u64 a0_2, .int .u64 a0_3, .int .u64 a0_4, .int .u64 a0_5] 49 (0, 0))) ∧ (w'.heap[gb102]? = some (.cells #[.int .u64 a1_0, .int .u64 a1_1, .int .u64 a1_2, .bool a1_3] 51 (0, 0))) ∧ (w'.heap[gb125]? = some (.cells #[.int .u64 t120, .int .u64 t121, .int .u64 t122, .bool t123] 51 (0, 0))) ∧ (w'.heap[s_]? = some (.cells #[.int .u64 0, .int .u64 0, .int .u64 0, .bool false] 51 (0, 0))) ∧ (w.heap.size ≤ s_) ∧ (w.heap.size ≤ s_) ∧ (gb101 ≠ s_) ∧ (s_ ≠ gb101) ∧ (gb102 ≠ s_) ∧ (s_ ≠ gb102) ∧ (gb125 ≠ s_) ∧ (s_ ≠ gb125) ∧ (Below w.heap.size w w')) ?_ ?_
                      rotate_left
                      ·
                       intro hCont
                       refine two_ (i := 7) (j := 11) (Ni := some 129) (Nj := some 16) #[true, true, true, true, true, true, true, true, false, false, false, false, false, false] #[true, true, true, true, true, true, true, false, false, false, false, true, false, false] rfl rfl rfl rfl (two_of HT_.out (by kernel_rfl)) (by decide) (by decide) (fun K hK => ?_) (fun K hK => ?_)
                       ·
                        skip
                        refine goes_ Try.func35 (by kernel_rfl) rfl #[.agg #[.int .i64 a0_0, .bool a0_1, .int .u64 a0_2, .int .u64 a0_3, .int .u64 a0_4, .int .u64 a0_5], .agg #[.int .u64 a1_0, .int .u64 a1_1, .int .u64 a1_2, .bool a1_3], .int .u64 (IntKind.u64.wrap (t110 - 1)), .int .i64 (rd x7_2 0), .int .i64 0] (by rfl) rfl rfl (by (try simp only [List.map_toArray, List.map_cons, List.map_nil]); first | done | rfl | (simp only [List.length_drop, List.length_take]; rfl)) ?_
                        with_reducible refine (meter_Step.calls a0_0 a0_1 a0_2 a0_3 a0_4 a0_5 a1_0 a1_1 a1_2 a1_3 (IntKind.u64.wrap (t110 - 1)) (rd x7_2 0) 0 t127 t128 t129 t130 t131 _ A59.out).mono ?_
                        rintro e w62 ⟨rfl, hb⟩
                        have HS10_ := (hb.cell (World.block_lt_of_cell? _ _ (hHeld.2.2.2.2.2.2.2.2.2.2))).trans (hHeld.2.2.2.2.2.2.2.2.2.2)
                        refine ⟨_, rfl, ?_⟩
                        replace HO_7 := zr HO_7 hb; replace BK101 := zs BK101 hb; replace BK102 := zs BK102 hb; replace BK125 := zs BK125 hb; replace HB := zt HB hb
                        (try clear hb)
                        (try clear hb2)
                        (try clear hk)
                        (try clear hi)
                        refine hK.out _ _ ⟨(zq5 BK101.out 0).trans rfl, (zq5 BK101.out 1).trans rfl, (zq5 BK101.out 2).trans rfl, (zq5 BK101.out 3).trans rfl, (zq5 BK101.out 4).trans rfl, (zq5 BK101.out 5).trans rfl, (zq5 BK102.out 0).trans rfl, (zq5 BK102.out 1).trans rfl, (zq5 BK102.out 2).trans rfl, (zq5 BK102.out 3).trans rfl, HS10_⟩ (fun hHeld => ?_)
                        clear hK K
                        refine norm_ (a' := ?_) ?_ ?_
                        rotate_left
                        ·
                         show Act.put _ (some 129) _ = _
                         simp only [Act.put, List.setIfInBounds_toArray, List.set_cons_zero, List.set_cons_succ, i64_w, i32_w]
                         rfl
                        refine pure_ (i := 8) (N := some 121) (v := ?_) (a' := ?_) #[true, true, true, true, true, true, true, true, true, false, false, false, false, false] rfl rfl (any_of HT_.out (by kernel_rfl)) (fun _ _ _ h => h) (Or.inl ⟨by rfl, ?_⟩) ?_ ?_
                        rotate_left
                        ·
                         intro w'
                         go_simp
                         with_reducible rfl
                        rotate_left
                        ·
                         simp only [Act.put, List.setIfInBounds_toArray, List.set_cons_zero, List.set_cons_succ, i64_w, i32_w]
                         rfl
                        refine pure_ (i := 9) (N := some 130) (v := ?_) (a' := ?_) #[true, true, true, true, true, true, true, true, true, true, false, false, false, false] rfl rfl (any_of HT_.out (by kernel_rfl)) (fun _ _ _ h => h) (Or.inl ⟨by rfl, ?_⟩) ?_ ?_
                        rotate_left
                        ·
                         intro w'
                         go_simp
                         with_reducible rfl
                        rotate_left
                        ·
                         simp only [Act.put, List.setIfInBounds_toArray, List.set_cons_zero, List.set_cons_succ, i64_w, i32_w]
                         rfl
                        refine pure_ (i := 10) (N := some 131) (v := ?_) (a' := ?_) #[true, true, true, true, true, true, true, true, true, true, true, false, false, false] rfl rfl (any_of HT_.out (by kernel_rfl)) (fun _ _ _ h => h) (Or.inl ⟨by rfl, ?_⟩) ?_ ?_
                        rotate_left
                        ·
                         intro w'
                         go_simp
                         with_reducible rfl
                        rotate_left
                        ·
                         simp only [Act.put, List.setIfInBounds_toArray, List.set_cons_zero, List.set_cons_succ, i64_w, i32_w]
                         rfl
                        refine one_ (i := 11) (N := some 16) #[true, true, true, true, true, true, true, true, true, true, true, true, false, false] rfl rfl (one_of HT_.out (by kernel_rfl)) (by decide) (fun K hK => ?_)
                        refine box_step ?hg (N := 16) ?hd (cs := #[.int .u64 0, .int .u64 0, .int .u64 0, .bool false]) (t := 51) ?hr ?_; (case hd => rfl); (case hg => rfl); (case hr => first | (go_simp; done) | (go_simp; rfl))
                        intro gb132 hg w63 hbox hb
                        have HS10_ := (hb.cell (World.block_lt_of_cell? _ _ (hHeld.2.2.2.2.2.2.2.2.2.2))).trans (hHeld.2.2.2.2.2.2.2.2.2.2)
                        have BK132 := zq3 (hbox); have GW132 := ze hg HB; have GE132 := GW132; have NB101_132 := zl hg BK101; have NB132_101 := zg hg BK101; have NB102_132 := zl hg BK102; have NB132_102 := zg hg BK102; have NB125_132 := zl hg BK125; have NB132_125 := zg hg BK125; replace HO_7 := zr HO_7 hb; replace BK101 := zs BK101 hb; replace BK102 := zs BK102 hb; replace BK125 := zs BK125 hb; replace HB := zt HB hb
                        clear hb hbox hg
                        refine hK.out _ _ ⟨(zq5 BK101.out 0).trans rfl, (zq5 BK101.out 1).trans rfl, (zq5 BK101.out 2).trans rfl, (zq5 BK101.out 3).trans rfl, (zq5 BK101.out 4).trans rfl, (zq5 BK101.out 5).trans rfl, (zq5 BK102.out 0).trans rfl, (zq5 BK102.out 1).trans rfl, (zq5 BK102.out 2).trans rfl, (zq5 BK102.out 3).trans rfl, HS10_⟩ (fun hHeld => ?_)
                        clear hK K
                        refine norm_ (a' := ?_) ?_ ?_
                        rotate_left
                        ·
                         show Act.put _ (some 16) _ = _
                         simp only [Act.put, List.setIfInBounds_toArray, List.set_cons_zero, List.set_cons_succ, i64_w, i32_w]
                         rfl
                        exact norm_ (by simp only [putAll, Act.put, List.setIfInBounds_toArray, List.set_cons_zero, List.set_cons_succ]) (hCont (gb132) _ ⟨hHeld, (zo HO_7), (zw BK101), (zw BK102), (zw BK125), (zw BK132), GW132.out, GE132.out, NB101_132.out, NB132_101.out, NB102_132.out, NB132_102.out, NB125_132.out, NB132_125.out, (zh HB)⟩)
                       ·
                        skip
                        refine box_step ?hg (N := 16) ?hd (cs := #[.int .u64 0, .int .u64 0, .int .u64 0, .bool false]) (t := 51) ?hr ?_; (case hd => rfl); (case hg => rfl); (case hr => first | (go_simp; done) | (go_simp; rfl))
                        intro gb132 hg w62 hbox hb
                        have HS10_ := (hb.cell (World.block_lt_of_cell? _ _ (hHeld.2.2.2.2.2.2.2.2.2.2))).trans (hHeld.2.2.2.2.2.2.2.2.2.2)
                        have BK132 := zq3 (hbox); have GW132 := ze hg HB; have GE132 := GW132; have NB101_132 := zl hg BK101; have NB132_101 := zg hg BK101; have NB102_132 := zl hg BK102; have NB132_102 := zg hg BK102; have NB125_132 := zl hg BK125; have NB132_125 := zg hg BK125; replace HO_7 := zr HO_7 hb; replace BK101 := zs BK101 hb; replace BK102 := zs BK102 hb; replace BK125 := zs BK125 hb; replace HB := zt HB hb
                        clear hb hbox hg
                        refine hK.out _ _ ⟨(zq5 BK101.out 0).trans rfl, (zq5 BK101.out 1).trans rfl, (zq5 BK101.out 2).trans rfl, (zq5 BK101.out 3).trans rfl, (zq5 BK101.out 4).trans rfl, (zq5 BK101.out 5).trans rfl, (zq5 BK102.out 0).trans rfl, (zq5 BK102.out 1).trans rfl, (zq5 BK102.out 2).trans rfl, (zq5 BK102.out 3).trans rfl, HS10_⟩ (fun hHeld => ?_)
                        clear hK K
                        refine norm_ (a' := ?_) ?_ ?_
                        rotate_left
                        ·
                         show Act.put _ (some 16) _ = _
                         simp only [Act.put, List.setIfInBounds_toArray, List.set_cons_zero, List.set_cons_succ, i64_w, i32_w]
                         rfl
                        refine one_ (i := 7) (N := some 129) #[true, true, true, true, true, true, true, true, false, false, false, true, false, false] rfl rfl (one_of HT_.out (by kernel_rfl)) (by decide) (fun K hK => ?_)
                        refine goes_ Try.func35 (by kernel_rfl) rfl #[.agg #[.int .i64 a0_0, .bool a0_1, .int .u64 a0_2, .int .u64 a0_3, .int .u64 a0_4, .int .u64 a0_5], .agg #[.int .u64 a1_0, .int .u64 a1_1, .int .u64 a1_2, .bool a1_3], .int .u64 (IntKind.u64.wrap (t110 - 1)), .int .i64 (rd x7_2 0), .int .i64 0] (by rfl) rfl rfl (by (try simp only [List.map_toArray, List.map_cons, List.map_nil]); first | done | rfl | (simp only [List.length_drop, List.length_take]; rfl)) ?_
                        with_reducible refine (meter_Step.calls a0_0 a0_1 a0_2 a0_3 a0_4 a0_5 a1_0 a1_1 a1_2 a1_3 (IntKind.u64.wrap (t110 - 1)) (rd x7_2 0) 0 t127 t128 t129 t130 t131 _ A59.out).mono ?_
                        rintro e w63 ⟨rfl, hb⟩
                        have HS10_ := (hb.cell (World.block_lt_of_cell? _ _ (hHeld.2.2.2.2.2.2.2.2.2.2))).trans (hHeld.2.2.2.2.2.2.2.2.2.2)
                        refine ⟨_, rfl, ?_⟩
                        replace HO_7 := zr HO_7 hb; replace BK101 := zs BK101 hb; replace BK102 := zs BK102 hb; replace BK125 := zs BK125 hb; replace BK132 := zs BK132 hb; replace HB := zt HB hb
                        (try clear hb)
                        (try clear hb2)
                        (try clear hk)
                        (try clear hi)
                        refine hK.out _ _ ⟨(zq5 BK101.out 0).trans rfl, (zq5 BK101.out 1).trans rfl, (zq5 BK101.out 2).trans rfl, (zq5 BK101.out 3).trans rfl, (zq5 BK101.out 4).trans rfl, (zq5 BK101.out 5).trans rfl, (zq5 BK102.out 0).trans rfl, (zq5 BK102.out 1).trans rfl, (zq5 BK102.out 2).trans rfl, (zq5 BK102.out 3).trans rfl, HS10_⟩ (fun hHeld => ?_)
                        clear hK K
                        refine norm_ (a' := ?_) ?_ ?_
                        rotate_left
                        ·
                         show Act.put _ (some 129) _ = _
                         simp only [Act.put, List.setIfInBounds_toArray, List.set_cons_zero, List.set_cons_succ, i64_w, i32_w]
                         rfl
                        refine pure_ (i := 8) (N := some 121) (v := ?_) (a' := ?_) #[true, true, true, true, true, true, true, true, true, false, false, true, false, false] rfl rfl (any_of HT_.out (by kernel_rfl)) (fun _ _ _ h => h) (Or.inl ⟨by rfl, ?_⟩) ?_ ?_
                        rotate_left
                        ·
                         intro w'
                         go_simp
                         with_reducible rfl
                        rotate_left
                        ·
                         simp only [Act.put, List.setIfInBounds_toArray, List.set_cons_zero, List.set_cons_succ, i64_w, i32_w]
                         rfl
                        refine pure_ (i := 9) (N := some 130) (v := ?_) (a' := ?_) #[true, true, true, true, true, true, true, true, true, true, false, true, false, false] rfl rfl (any_of HT_.out (by kernel_rfl)) (fun _ _ _ h => h) (Or.inl ⟨by rfl, ?_⟩) ?_ ?_
                        rotate_left
                        ·
                         intro w'
                         go_simp
                         with_reducible rfl
                        rotate_left
                        ·
                         simp only [Act.put, List.setIfInBounds_toArray, List.set_cons_zero, List.set_cons_succ, i64_w, i32_w]
                         rfl
                        refine pure_ (i := 10) (N := some 131) (v := ?_) (a' := ?_) #[true, true, true, true, true, true, true, true, true, true, true, true, false, false] rfl rfl (any_of HT_.out (by kernel_rfl)) (fun _ _ _ h => h) (Or.inl ⟨by rfl, ?_⟩) ?_ ?_
                        rotate_left
                        ·
                         intro w'
                         go_simp
                         with_reducible rfl
                        rotate_left
                        ·
                         simp only [Act.put, List.setIfInBounds_toArray, List.set_cons_zero, List.set_cons_succ, i64_w, i32_w]
                         rfl
                        exact norm_ (by simp only [putAll, Act.put, List.setIfInBounds_toArray, List.set_cons_zero, List.set_cons_succ]) (hCont (gb132) _ ⟨hHeld, (zo HO_7), (zw BK101), (zw BK102), (zw BK125), (zw BK132), GW132.out, GE132.out, NB101_132.out, NB132_101.out, NB102_132.out, NB132_102.out, NB125_132.out, NB132_125.out, (zh HB)⟩)
                      rintro gb132 w64 ⟨hS_, h0_, h1_, h2_, h3_, h4_, h5_, h6_, h7_, h8_, h9_, h10_, h11_, h12_, h13_⟩
                      have n0_ : Aside0 (Kd.R (Kd.int .i64) 3 w64 w.heap.size (fun _ => True) (.slice (some ad109) x7_2.length co32) x7_2) := ⟨h0_⟩
                      have n1_ : Aside0 (w64.heap[gb101]? = some (.cells #[.int .i64 a0_0, .bool a0_1, .int .u64 a0_2, .int .u64 a0_3, .int .u64 a0_4, .int .u64 a0_5] 49 (0, 0))) := ⟨h1_⟩
                      have n2_ : Aside0 (w64.heap[gb102]? = some (.cells #[.int .u64 a1_0, .int .u64 a1_1, .int .u64 a1_2, .bool a1_3] 51 (0, 0))) := ⟨h2_⟩
                      have n3_ : Aside0 (w64.heap[gb125]? = some (.cells #[.int .u64 t120, .int .u64 t121, .int .u64 t122, .bool t123] 51 (0, 0))) := ⟨h3_⟩
                      have n4_ : Aside0 (w64.heap[gb132]? = some (.cells #[.int .u64 0, .int .u64 0, .int .u64 0, .bool false] 51 (0, 0))) := ⟨h4_⟩
                      have n5_ : Aside0 (w.heap.size ≤ gb132) := ⟨h5_⟩
                      have n6_ : Aside0 (w.heap.size ≤ gb132) := ⟨h6_⟩
                      have n7_ : Aside0 (gb101 ≠ gb132) := ⟨h7_⟩
                      have n8_ : Aside0 (gb132 ≠ gb101) := ⟨h8_⟩
                      have n9_ : Aside0 (gb102 ≠ gb132) := ⟨h9_⟩
                      have n10_ : Aside0 (gb132 ≠ gb102) := ⟨h10_⟩
                      have n11_ : Aside0 (gb125 ≠ gb132) := ⟨h11_⟩
                      have n12_ : Aside0 (gb132 ≠ gb125) := ⟨h12_⟩
                      have n13_ : Aside0 (Below w.heap.size w w64) := ⟨h13_⟩
                      clear HO_7
                      clear BK101
                      clear BK102
                      clear BK125
                      clear HB
                      clear h0_ h1_ h2_ h3_ h4_ h5_ h6_ h7_ h8_ h9_ h10_ h11_ h12_ h13_
                      have HO_7 := n0_
                      have BK101 := n1_
                      have BK102 := n2_
                      have BK125 := n3_
                      have BK132 := n4_
                      have GW132 := n5_
                      have GE132 := n6_
                      have NB101_132 := n7_
                      have NB132_101 := n8_
                      have NB102_132 := n9_
                      have NB132_102 := n10_
                      have NB125_132 := n11_
                      have NB132_125 := n12_
                      have HB := n13_
                      clear n0_ n1_ n2_ n3_ n4_ n5_ n6_ n7_ n8_ n9_ n10_ n11_ n12_ n13_
                      have hHeld : w64.cell? ⟨gb101, 0, none⟩ = some (.int .i64 a0_0) ∧ w64.cell? ⟨gb101, 1, none⟩ = some (.bool a0_1) ∧ w64.cell? ⟨gb101, 2, none⟩ = some (.int .u64 a0_2) ∧ w64.cell? ⟨gb101, 3, none⟩ = some (.int .u64 a0_3) ∧ w64.cell? ⟨gb101, 4, none⟩ = some (.int .u64 a0_4) ∧ w64.cell? ⟨gb101, 5, none⟩ = some (.int .u64 a0_5) ∧ w64.cell? ⟨gb102, 0, none⟩ = some (.int .u64 a1_0) ∧ w64.cell? ⟨gb102, 1, none⟩ = some (.int .u64 a1_1) ∧ w64.cell? ⟨gb102, 2, none⟩ = some (.int .u64 a1_2) ∧ w64.cell? ⟨gb102, 3, none⟩ = some (.bool a1_3) ∧ w64.cell? ad109 = some (.int .i64 (rd x7_2 0)) := hS_
                      refine norm_ (a' := ?_) ?_ ?_
                      rotate_left
                      ·
                       simp only [putAll, Act.put, List.setIfInBounds_toArray, List.set_cons_zero, List.set_cons_succ]
                       rfl
                      refine one_ (i := 12) (N := none) #[true, true, true, true, true, true, true, true, true, true, true, true, true, false] rfl rfl (one_of HT_.out (by kernel_rfl)) (by decide) (fun K hK => ?_)
                      have hs65 : w64.cell? ⟨gb132, 0, none⟩ = some (.int .u64 0) := (zq5 BK132.out 0).trans rfl
                      have hfs65 := zq4 BK132.out 0
                      have hns65_0 := NB101_132.out
                      have hns65_1 := NB102_132.out
                      have hns65_2 := NB125_132.out
                      have hms65_0 := NB132_101.out
                      have hms65_1 := NB132_102.out
                      have hms65_2 := NB132_125.out
                      have hs66 : w64.cell? ⟨gb132, 1, none⟩ = some (.int .u64 0) := (zq5 BK132.out 1).trans rfl
                      have hfs66 := zq4 BK132.out 1
                      have hns66_0 := NB101_132.out
                      have hns66_1 := NB102_132.out
                      have hns66_2 := NB125_132.out
                      have hms66_0 := NB132_101.out
                      have hms66_1 := NB132_102.out
                      have hms66_2 := NB132_125.out
                      have hs67 : w64.cell? ⟨gb132, 2, none⟩ = some (.int .u64 0) := (zq5 BK132.out 2).trans rfl
                      have hfs67 := zq4 BK132.out 2
                      have hns67_0 := NB101_132.out
                      have hns67_1 := NB102_132.out
                      have hns67_2 := NB125_132.out
                      have hms67_0 := NB132_101.out
                      have hms67_1 := NB132_102.out
                      have hms67_2 := NB132_125.out
                      have hs68 : w64.cell? ⟨gb132, 3, none⟩ = some (.bool false) := (zq5 BK132.out 3).trans rfl
                      have hfs68 := zq4 BK132.out 3
                      have hns68_0 := NB101_132.out
                      have hns68_1 := NB102_132.out
                      have hns68_2 := NB125_132.out
                      have hms68_0 := NB132_101.out
                      have hms68_1 := NB132_102.out
                      have hms68_2 := NB132_125.out
                      refine skip_ (w1 := ?_) (by rfl) rfl ?_ ?_
                      rotate_left
                      ·
                       go_simp
                       rfl
                      refine hK.out _ _ ⟨((cell_far (p := ⟨gb132, _, none⟩) NB101_132.out _).trans (((cell_far (p := ⟨gb132, _, none⟩) NB101_132.out _).trans (((cell_far (p := ⟨gb132, _, none⟩) NB101_132.out _).trans (((cell_far (p := ⟨gb132, _, none⟩) NB101_132.out _).trans (hHeld.1)))))))), ((cell_far (p := ⟨gb132, _, none⟩) NB101_132.out _).trans (((cell_far (p := ⟨gb132, _, none⟩) NB101_132.out _).trans (((cell_far (p := ⟨gb132, _, none⟩) NB101_132.out _).trans (((cell_far (p := ⟨gb132, _, none⟩) NB101_132.out _).trans (hHeld.2.1)))))))), ((cell_far (p := ⟨gb132, _, none⟩) NB101_132.out _).trans (((cell_far (p := ⟨gb132, _, none⟩) NB101_132.out _).trans (((cell_far (p := ⟨gb132, _, none⟩) NB101_132.out _).trans (((cell_far (p := ⟨gb132, _, none⟩) NB101_132.out _).trans (hHeld.2.2.1)))))))), ((cell_far (p := ⟨gb132, _, none⟩) NB101_132.out _).trans (((cell_far (p := ⟨gb132, _, none⟩) NB101_132.out _).trans (((cell_far (p := ⟨gb132, _, none⟩) NB101_132.out _).trans (((cell_far (p := ⟨gb132, _, none⟩) NB101_132.out _).trans (hHeld.2.2.2.1)))))))), ((cell_far (p := ⟨gb132, _, none⟩) NB101_132.out _).trans (((cell_far (p := ⟨gb132, _, none⟩) NB101_132.out _).trans (((cell_far (p := ⟨gb132, _, none⟩) NB101_132.out _).trans (((cell_far (p := ⟨gb132, _, none⟩) NB101_132.out _).trans (hHeld.2.2.2.2.1)))))))), ((cell_far (p := ⟨gb132, _, none⟩) NB101_132.out _).trans (((cell_far (p := ⟨gb132, _, none⟩) NB101_132.out _).trans (((cell_far (p := ⟨gb132, _, none⟩) NB101_132.out _).trans (((cell_far (p := ⟨gb132, _, none⟩) NB101_132.out _).trans (hHeld.2.2.2.2.2.1)))))))), ((cell_far (p := ⟨gb132, _, none⟩) NB102_132.out _).trans (((cell_far (p := ⟨gb132, _, none⟩) NB102_132.out _).trans (((cell_far (p := ⟨gb132, _, none⟩) NB102_132.out _).trans (((cell_far (p := ⟨gb132, _, none⟩) NB102_132.out _).trans (hHeld.2.2.2.2.2.2.1)))))))), ((cell_far (p := ⟨gb132, _, none⟩) NB102_132.out _).trans (((cell_far (p := ⟨gb132, _, none⟩) NB102_132.out _).trans (((cell_far (p := ⟨gb132, _, none⟩) NB102_132.out _).trans (((cell_far (p := ⟨gb132, _, none⟩) NB102_132.out _).trans (hHeld.2.2.2.2.2.2.2.1)))))))), ((cell_far (p := ⟨gb132, _, none⟩) NB102_132.out _).trans (((cell_far (p := ⟨gb132, _, none⟩) NB102_132.out _).trans (((cell_far (p := ⟨gb132, _, none⟩) NB102_132.out _).trans (((cell_far (p := ⟨gb132, _, none⟩) NB102_132.out _).trans (hHeld.2.2.2.2.2.2.2.2.1)))))))), ((cell_far (p := ⟨gb132, _, none⟩) NB102_132.out _).trans (((cell_far (p := ⟨gb132, _, none⟩) NB102_132.out _).trans (((cell_far (p := ⟨gb132, _, none⟩) NB102_132.out _).trans (((cell_far (p := ⟨gb132, _, none⟩) NB102_132.out _).trans (hHeld.2.2.2.2.2.2.2.2.2.1)))))))), ((cell_far (p := ⟨gb132, _, none⟩) (by first | exact Kd.own_blk (Kd.R_ne HO_7.out BK132.out (by decide)) | (rw [add_block]; exact Kd.own_blk (Kd.R_ne HO_7.out BK132.out (by decide))) | (show (Addr.add _ _).block ≠ _; rw [add_block]; exact Kd.own_blk (Kd.R_ne HO_7.out BK132.out (by decide))) | (dsimp only; exact Kd.own_blk (Kd.R_ne HO_7.out BK132.out (by decide)))) _).trans (((cell_far (p := ⟨gb132, _, none⟩) (by first | exact Kd.own_blk (Kd.R_ne HO_7.out BK132.out (by decide)) | (rw [add_block]; exact Kd.own_blk (Kd.R_ne HO_7.out BK132.out (by decide))) | (show (Addr.add _ _).block ≠ _; rw [add_block]; exact Kd.own_blk (Kd.R_ne HO_7.out BK132.out (by decide))) | (dsimp only; exact Kd.own_blk (Kd.R_ne HO_7.out BK132.out (by decide)))) _).trans (((cell_far (p := ⟨gb132, _, none⟩) (by first | exact Kd.own_blk (Kd.R_ne HO_7.out BK132.out (by decide)) | (rw [add_block]; exact Kd.own_blk (Kd.R_ne HO_7.out BK132.out (by decide))) | (show (Addr.add _ _).block ≠ _; rw [add_block]; exact Kd.own_blk (Kd.R_ne HO_7.out BK132.out (by decide))) | (dsimp only; exact Kd.own_blk (Kd.R_ne HO_7.out BK132.out (by decide)))) _).trans (((cell_far (p := ⟨gb132, _, none⟩) (by first | exact Kd.own_blk (Kd.R_ne HO_7.out BK132.out (by decide)) | (rw [add_block]; exact Kd.own_blk (Kd.R_ne HO_7.out BK132.out (by decide))) | (show (Addr.add _ _).block ≠ _; rw [add_block]; exact Kd.own_blk (Kd.R_ne HO_7.out BK132.out (by decide))) | (dsimp only; exact Kd.own_blk (Kd.R_ne HO_7.out BK132.out (by decide)))) _).trans (hHeld.2.2.2.2.2.2.2.2.2.2))))))))⟩ (fun hHeld => ?_)
                      clear hK K
                      refine pure_ (i := 13) (N := some 17) (v := ?_) (a' := ?_) #[true, true, true, true, true, true, true, true, true, true, true, true, true, true] rfl rfl (any_of HT_.out (by kernel_rfl)) (fun _ _ _ h => h) (Or.inl ⟨by rfl, ?_⟩) ?_ ?_
                      rotate_left
                      ·
                       intro w'
                       go_simp
                       with_reducible rfl
                      rotate_left
                      ·
                       simp only [Act.put, List.setIfInBounds_toArray, List.set_cons_zero, List.set_cons_succ, i64_w, i32_w]
                       rfl
                      refine done_ (done_of HT_.out (by kernel_rfl)) ?_
                      try go_wp2
                      go_roundg kj51
                      case measure => have := HJ3.out; have := HK2.out; have := HK3.out; have := HJ21.out; have := HJ29.out; have := HJ51.out; omega
                      case rel => exact ⟨(wrap64 (x9_3 + 1)), (by first | rfl | (simp; done) | (simp [*]; done)), H', ⟨by have := HJ3.out; have := HK2.out; have := HK3.out; have := HJ21.out; have := HJ29.out; have := HJ51.out; omega⟩, ⟨by (with_reducible repeat (first | apply Kd.R_alloc | apply Kd.R_drewN | apply Kd.R_drew)); exact Kd.R_mono (Kd.R_far (p := ⟨gb132, 3, none⟩) (Kd.R_far (p := ⟨gb132, 2, none⟩) (Kd.R_far (p := ⟨gb132, 1, none⟩) (Kd.R_far (p := ⟨gb132, 0, none⟩) (Kd.R_types HO_7.out BK132.out (by decide)) (fun _ hk => hk.2) (.int .u64 t127)) (fun _ hk => hk.2) (.int .u64 t128)) (fun _ hk => hk.2) (.int .u64 t129)) (fun _ hk => hk.2) (.bool t130)) (fun _ hk => trivial)⟩, ⟨zw BK101⟩, ⟨zw BK102⟩, ⟨zh HB⟩⟩
                    ·
                     rw [if_neg c58] at H
                     exact absurd H (by simp)
                   ·
                    replace c57 := Bool.eq_false_iff.mpr c57
                    subst c57
                    have H1 : (oTrue.l1 kj51 x7_2 (wrap64 (x9_3 + 1)) a0_0 a0_1 a0_2 a0_3 a0_4 a0_5 a1_0 a1_1 a1_2 a1_3) = some r := by rw [if_neg (show ¬ (false = true) by decide)] at H; exact H
                    clear H
                    have H := H1
                    clear H1
                    have H' := zq3 H
                    clear H
                    go_wp2
                    go_roundg kj51
                    case measure => have := HJ3.out; have := HK2.out; have := HK3.out; have := HJ21.out; have := HJ29.out; have := HJ51.out; omega
                    case rel => exact ⟨(wrap64 (x9_3 + 1)), (by first | rfl | (simp; done) | (simp [*]; done)), H', ⟨by have := HJ3.out; have := HK2.out; have := HK3.out; have := HJ21.out; have := HJ29.out; have := HJ51.out; omega⟩, ⟨zo HO_7⟩, ⟨zw BK101⟩, ⟨zw BK102⟩, ⟨zh HB⟩⟩
             ·
              replace c28 := Bool.eq_false_iff.mpr c28
              subst c28
              have H1 : ((meter_Step.f a0_0 a0_1 a0_2 a0_3 a0_4 a0_5 a1_0 a1_1 a1_2 a1_3 9223372036854775808 (rd x7_2 0) 0).bind fun bt113 => (if bt113.2.2.2.2 ≤ x9_3 then (none) else (oTrue.l1 kj21 x7_2 (wrap64 (x9_3 + 1)) a0_0 a0_1 a0_2 a0_3 a0_4 a0_5 a1_0 a1_1 a1_2 a1_3))) = some r := by rw [if_neg (show ¬ (false = true) by decide)] at H; exact H
              clear H
              have H := H1
              clear H1
              replace H := Option.bind_eq_some_iff.mp H
              obtain ⟨⟨t113, t114, t115, t116, t117⟩, A690, H⟩ := H
              replace H : (if t117 ≤ x9_3 then (none) else (oTrue.l1 kj21 x7_2 (wrap64 (x9_3 + 1)) a0_0 a0_1 a0_2 a0_3 a0_4 a0_5 a1_0 a1_1 a1_2 a1_3)) = some r := H
              have A69 := zq3 A690
              clear A690
              by_cases c70 : t117 ≤ x9_3
              ·
               rw [if_pos c70] at H
               exact absurd H (by simp)
              ·
               rw [if_neg c70] at H
               have c70b0 : decide (t117 ≤ x9_3) = false := decide_eq_false c70
               clear c70
               have H' := zq3 H
               clear H
               try go_wp2
               replace HO_7 := zq3 (Kd.R_drew HO_7.out); replace BK101 := zq3 (zq2 BK101.out); replace BK102 := zq3 (zq2 BK102.out); replace HB := zq3 (zq8 HB.out)
               obtain ⟨Ao72, co72, eo72⟩ := Kd.R_slice HO_7.out
               (first | subst eo72 | (injection eo72 with f1_ f2_ f3_; have f4_ := f1_.symm; have f5_ := f3_.symm; clear f1_ f2_ f3_; subst f4_; subst f5_))
               have p109 : 0 ≤ (0 : Int) := (by omega)
               have q109 : 0 < (x7_2.length : Int) := of_decide_eq_true (by first | (with_reducible assumption) | assumption)
               obtain ⟨ad109, e109, hx109_0⟩ := Kd.at_int (Kd.R_reads' HO_7.out).2.2 0 p109 q109
               cases e109
               have qi109 : (0 < x7_2.length) = True := eq_true (by omega)
               (try rw [show ((0 : Int)).toNat = 0 from rfl] at hx109_0)
               (try rw [Addr.add_zero'] at hx109_0)
               replace p109 := eq_true p109
               replace q109 := eq_true q109
               refine start_ (n := 12) (S := fun w' => w'.cell? ⟨gb101, 0, none⟩ = some (.int .i64 a0_0) ∧ w'.cell? ⟨gb101, 1, none⟩ = some (.bool a0_1) ∧ w'.cell? ⟨gb101, 2, none⟩ = some (.int .u64 a0_2) ∧ w'.cell? ⟨gb101, 3, none⟩ = some (.int .u64 a0_3) ∧ w'.cell? ⟨gb101, 4, none⟩ = some (.int .u64 a0_4) ∧ w'.cell? ⟨gb101, 5, none⟩ = some (.int .u64 a0_5) ∧ w'.cell? ⟨gb102, 0, none⟩ = some (.int .u64 a1_0) ∧ w'.cell? ⟨gb102, 1, none⟩ = some (.int .u64 a1_1) ∧ w'.cell? ⟨gb102, 2, none⟩ = some (.int .u64 a1_2) ∧ w'.cell? ⟨gb102, 3, none⟩ = some (.bool a1_3) ∧ w'.cell? ad109 = some (.int .i64 (rd x7_2 0))) (ds := []) #[false, false, false, false, false, false, false, false, false, false, false, false] (by kernel_rfl) rfl rfl ⟨(zq5 BK101.out 0).trans rfl, (zq5 BK101.out 1).trans rfl, (zq5 BK101.out 2).trans rfl, (zq5 BK101.out 3).trans rfl, (zq5 BK101.out 4).trans rfl, (zq5 BK101.out 5).trans rfl, (zq5 BK102.out 0).trans rfl, (zq5 BK102.out 1).trans rfl, (zq5 BK102.out 2).trans rfl, (zq5 BK102.out 3).trans rfl, hx109_0⟩ (fun hHeld => ?_); refine with_tabW oTrue.tab11 oTrue.bits11 (fun HT_ HW_ => ?_)
               generalize wc.drew = w71 at HO_7 BK101 BK102 HB hx109_0 hHeld ⊢
               refine pure_ (i := 2) (N := some 60) (v := ?_) (a' := ?_) #[false, false, true, false, false, false, false, false, false, false, false, false] rfl rfl (any_of HT_.out (by kernel_rfl)) (fun _ _ _ h => h) (Or.inl ⟨by rfl, ?_⟩) ?_ ?_
               rotate_left
               ·
                intro w'
                go_simp
                with_reducible rfl
               rotate_left
               ·
                simp only [Act.put, List.setIfInBounds_toArray, List.set_cons_zero, List.set_cons_succ, i64_w, i32_w]
                rfl
               refine pure_ (i := 3) (N := some 61) (v := ?_) (a' := ?_) #[false, false, true, true, false, false, false, false, false, false, false, false] rfl rfl (any_of HT_.out (by kernel_rfl)) (fun _ _ _ h => h) (Or.inl ⟨by rfl, ?_⟩) ?_ ?_
               rotate_left
               ·
                intro w'
                go_simp
                with_reducible rfl
               rotate_left
               ·
                simp only [Act.put, List.setIfInBounds_toArray, List.set_cons_zero, List.set_cons_succ, i64_w, i32_w]
                rfl
               refine pure_ (i := 5) (N := some 63) (v := ?_) (a' := ?_) #[false, false, true, true, false, true, false, false, false, false, false, false] rfl rfl (any_of HT_.out (by kernel_rfl)) (fun _ _ _ h => h) (Or.inl ⟨by rfl, ?_⟩) ?_ ?_
               rotate_left
               ·
                intro w'
                go_simp
                with_reducible rfl
               rotate_left
               ·
                simp only [Act.put, List.setIfInBounds_toArray, List.set_cons_zero, List.set_cons_succ, i64_w, i32_w]
                rfl
               refine take_ (i := 0) (N := some 58) (v := ?_) (a' := ?_) #[true, false, true, true, false, true, false, false, false, false, false, false] rfl rfl (take_ofW HT_.out HW_.out (by kernel_rfl)) (fun _ _ _ h => h) (Or.inl ⟨by rfl, ?_⟩) hHeld ?_ ?_
               rotate_left
               ·
                rintro w' ⟨s0, s1, s2, s3, s4, s5, s6, s7, s8, s9, s10⟩
                go_simp
                with_reducible rfl
               rotate_left
               ·
                simp only [Act.put, List.setIfInBounds_toArray, List.set_cons_zero, List.set_cons_succ, i64_w, i32_w]
                rfl
               refine take_ (i := 1) (N := some 59) (v := ?_) (a' := ?_) #[true, true, true, true, false, true, false, false, false, false, false, false] rfl rfl (take_ofW HT_.out HW_.out (by kernel_rfl)) (fun _ _ _ h => h) (Or.inl ⟨by rfl, ?_⟩) hHeld ?_ ?_
               rotate_left
               ·
                rintro w' ⟨s0, s1, s2, s3, s4, s5, s6, s7, s8, s9, s10⟩
                go_simp
                with_reducible rfl
               rotate_left
               ·
                simp only [Act.put, List.setIfInBounds_toArray, List.set_cons_zero, List.set_cons_succ, i64_w, i32_w]
                rfl
               refine take_ (i := 4) (N := some 62) (v := ?_) (a' := ?_) #[true, true, true, true, true, true, false, false, false, false, false, false] rfl rfl (take_ofW HT_.out HW_.out (by kernel_rfl)) (fun _ _ _ h => h) (Or.inl ⟨by rfl, ?_⟩) hHeld ?_ ?_
               rotate_left
               ·
                rintro w' ⟨s0, s1, s2, s3, s4, s5, s6, s7, s8, s9, s10⟩
                go_simp
                with_reducible rfl
               rotate_left
               ·
                simp only [Act.put, List.setIfInBounds_toArray, List.set_cons_zero, List.set_cons_succ, i64_w, i32_w]
                rfl
               refine one_ (i := 6) (N := some 64) #[true, true, true, true, true, true, true, false, false, false, false, false] rfl rfl (one_of HT_.out (by kernel_rfl)) (by decide) (fun K hK => ?_)
               refine goes_ Try.func26 (by kernel_rfl) rfl #[.agg #[.int .i64 a0_0, .bool a0_1, .int .u64 a0_2, .int .u64 a0_3, .int .u64 a0_4, .int .u64 a0_5], .agg #[.int .u64 a1_0, .int .u64 a1_1, .int .u64 a1_2, .bool a1_3], .int .i64 (rd x7_2 0), .int .i64 x9_3] (by rfl) rfl rfl (by (try simp only [List.map_toArray, List.map_cons, List.map_nil]); first | done | rfl | (simp only [List.length_drop, List.length_take]; rfl)) ?_
               with_reducible refine (outlook_When.calls kj21 a0_0 a0_1 a0_2 a0_3 a0_4 a0_5 a1_0 a1_1 a1_2 a1_3 (rd x7_2 0) x9_3 t110 false _ A27.out).mono ?_
               rintro e w73 ⟨rfl, hb⟩
               have HS10_ := (hb.cell (World.block_lt_of_cell? _ _ (hHeld.2.2.2.2.2.2.2.2.2.2))).trans (hHeld.2.2.2.2.2.2.2.2.2.2)
               refine ⟨_, rfl, ?_⟩
               replace HO_7 := zr HO_7 hb; replace BK101 := zs BK101 hb; replace BK102 := zs BK102 hb; replace HB := zt HB hb
               (try clear hb)
               (try clear hb2)
               (try clear hk)
               (try clear hi)
               refine hK.out _ _ ⟨(zq5 BK101.out 0).trans rfl, (zq5 BK101.out 1).trans rfl, (zq5 BK101.out 2).trans rfl, (zq5 BK101.out 3).trans rfl, (zq5 BK101.out 4).trans rfl, (zq5 BK101.out 5).trans rfl, (zq5 BK102.out 0).trans rfl, (zq5 BK102.out 1).trans rfl, (zq5 BK102.out 2).trans rfl, (zq5 BK102.out 3).trans rfl, HS10_⟩ (fun hHeld => ?_)
               clear hK K
               refine norm_ (a' := ?_) ?_ ?_
               rotate_left
               ·
                show Act.put _ (some 64) _ = _
                simp only [Act.put, List.setIfInBounds_toArray, List.set_cons_zero, List.set_cons_succ, i64_w, i32_w]
                rfl
               refine pure_ (i := 7) (N := some 57) (v := ?_) (a' := ?_) #[true, true, true, true, true, true, true, true, false, false, false, false] rfl rfl (any_of HT_.out (by kernel_rfl)) (fun _ _ _ h => h) (Or.inl ⟨by rfl, ?_⟩) ?_ ?_
               rotate_left
               ·
                intro w'
                go_simp
                with_reducible rfl
               rotate_left
               ·
                simp only [Act.put, List.setIfInBounds_toArray, List.set_cons_zero, List.set_cons_succ, i64_w, i32_w]
                rfl
               refine pure_ (i := 8) (N := some 65) (v := ?_) (a' := ?_) #[true, true, true, true, true, true, true, true, true, false, false, false] rfl rfl (any_of HT_.out (by kernel_rfl)) (fun _ _ _ h => h) (Or.inl ⟨by rfl, ?_⟩) ?_ ?_
               rotate_left
               ·
                intro w'
                go_simp
                with_reducible rfl
               rotate_left
               ·
                simp only [Act.put, List.setIfInBounds_toArray, List.set_cons_zero, List.set_cons_succ, i64_w, i32_w]
                rfl
               refine pure_ (i := 9) (N := some 66) (v := ?_) (a' := ?_) #[true, true, true, true, true, true, true, true, true, true, false, false] rfl rfl (any_of HT_.out (by kernel_rfl)) (fun _ _ _ h => h) (Or.inl ⟨by rfl, ?_⟩) ?_ ?_
               rotate_left
               ·
                intro w'
                go_simp
                with_reducible rfl
               rotate_left
               ·
                simp only [Act.put, List.setIfInBounds_toArray, List.set_cons_zero, List.set_cons_succ, i64_w, i32_w]
                rfl
               refine pure_ (i := 10) (N := some 10) (v := ?_) (a' := ?_) #[true, true, true, true, true, true, true, true, true, true, true, false] rfl rfl (any_of HT_.out (by kernel_rfl)) (fun _ _ _ h => h) (Or.inl ⟨by rfl, ?_⟩) ?_ ?_
               rotate_left
               ·
                intro w'
                go_simp
                with_reducible rfl
               rotate_left
               ·
                simp only [Act.put, List.setIfInBounds_toArray, List.set_cons_zero, List.set_cons_succ, i64_w, i32_w]
                rfl
               refine pure_ (i := 11) (N := some 11) (v := ?_) (a' := ?_) #[true, true, true, true, true, true, true, true, true, true, true, true] rfl rfl (any_of HT_.out (by kernel_rfl)) (fun _ _ _ h => h) (Or.inl ⟨by rfl, ?_⟩) ?_ ?_
               rotate_left
               ·
                intro w'
                go_simp
                with_reducible rfl
               rotate_left
               ·
                simp only [Act.put, List.setIfInBounds_toArray, List.set_cons_zero, List.set_cons_succ, i64_w, i32_w]
                rfl
               refine done_ (done_of HT_.out (by kernel_rfl)) ?_
               try go_wp2
               replace HO_7 := zq3 (Kd.R_drew HO_7.out); replace BK101 := zq3 (zq2 BK101.out); replace BK102 := zq3 (zq2 BK102.out); replace HB := zq3 (zq8 HB.out)
               have p112 : 0 ≤ (0 : Int) := (by omega)
               have q112 : 0 < (x7_2.length : Int) := of_decide_eq_true (by first | (with_reducible assumption) | assumption)
               obtain ⟨ad112, e112, hx112_0⟩ := Kd.at_int (Kd.R_reads' HO_7.out).2.2 0 p112 q112
               obtain rfl : ad109 = ad112 := (by injection e112)
               have qi112 : (0 < x7_2.length) = True := eq_true (by omega)
               (try rw [show ((0 : Int)).toNat = 0 from rfl] at hx112_0)
               (try rw [Addr.add_zero'] at hx112_0)
               replace p112 := eq_true p112
               replace q112 := eq_true q112
               refine start_ (n := 12) (S := fun w' => w'.cell? ⟨gb101, 0, none⟩ = some (.int .i64 a0_0) ∧ w'.cell? ⟨gb101, 1, none⟩ = some (.bool a0_1) ∧ w'.cell? ⟨gb101, 2, none⟩ = some (.int .u64 a0_2) ∧ w'.cell? ⟨gb101, 3, none⟩ = some (.int .u64 a0_3) ∧ w'.cell? ⟨gb101, 4, none⟩ = some (.int .u64 a0_4) ∧ w'.cell? ⟨gb101, 5, none⟩ = some (.int .u64 a0_5) ∧ w'.cell? ⟨gb102, 0, none⟩ = some (.int .u64 a1_0) ∧ w'.cell? ⟨gb102, 1, none⟩ = some (.int .u64 a1_1) ∧ w'.cell? ⟨gb102, 2, none⟩ = some (.int .u64 a1_2) ∧ w'.cell? ⟨gb102, 3, none⟩ = some (.bool a1_3) ∧ w'.cell? ad109 = some (.int .i64 (rd x7_2 0))) (ds := []) #[false, false, false, false, false, false, false, false, false, false, false, false] (by kernel_rfl) rfl rfl ⟨(zq5 BK101.out 0).trans rfl, (zq5 BK101.out 1).trans rfl, (zq5 BK101.out 2).trans rfl, (zq5 BK101.out 3).trans rfl, (zq5 BK101.out 4).trans rfl, (zq5 BK101.out 5).trans rfl, (zq5 BK102.out 0).trans rfl, (zq5 BK102.out 1).trans rfl, (zq5 BK102.out 2).trans rfl, (zq5 BK102.out 3).trans rfl, hx112_0⟩ (fun hHeld => ?_); refine with_tabW oTrue.tab13 oTrue.bits13 (fun HT_ HW_ => ?_)
               generalize w73.drew = w74 at HO_7 BK101 BK102 HB hx112_0 hHeld ⊢
               refine pure_ (i := 2) (N := some 72) (v := ?_) (a' := ?_) #[false, false, true, false, false, false, false, false, false, false, false, false] rfl rfl (any_of HT_.out (by kernel_rfl)) (fun _ _ _ h => h) (Or.inl ⟨by rfl, ?_⟩) ?_ ?_
               rotate_left
               ·
                intro w'
                go_simp
                with_reducible rfl
               rotate_left
               ·
                simp only [Act.put, List.setIfInBounds_toArray, List.set_cons_zero, List.set_cons_succ, i64_w, i32_w]
                rfl
               refine pure_ (i := 3) (N := some 73) (v := ?_) (a' := ?_) #[false, false, true, true, false, false, false, false, false, false, false, false] rfl rfl (any_of HT_.out (by kernel_rfl)) (fun _ _ _ h => h) (Or.inl ⟨by rfl, ?_⟩) ?_ ?_
               rotate_left
               ·
                intro w'
                go_simp
                with_reducible rfl
               rotate_left
               ·
                simp only [Act.put, List.setIfInBounds_toArray, List.set_cons_zero, List.set_cons_succ, i64_w, i32_w]
                rfl
               refine take_ (i := 0) (N := some 70) (v := ?_) (a' := ?_) #[true, false, true, true, false, false, false, false, false, false, false, false] rfl rfl (take_ofW HT_.out HW_.out (by kernel_rfl)) (fun _ _ _ h => h) (Or.inl ⟨by rfl, ?_⟩) hHeld ?_ ?_
               rotate_left
               ·
                rintro w' ⟨s0, s1, s2, s3, s4, s5, s6, s7, s8, s9, s10⟩
                go_simp
                with_reducible rfl
               rotate_left
               ·
                simp only [Act.put, List.setIfInBounds_toArray, List.set_cons_zero, List.set_cons_succ, i64_w, i32_w]
                rfl
               refine take_ (i := 1) (N := some 71) (v := ?_) (a' := ?_) #[true, true, true, true, false, false, false, false, false, false, false, false] rfl rfl (take_ofW HT_.out HW_.out (by kernel_rfl)) (fun _ _ _ h => h) (Or.inl ⟨by rfl, ?_⟩) hHeld ?_ ?_
               rotate_left
               ·
                rintro w' ⟨s0, s1, s2, s3, s4, s5, s6, s7, s8, s9, s10⟩
                go_simp
                with_reducible rfl
               rotate_left
               ·
                simp only [Act.put, List.setIfInBounds_toArray, List.set_cons_zero, List.set_cons_succ, i64_w, i32_w]
                rfl
               refine take_ (i := 4) (N := some 74) (v := ?_) (a' := ?_) #[true, true, true, true, true, false, false, false, false, false, false, false] rfl rfl (take_ofW HT_.out HW_.out (by kernel_rfl)) (fun _ _ _ h => h) (Or.inl ⟨by rfl, ?_⟩) hHeld ?_ ?_
               rotate_left
               ·
                rintro w' ⟨s0, s1, s2, s3, s4, s5, s6, s7, s8, s9, s10⟩
                go_simp
                with_reducible rfl
               rotate_left
               ·
                simp only [Act.put, List.setIfInBounds_toArray, List.set_cons_zero, List.set_cons_succ, i64_w, i32_w]
                rfl
               refine join_ (σ := Nat) 2 #[true, true, true, true, true, true, true, true, true, true, false, false] (fun s_ => [(75, .tuple #[.agg #[.int .u64 t113, .int .u64 t114, .int .u64 t115, .bool t116], .int .i64 t117]), (12, .pointer (some ⟨s_, 0, none⟩)), (69, .tuple #[.agg #[.int .u64 t113, .int .u64 t114, .int .u64 t115, .bool t116], .int .i64 t117]), (76, .agg #[.int .u64 t113, .int .u64 t114, .int .u64 t115, .bool t116]), (77, .int .i64 t117)]) (fun s_ w' => (w'.cell? ⟨gb101, 0, none⟩ = some (.int .i64 a0_0) ∧ w'.cell? ⟨gb101, 1, none⟩ = some (.bool a0_1) ∧ w'.cell? ⟨gb101, 2, none⟩ = some (.int .u64 a0_2) ∧ w'.cell? ⟨gb101, 3, none⟩ = some (.int .u64 a0_3) ∧ w'.cell? ⟨gb101, 4, none⟩ = some (.int .u64 a0_4) ∧ w'.cell? ⟨gb101, 5, none⟩ = some (.int .u64 a0_5) ∧ w'.cell? ⟨gb102, 0, none⟩ = some (.int .u64 a1_0) ∧ w'.cell? ⟨gb102, 1, none⟩ = some (.int .u64 a1_1) ∧ w'.cell? ⟨gb102, 2, none⟩ = some (.int .u64 a1_2) ∧ w'.cell? ⟨gb102, 3, none⟩ = some (.bool a1_3) ∧ w'.cell? ad109 = some (.int .i64 (rd x7_2 0))) ∧ (Kd.R (Kd.int .i64) 3 w' w.heap.size (fun _ => True) (.slice (some ad109) x7_2.length co72) x7_2) ∧ (w'.heap[gb101]? = some (.cells #[.int .i64 a0_0, .bool a0_1, .int .u64 a0_2, .int .u64 a0_3, .int .u64 a0_4, .int .u64 a0_5] 49 (0, 0))) ∧ (w'.heap[gb102]? = some (.cells #[.int .u64 a1_0, .int .u64 a1_1, .int .u64 a1_2, .bool a1_3] 51 (0, 0))) ∧ (w'.heap[s_]? = some (.cells #[.int .u64 0, .int .u64 0, .int .u64 0, .bool false] 51 (0, 0))) ∧ (w.heap.size ≤ s_) ∧ (w.heap.size ≤ s_) ∧ (gb101 ≠ s_) ∧ (s_ ≠ gb101) ∧ (gb102 ≠ s_) ∧ (s_ ≠ gb102) ∧ (Below w.heap.size w w')) ?_ ?_
               rotate_left
               ·
                intro hCont
                refine two_ (i := 5) (j := 9) (Ni := some 75) (Nj := some 12) #[true, true, true, true, true, true, false, false, false, false, false, false] #[true, true, true, true, true, false, false, false, false, true, false, false] rfl rfl rfl rfl (two_of HT_.out (by kernel_rfl)) (by decide) (by decide) (fun K hK => ?_) (fun K hK => ?_)
                ·
                 skip
                 refine goes_ Try.func35 (by kernel_rfl) rfl #[.agg #[.int .i64 a0_0, .bool a0_1, .int .u64 a0_2, .int .u64 a0_3, .int .u64 a0_4, .int .u64 a0_5], .agg #[.int .u64 a1_0, .int .u64 a1_1, .int .u64 a1_2, .bool a1_3], .int .u64 9223372036854775808, .int .i64 (rd x7_2 0), .int .i64 0] (by rfl) rfl rfl (by (try simp only [List.map_toArray, List.map_cons, List.map_nil]); first | done | rfl | (simp only [List.length_drop, List.length_take]; rfl)) ?_
                 with_reducible refine (meter_Step.calls a0_0 a0_1 a0_2 a0_3 a0_4 a0_5 a1_0 a1_1 a1_2 a1_3 9223372036854775808 (rd x7_2 0) 0 t113 t114 t115 t116 t117 _ A69.out).mono ?_
                 rintro e w75 ⟨rfl, hb⟩
                 have HS10_ := (hb.cell (World.block_lt_of_cell? _ _ (hHeld.2.2.2.2.2.2.2.2.2.2))).trans (hHeld.2.2.2.2.2.2.2.2.2.2)
                 refine ⟨_, rfl, ?_⟩
                 replace HO_7 := zr HO_7 hb; replace BK101 := zs BK101 hb; replace BK102 := zs BK102 hb; replace HB := zt HB hb
                 (try clear hb)
                 (try clear hb2)
                 (try clear hk)
                 (try clear hi)
                 refine hK.out _ _ ⟨(zq5 BK101.out 0).trans rfl, (zq5 BK101.out 1).trans rfl, (zq5 BK101.out 2).trans rfl, (zq5 BK101.out 3).trans rfl, (zq5 BK101.out 4).trans rfl, (zq5 BK101.out 5).trans rfl, (zq5 BK102.out 0).trans rfl, (zq5 BK102.out 1).trans rfl, (zq5 BK102.out 2).trans rfl, (zq5 BK102.out 3).trans rfl, HS10_⟩ (fun hHeld => ?_)
                 clear hK K
                 refine norm_ (a' := ?_) ?_ ?_
                 rotate_left
                 ·
                  show Act.put _ (some 75) _ = _
                  simp only [Act.put, List.setIfInBounds_toArray, List.set_cons_zero, List.set_cons_succ, i64_w, i32_w]
                  rfl
                 refine pure_ (i := 6) (N := some 69) (v := ?_) (a' := ?_) #[true, true, true, true, true, true, true, false, false, false, false, false] rfl rfl (any_of HT_.out (by kernel_rfl)) (fun _ _ _ h => h) (Or.inl ⟨by rfl, ?_⟩) ?_ ?_
                 rotate_left
                 ·
                  intro w'
                  go_simp
                  with_reducible rfl
                 rotate_left
                 ·
                  simp only [Act.put, List.setIfInBounds_toArray, List.set_cons_zero, List.set_cons_succ, i64_w, i32_w]
                  rfl
                 refine pure_ (i := 7) (N := some 76) (v := ?_) (a' := ?_) #[true, true, true, true, true, true, true, true, false, false, false, false] rfl rfl (any_of HT_.out (by kernel_rfl)) (fun _ _ _ h => h) (Or.inl ⟨by rfl, ?_⟩) ?_ ?_
                 rotate_left
                 ·
                  intro w'
                  go_simp
                  with_reducible rfl
                 rotate_left
                 ·
                  simp only [Act.put, List.setIfInBounds_toArray, List.set_cons_zero, List.set_cons_succ, i64_w, i32_w]
                  rfl
                 refine pure_ (i := 8) (N := some 77) (v := ?_) (a' := ?_) #[true, true, true, true, true, true, true, true, true, false, false, false] rfl rfl (any_of HT_.out (by kernel_rfl)) (fun _ _ _ h => h) (Or.inl ⟨by rfl, ?_⟩) ?_ ?_
                 rotate_left
                 ·
                  intro w'
                  go_simp
                  with_reducible rfl
                 rotate_left
                 ·
                  simp only [Act.put, List.setIfInBounds_toArray, List.set_cons_zero, List.set_cons_succ, i64_w, i32_w]
                  rfl
                 refine one_ (i := 9) (N := some 12) #[true, true, true, true, true, true, true, true, true, true, false, false] rfl rfl (one_of HT_.out (by kernel_rfl)) (by decide) (fun K hK => ?_)
                 refine box_step ?hg (N := 12) ?hd (cs := #[.int .u64 0, .int .u64 0, .int .u64 0, .bool false]) (t := 51) ?hr ?_; (case hd => rfl); (case hg => rfl); (case hr => first | (go_simp; done) | (go_simp; rfl))
                 intro gb118 hg w76 hbox hb
                 have HS10_ := (hb.cell (World.block_lt_of_cell? _ _ (hHeld.2.2.2.2.2.2.2.2.2.2))).trans (hHeld.2.2.2.2.2.2.2.2.2.2)
                 have BK118 := zq3 (hbox); have GW118 := ze hg HB; have GE118 := GW118; have NB101_118 := zl hg BK101; have NB118_101 := zg hg BK101; have NB102_118 := zl hg BK102; have NB118_102 := zg hg BK102; replace HO_7 := zr HO_7 hb; replace BK101 := zs BK101 hb; replace BK102 := zs BK102 hb; replace HB := zt HB hb
                 clear hb hbox hg
                 refine hK.out _ _ ⟨(zq5 BK101.out 0).trans rfl, (zq5 BK101.out 1).trans rfl, (zq5 BK101.out 2).trans rfl, (zq5 BK101.out 3).trans rfl, (zq5 BK101.out 4).trans rfl, (zq5 BK101.out 5).trans rfl, (zq5 BK102.out 0).trans rfl, (zq5 BK102.out 1).trans rfl, (zq5 BK102.out 2).trans rfl, (zq5 BK102.out 3).trans rfl, HS10_⟩ (fun hHeld => ?_)
                 clear hK K
                 refine norm_ (a' := ?_) ?_ ?_
                 rotate_left
                 ·
                  show Act.put _ (some 12) _ = _
                  simp only [Act.put, List.setIfInBounds_toArray, List.set_cons_zero, List.set_cons_succ, i64_w, i32_w]
                  rfl
                 exact norm_ (by simp only [putAll, Act.put, List.setIfInBounds_toArray, List.set_cons_zero, List.set_cons_succ]) (hCont (gb118) _ ⟨hHeld, (zo HO_7), (zw BK101), (zw BK102), (zw BK118), GW118.out, GE118.out, NB101_118.out, NB118_101.out, NB102_118.out, NB118_102.out, (zh HB)⟩)
                ·
                 skip
                 refine box_step ?hg (N := 12) ?hd (cs := #[.int .u64 0, .int .u64 0, .int .u64 0, .bool false]) (t := 51) ?hr ?_; (case hd => rfl); (case hg => rfl); (case hr => first | (go_simp; done) | (go_simp; rfl))
                 intro gb118 hg w75 hbox hb
                 have HS10_ := (hb.cell (World.block_lt_of_cell? _ _ (hHeld.2.2.2.2.2.2.2.2.2.2))).trans (hHeld.2.2.2.2.2.2.2.2.2.2)
                 have BK118 := zq3 (hbox); have GW118 := ze hg HB; have GE118 := GW118; have NB101_118 := zl hg BK101; have NB118_101 := zg hg BK101; have NB102_118 := zl hg BK102; have NB118_102 := zg hg BK102; replace HO_7 := zr HO_7 hb; replace BK101 := zs BK101 hb; replace BK102 := zs BK102 hb; replace HB := zt HB hb
                 clear hb hbox hg
                 refine hK.out _ _ ⟨(zq5 BK101.out 0).trans rfl, (zq5 BK101.out 1).trans rfl, (zq5 BK101.out 2).trans rfl, (zq5 BK101.out 3).trans rfl, (zq5 BK101.out 4).trans rfl, (zq5 BK101.out 5).trans rfl, (zq5 BK102.out 0).trans rfl, (zq5 BK102.out 1).trans rfl, (zq5 BK102.out 2).trans rfl, (zq5 BK102.out 3).trans rfl, HS10_⟩ (fun hHeld => ?_)
                 clear hK K
                 refine norm_ (a' := ?_) ?_ ?_
                 rotate_left
                 ·
                  show Act.put _ (some 12) _ = _
                  simp only [Act.put, List.setIfInBounds_toArray, List.set_cons_zero, List.set_cons_succ, i64_w, i32_w]
                  rfl
                 refine one_ (i := 5) (N := some 75) #[true, true, true, true, true, true, false, false, false, true, false, false] rfl rfl (one_of HT_.out (by kernel_rfl)) (by decide) (fun K hK => ?_)
                 refine goes_ Try.func35 (by kernel_rfl) rfl #[.agg #[.int .i64 a0_0, .bool a0_1, .int .u64 a0_2, .int .u64 a0_3, .int .u64 a0_4, .int .u64 a0_5], .agg #[.int .u64 a1_0, .int .u64 a1_1, .int .u64 a1_2, .bool a1_3], .int .u64 9223372036854775808, .int .i64 (rd x7_2 0), .int .i64 0] (by rfl) rfl rfl (by (try simp only [List.map_toArray, List.map_cons, List.map_nil]); first | done | rfl | (simp only [List.length_drop, List.length_take]; rfl)) ?_
                 with_reducible refine (meter_Step.calls a0_0 a0_1 a0_2 a0_3 a0_4 a0_5 a1_0 a1_1 a1_2 a1_3 9223372036854775808 (rd x7_2 0) 0 t113 t114 t115 t116 t117 _ A69.out).mono ?_
                 rintro e w76 ⟨rfl, hb⟩
                 have HS10_ := (hb.cell (World.block_lt_of_cell? _ _ (hHeld.2.2.2.2.2.2.2.2.2.2))).trans (hHeld.2.2.2.2.2.2.2.2.2.2)
                 refine ⟨_, rfl, ?_⟩
                 replace HO_7 := zr HO_7 hb; replace BK101 := zs BK101 hb; replace BK102 := zs BK102 hb; replace BK118 := zs BK118 hb; replace HB := zt HB hb
                 (try clear hb)
                 (try clear hb2)
                 (try clear hk)
                 (try clear hi)
                 refine hK.out _ _ ⟨(zq5 BK101.out 0).trans rfl, (zq5 BK101.out 1).trans rfl, (zq5 BK101.out 2).trans rfl, (zq5 BK101.out 3).trans rfl, (zq5 BK101.out 4).trans rfl, (zq5 BK101.out 5).trans rfl, (zq5 BK102.out 0).trans rfl, (zq5 BK102.out 1).trans rfl, (zq5 BK102.out 2).trans rfl, (zq5 BK102.out 3).trans rfl, HS10_⟩ (fun hHeld => ?_)
                 clear hK K
                 refine norm_ (a' := ?_) ?_ ?_
                 rotate_left
                 ·
                  show Act.put _ (some 75) _ = _
                  simp only [Act.put, List.setIfInBounds_toArray, List.set_cons_zero, List.set_cons_succ, i64_w, i32_w]
                  rfl
                 refine pure_ (i := 6) (N := some 69) (v := ?_) (a' := ?_) #[true, true, true, true, true, true, true, false, false, true, false, false] rfl rfl (any_of HT_.out (by kernel_rfl)) (fun _ _ _ h => h) (Or.inl ⟨by rfl, ?_⟩) ?_ ?_
                 rotate_left
                 ·
                  intro w'
                  go_simp
                  with_reducible rfl
                 rotate_left
                 ·
                  simp only [Act.put, List.setIfInBounds_toArray, List.set_cons_zero, List.set_cons_succ, i64_w, i32_w]
                  rfl
                 refine pure_ (i := 7) (N := some 76) (v := ?_) (a' := ?_) #[true, true, true, true, true, true, true, true, false, true, false, false] rfl rfl (any_of HT_.out (by kernel_rfl)) (fun _ _ _ h => h) (Or.inl ⟨by rfl, ?_⟩) ?_ ?_
                 rotate_left
                 ·
                  intro w'
                  go_simp
                  with_reducible rfl
                 rotate_left
                 ·
                  simp only [Act.put, List.setIfInBounds_toArray, List.set_cons_zero, List.set_cons_succ, i64_w, i32_w]
                  rfl
                 refine pure_ (i := 8) (N := some 77) (v := ?_) (a' := ?_) #[true, true, true, true, true, true, true, true, true, true, false, false] rfl rfl (any_of HT_.out (by kernel_rfl)) (fun _ _ _ h => h) (Or.inl ⟨by rfl, ?_⟩) ?_ ?_
                 rotate_left
                 ·
                  intro w'
                  go_simp
                  with_reducible rfl
                 rotate_left
                 ·
                  simp only [Act.put, List.setIfInBounds_toArray, List.set_cons_zero, List.set_cons_succ, i64_w, i32_w]
                  rfl
                 exact norm_ (by simp only [putAll, Act.put, List.setIfInBounds_toArray, List.set_cons_zero, List.set_cons_succ]) (hCont (gb118) _ ⟨hHeld, (zo HO_7), (zw BK101), (zw BK102), (zw BK118), GW118.out, GE118.out, NB101_118.out, NB118_101.out, NB102_118.out, NB118_102.out, (zh HB)⟩)
               rintro gb118 w77 ⟨hS_, h0_, h1_, h2_, h3_, h4_, h5_, h6_, h7_, h8_, h9_, h10_⟩
               have n0_ : Aside0 (Kd.R (Kd.int .i64) 3 w77 w.heap.size (fun _ => True) (.slice (some ad109) x7_2.length co72) x7_2) := ⟨h0_⟩
               have n1_ : Aside0 (w77.heap[gb101]? = some (.cells #[.int .i64 a0_0, .bool a0_1, .int .u64 a0_2, .int .u64 a0_3, .int .u64 a0_4, .int .u64 a0_5] 49 (0, 0))) := ⟨h1_⟩
               have n2_ : Aside0 (w77.heap[gb102]? = some (.cells #[.int .u64 a1_0, .int .u64 a1_1, .int .u64 a1_2, .bool a1_3] 51 (0, 0))) := ⟨h2_⟩
               have n3_ : Aside0 (w77.heap[gb118]? = some (.cells #[.int .u64 0, .int .u64 0, .int .u64 0, .bool false] 51 (0, 0))) := ⟨h3_⟩
               have n4_ : Aside0 (w.heap.size ≤ gb118) := ⟨h4_⟩
               have n5_ : Aside0 (w.heap.size ≤ gb118) := ⟨h5_⟩
               have n6_ : Aside0 (gb101 ≠ gb118) := ⟨h6_⟩
               have n7_ : Aside0 (gb118 ≠ gb101) := ⟨h7_⟩
               have n8_ : Aside0 (gb102 ≠ gb118) := ⟨h8_⟩
               have n9_ : Aside0 (gb118 ≠ gb102) := ⟨h9_⟩
               have n10_ : Aside0 (Below w.heap.size w w77) := ⟨h10_⟩
               clear HO_7
               clear BK101
               clear BK102
               clear HB
               clear h0_ h1_ h2_ h3_ h4_ h5_ h6_ h7_ h8_ h9_ h10_
               have HO_7 := n0_
               have BK101 := n1_
               have BK102 := n2_
               have BK118 := n3_
               have GW118 := n4_
               have GE118 := n5_
               have NB101_118 := n6_
               have NB118_101 := n7_
               have NB102_118 := n8_
               have NB118_102 := n9_
               have HB := n10_
               clear n0_ n1_ n2_ n3_ n4_ n5_ n6_ n7_ n8_ n9_ n10_
               have hHeld : w77.cell? ⟨gb101, 0, none⟩ = some (.int .i64 a0_0) ∧ w77.cell? ⟨gb101, 1, none⟩ = some (.bool a0_1) ∧ w77.cell? ⟨gb101, 2, none⟩ = some (.int .u64 a0_2) ∧ w77.cell? ⟨gb101, 3, none⟩ = some (.int .u64 a0_3) ∧ w77.cell? ⟨gb101, 4, none⟩ = some (.int .u64 a0_4) ∧ w77.cell? ⟨gb101, 5, none⟩ = some (.int .u64 a0_5) ∧ w77.cell? ⟨gb102, 0, none⟩ = some (.int .u64 a1_0) ∧ w77.cell? ⟨gb102, 1, none⟩ = some (.int .u64 a1_1) ∧ w77.cell? ⟨gb102, 2, none⟩ = some (.int .u64 a1_2) ∧ w77.cell? ⟨gb102, 3, none⟩ = some (.bool a1_3) ∧ w77.cell? ad109 = some (.int .i64 (rd x7_2 0)) := hS_
               refine norm_ (a' := ?_) ?_ ?_
               rotate_left
               ·
                simp only [putAll, Act.put, List.setIfInBounds_toArray, List.set_cons_zero, List.set_cons_succ]
                rfl
               refine one_ (i := 10) (N := none) #[true, true, true, true, true, true, true, true, true, true, true, false] rfl rfl (one_of HT_.out (by kernel_rfl)) (by decide) (fun K hK => ?_)
               have hs78 : w77.cell? ⟨gb118, 0, none⟩ = some (.int .u64 0) := (zq5 BK118.out 0).trans rfl
               have hfs78 := zq4 BK118.out 0
               have hns78_0 := NB101_118.out
               have hns78_1 := NB102_118.out
               have hms78_0 := NB118_101.out
               have hms78_1 := NB118_102.out
               have hs79 : w77.cell? ⟨gb118, 1, none⟩ = some (.int .u64 0) := (zq5 BK118.out 1).trans rfl
               have hfs79 := zq4 BK118.out 1
               have hns79_0 := NB101_118.out
               have hns79_1 := NB102_118.out
               have hms79_0 := NB118_101.out
               have hms79_1 := NB118_102.out
               have hs80 : w77.cell? ⟨gb118, 2, none⟩ = some (.int .u64 0) := (zq5 BK118.out 2).trans rfl
               have hfs80 := zq4 BK118.out 2
               have hns80_0 := NB101_118.out
               have hns80_1 := NB102_118.out
               have hms80_0 := NB118_101.out
               have hms80_1 := NB118_102.out
               have hs81 : w77.cell? ⟨gb118, 3, none⟩ = some (.bool false) := (zq5 BK118.out 3).trans rfl
               have hfs81 := zq4 BK118.out 3
               have hns81_0 := NB101_118.out
               have hns81_1 := NB102_118.out
               have hms81_0 := NB118_101.out
               have hms81_1 := NB118_102.out
               refine skip_ (w1 := ?_) (by rfl) rfl ?_ ?_
               rotate_left
               ·
                go_simp
                rfl
               refine hK.out _ _ ⟨((cell_far (p := ⟨gb118, _, none⟩) NB101_118.out _).trans (((cell_far (p := ⟨gb118, _, none⟩) NB101_118.out _).trans (((cell_far (p := ⟨gb118, _, none⟩) NB101_118.out _).trans (((cell_far (p := ⟨gb118, _, none⟩) NB101_118.out _).trans (hHeld.1)))))))), ((cell_far (p := ⟨gb118, _, none⟩) NB101_118.out _).trans (((cell_far (p := ⟨gb118, _, none⟩) NB101_118.out _).trans (((cell_far (p := ⟨gb118, _, none⟩) NB101_118.out _).trans (((cell_far (p := ⟨gb118, _, none⟩) NB101_118.out _).trans (hHeld.2.1)))))))), ((cell_far (p := ⟨gb118, _, none⟩) NB101_118.out _).trans (((cell_far (p := ⟨gb118, _, none⟩) NB101_118.out _).trans (((cell_far (p := ⟨gb118, _, none⟩) NB101_118.out _).trans (((cell_far (p := ⟨gb118, _, none⟩) NB101_118.out _).trans (hHeld.2.2.1)))))))), ((cell_far (p := ⟨gb118, _, none⟩) NB101_118.out _).trans (((cell_far (p := ⟨gb118, _, none⟩) NB101_118.out _).trans (((cell_far (p := ⟨gb118, _, none⟩) NB101_118.out _).trans (((cell_far (p := ⟨gb118, _, none⟩) NB101_118.out _).trans (hHeld.2.2.2.1)))))))), ((cell_far (p := ⟨gb118, _, none⟩) NB101_118.out _).trans (((cell_far (p := ⟨gb118, _, none⟩) NB101_118.out _).trans (((cell_far (p := ⟨gb118, _, none⟩) NB101_118.out _).trans (((cell_far (p := ⟨gb118, _, none⟩) NB101_118.out _).trans (hHeld.2.2.2.2.1)))))))), ((cell_far (p := ⟨gb118, _, none⟩) NB101_118.out _).trans (((cell_far (p := ⟨gb118, _, none⟩) NB101_118.out _).trans (((cell_far (p := ⟨gb118, _, none⟩) NB101_118.out _).trans (((cell_far (p := ⟨gb118, _, none⟩) NB101_118.out _).trans (hHeld.2.2.2.2.2.1)))))))), ((cell_far (p := ⟨gb118, _, none⟩) NB102_118.out _).trans (((cell_far (p := ⟨gb118, _, none⟩) NB102_118.out _).trans (((cell_far (p := ⟨gb118, _, none⟩) NB102_118.out _).trans (((cell_far (p := ⟨gb118, _, none⟩) NB102_118.out _).trans (hHeld.2.2.2.2.2.2.1)))))))), ((cell_far (p := ⟨gb118, _, none⟩) NB102_118.out _).trans (((cell_far (p := ⟨gb118, _, none⟩) NB102_118.out _).trans (((cell_far (p := ⟨gb118, _, none⟩) NB102_118.out _).trans (((cell_far (p := ⟨gb118, _, none⟩) NB102_118.out _).trans (hHeld.2.2.2.2.2.2.2.1)))))))), ((cell_far (p := ⟨gb118, _, none⟩) NB102_118.out _).trans (((cell_far (p := ⟨gb118, _, none⟩) NB102_118.out _).trans (((cell_far (p := ⟨gb118, _, none⟩) NB102_118.out _).trans (((cell_far (p := ⟨gb118, _, none⟩) NB102_118.out _).trans (hHeld.2.2.2.2.2.2.2.2.1)))))))), ((cell_far (p := ⟨gb118, _, none⟩) NB102_118.out _).trans (((cell_far (p := ⟨gb118, _, none⟩) NB102_118.out _).trans (((cell_far (p := ⟨gb118, _, none⟩) NB102_118.out _).trans (((cell_far (p := ⟨gb118, _, none⟩) NB102_118.out _).trans (hHeld.2.2.2.2.2.2.2.2.2.1)))))))), ((cell_far (p := ⟨gb118, _, none⟩) (by first | exact Kd.own_blk (Kd.R_ne HO_7.out BK118.out (by decide)) | (rw [add_block]; exact Kd.own_blk (Kd.R_ne HO_7.out BK118.out (by decide))) | (show (Addr.add _ _).block ≠ _; rw [add_block]; exact Kd.own_blk (Kd.R_ne HO_7.out BK118.out (by decide))) | (dsimp only; exact Kd.own_blk (Kd.R_ne HO_7.out BK118.out (by decide)))) _).trans (((cell_far (p := ⟨gb118, _, none⟩) (by first | exact Kd.own_blk (Kd.R_ne HO_7.out BK118.out (by decide)) | (rw [add_block]; exact Kd.own_blk (Kd.R_ne HO_7.out BK118.out (by decide))) | (show (Addr.add _ _).block ≠ _; rw [add_block]; exact Kd.own_blk (Kd.R_ne HO_7.out BK118.out (by decide))) | (dsimp only; exact Kd.own_blk (Kd.R_ne HO_7.out BK118.out (by decide)))) _).trans (((cell_far (p := ⟨gb118, _, none⟩) (by first | exact Kd.own_blk (Kd.R_ne HO_7.out BK118.out (by decide)) | (rw [add_block]; exact Kd.own_blk (Kd.R_ne HO_7.out BK118.out (by decide))) | (show (Addr.add _ _).block ≠ _; rw [add_block]; exact Kd.own_blk (Kd.R_ne HO_7.out BK118.out (by decide))) | (dsimp only; exact Kd.own_blk (Kd.R_ne HO_7.out BK118.out (by decide)))) _).trans (((cell_far (p := ⟨gb118, _, none⟩) (by first | exact Kd.own_blk (Kd.R_ne HO_7.out BK118.out (by decide)) | (rw [add_block]; exact Kd.own_blk (Kd.R_ne HO_7.out BK118.out (by decide))) | (show (Addr.add _ _).block ≠ _; rw [add_block]; exact Kd.own_blk (Kd.R_ne HO_7.out BK118.out (by decide))) | (dsimp only; exact Kd.own_blk (Kd.R_ne HO_7.out BK118.out (by decide)))) _).trans (hHeld.2.2.2.2.2.2.2.2.2.2))))))))⟩ (fun hHeld => ?_)
               clear hK K
               refine pure_ (i := 11) (N := some 13) (v := ?_) (a' := ?_) #[true, true, true, true, true, true, true, true, true, true, true, true] rfl rfl (any_of HT_.out (by kernel_rfl)) (fun _ _ _ h => h) (Or.inl ⟨by rfl, ?_⟩) ?_ ?_
               rotate_left
               ·
                intro w'
                go_simp
                with_reducible rfl
               rotate_left
               ·
                simp only [Act.put, List.setIfInBounds_toArray, List.set_cons_zero, List.set_cons_succ, i64_w, i32_w]
                rfl
               refine done_ (done_of HT_.out (by kernel_rfl)) ?_
               try go_wp2
               go_roundg kj21
               case measure => have := HJ3.out; have := HK2.out; have := HK3.out; have := HJ21.out; omega
               case rel => exact ⟨(wrap64 (x9_3 + 1)), (by first | rfl | (simp; done) | (simp [*]; done)), H', ⟨by have := HJ3.out; have := HK2.out; have := HK3.out; have := HJ21.out; omega⟩, ⟨by (with_reducible repeat (first | apply Kd.R_alloc | apply Kd.R_drewN | apply Kd.R_drew)); exact Kd.R_mono (Kd.R_far (p := ⟨gb118, 3, none⟩) (Kd.R_far (p := ⟨gb118, 2, none⟩) (Kd.R_far (p := ⟨gb118, 1, none⟩) (Kd.R_far (p := ⟨gb118, 0, none⟩) (Kd.R_types HO_7.out BK118.out (by decide)) (fun _ hk => hk.2) (.int .u64 t113)) (fun _ hk => hk.2) (.int .u64 t114)) (fun _ hk => hk.2) (.int .u64 t115)) (fun _ hk => hk.2) (.bool t116)) (fun _ hk => trivial)⟩, ⟨zw BK101⟩, ⟨zw BK102⟩, ⟨zh HB⟩⟩
            ·
             rw [if_neg c26] at H
             exact absurd H (by simp)
           ·
            replace c25 := Bool.eq_false_iff.mpr c25
            subst c25
            have H1 : ((outlook_Pace.f kj21 a0_0 a0_1 a0_2 a0_3 a0_4 a0_5 x7_2 0).bind fun bt133 => (if (!(bt133.2.1 == 0) || (!(bt133.2.2 == 0))) = true then ((weighbridgelaw30_live.f kj21).bind fun t139 => (if t139 = true then (if bt133.2.1 = 8 then (some ((bt133.1.length : Int) == 0)) else (none)) else (none))) else (oTrue.l2 kj21 x7_2 bt133.1 ([] : List (S68)) 0 a0_0 a0_1 a0_2 a0_3 a0_4 a0_5))) = some r := by rw [if_neg (show ¬ (false = true) by decide)] at H; exact H
            clear H
            have H := H1
            clear H1
            replace H := Option.bind_eq_some_iff.mp H
            obtain ⟨⟨t133, t136, t137⟩, A820, H⟩ := H
            replace H : (if (!(t136 == 0) || (!(t137 == 0))) = true then ((weighbridgelaw30_live.f kj21).bind fun t139 => (if t139 = true then (if t136 = 8 then (some ((t133.length : Int) == 0)) else (none)) else (none))) else (oTrue.l2 kj21 x7_2 t133 ([] : List (S68)) 0 a0_0 a0_1 a0_2 a0_3 a0_4 a0_5)) = some r := H
            have A82 := zq3 A820
            clear A820
            by_cases c83 : (!(t136 == 0) || (!(t137 == 0))) = true
            ·
             rw [if_pos c83] at H
             have c83b0 : (!(t136 == 0) || (!(t137 == 0))) = true := c83
             clear c83
             replace H := Option.bind_eq_some_iff.mp H
             obtain ⟨t139, A840, H⟩ := H
             replace H : (if t139 = true then (if t136 = 8 then (some ((t133.length : Int) == 0)) else (none)) else (none)) = some r := H
             have A84 := zq3 A840
             clear A840
             by_cases c85 : t139 = true
             ·
              subst c85
              have H1 : (if t136 = 8 then (some ((t133.length : Int) == 0)) else (none)) = some r := by rw [if_pos rfl] at H; exact H
              clear H
              have H := H1
              clear H1
              by_cases c86 : t136 = 8
              ·
               rw [if_pos c86] at H
               have c86b0 : (t136 == 8) = true := beq_iff_eq.mpr c86
               have c86b1 : (t136 != 8) = false := bne_eq_false_iff_eq.mpr c86
               clear c86
               obtain rfl := Option.some.inj H
               have hnb87 := NB101_102.out
               have hnc87 := NB102_101.out
               obtain ⟨hc88_0, hc88_1, hc88_2, hc88_3, hc88_4, hc88_5⟩ := zc6 BK101
               obtain ⟨hf88_0, hf88_1, hf88_2, hf88_3, hf88_4, hf88_5⟩ := zf6 BK101
               obtain ⟨Ao89, co89, eo89⟩ := Kd.R_slice HO_7.out
               subst eo89
               go_wp2_with (first | ((with_reducible refine gate_callee (f := 31) rfl ?_); refine zgo (some 138) Try.func31 #[.agg #[.int .i64 a0_0, .bool a0_1, .int .u64 a0_2, .int .u64 a0_3, .int .u64 a0_4, .int .u64 a0_5], .slice Ao89 x7_2.length co89, .int .i64 0] ?_; (with_reducible refine (outlook_Pace.calls kj21 a0_0 a0_1 a0_2 a0_3 a0_4 a0_5 _ _ x7_2 0 t133 t136 t137 _ ?side1 ?side2 A82.out).mono ?_); (case side1 => repeat (first | exact (Kd.R_reads' HO_7.out).2.2 | (with_reducible refine Kd.C_alloc ?_ _) | (with_reducible refine Kd.C_drewN ?_ _) | (with_reducible refine Kd.C_drew ?_))); (case side2 => exact (Kd.R_reads' HO_7.out).2.1); rintro e w90 ⟨v134, rfl, ho0, hb⟩; refine ⟨_, rfl, ?_⟩; have HO135 := zq3 (Kd.R_lower ho0 (below_size (zh HB))); replace HO_7 := zr HO_7 hb; replace BK101 := zs BK101 hb; replace BK102 := zs BK102 hb; replace HB := zt HB hb; (try clear hb); (try clear ho0)) | ((with_reducible refine gate_dst (N := 19) rfl ?_); (try (refine gate_guard (by rfl) ?_; dsimp only)); refine box_event ?hg (N := 19) ?hd (cs := #[.int .i64 0, .int .i64 0]) (t := 26) ?hr ?_; (case hd => rfl); (case hg => rfl); (case hr => first | (go_simp; done) | (go_simp; rfl)); intro gb138 hg w91 hbox hb; have BK138 := zq3 (hbox); have GW138 := ze hg HB; have GE138 := GW138; have NB101_138 := zl hg BK101; have NB138_101 := zg hg BK101; have NB102_138 := zl hg BK102; have NB138_102 := zg hg BK102; replace HO_7 := zr HO_7 hb; replace HO135 := zq3 (Kd.R_below (by (with_reducible repeat (first | apply Kd.R_alloc | apply Kd.R_drewN | apply Kd.R_drew)); exact HO135.out) hb); replace BK101 := zs BK101 hb; replace BK102 := zs BK102 hb; replace HB := zt HB hb; clear hb hbox hg; have hnb92 := NB138_101.out; have hnc92 := NB101_138.out; have hnb93 := NB138_102.out; have hnc93 := NB102_138.out; obtain ⟨hc94_0, hc94_1⟩ := zc2 BK138; obtain ⟨hf94_0, hf94_1⟩ := zf2 BK138) | ((with_reducible refine gate_callee (f := 30) rfl ?_); refine zgo (some 144) Try.func30 #[] ?_; (with_reducible refine (weighbridgelaw30_live.calls kj21  true _ A84.out).mono ?_); rintro e w95 ⟨rfl, hb⟩; refine ⟨_, rfl, ?_⟩; replace HO_7 := zq3 (Kd.R_below (by (with_reducible repeat (first | apply Kd.R_alloc | apply Kd.R_drewN | apply Kd.R_drew)); exact (Kd.R_mono (Kd.R_far (p := ⟨gb138, 1, none⟩) (Kd.R_far (p := ⟨gb138, 0, none⟩) (Kd.R_types HO_7.out BK138.out (by decide)) (fun _ hk => hk.2) (.int .i64 t136)) (fun _ hk => hk.2) (.int .i64 t137)) (fun _ h_ => h_.1))) hb); replace HO135 := zq3 (Kd.R_below (by (with_reducible repeat (first | apply Kd.R_alloc | apply Kd.R_drewN | apply Kd.R_drew)); exact (Kd.R_mono (Kd.R_far (p := ⟨gb138, 1, none⟩) (Kd.R_far (p := ⟨gb138, 0, none⟩) (Kd.R_types HO135.out BK138.out (by decide)) (fun _ hk => hk.2) (.int .i64 t136)) (fun _ hk => hk.2) (.int .i64 t137)) (fun _ h_ => h_.1))) hb); replace BK101 := zsf BK101 hb; replace BK102 := zsf BK102 hb; replace BK138 := zq3 (zq10 (o := .cells #[.int .i64 t136, .int .i64 t137] 26 (0, 0)) (zw2 BK138) hb); replace HB := zt HB hb; (try clear hb); (try clear hk); obtain ⟨hc96_0, hc96_1⟩ := zc2 BK138; obtain ⟨hf96_0, hf96_1⟩ := zf2 BK138; obtain ⟨Ao97, co97, eo97⟩ := Kd.R_slice HO135.out; subst eo97))
               go_ret
               exact ⟨by first | rfl | (simp [errW_none, errW_some] <;> rfl) | (simp [*, errW_none, errW_some] <;> rfl), zh HB⟩
              ·
               rw [if_neg c86] at H
               exact absurd H (by simp)
             ·
              replace c85 := Bool.eq_false_iff.mpr c85
              subst c85
              have H1 : (none) = some r := by rw [if_neg (show ¬ (false = true) by decide)] at H; exact H
              clear H
              have H := H1
              clear H1
              exact absurd H (by simp)
            ·
             rw [if_neg c83] at H
             have c83b0 : (!(t136 == 0) || (!(t137 == 0))) = false := by simpa using c83
             clear c83
             have HC98 := zq3 H
             clear H
             have hnb99 := NB101_102.out
             have hnc99 := NB102_101.out
             obtain ⟨hc100_0, hc100_1, hc100_2, hc100_3, hc100_4, hc100_5⟩ := zc6 BK101
             obtain ⟨hf100_0, hf100_1, hf100_2, hf100_3, hf100_4, hf100_5⟩ := zf6 BK101
             obtain ⟨Ao101, co101, eo101⟩ := Kd.R_slice HO_7.out
             subst eo101
             go_upto_block 4 with (first | ((with_reducible refine gate_callee (f := 31) rfl ?_); refine zgo (some 138) Try.func31 #[.agg #[.int .i64 a0_0, .bool a0_1, .int .u64 a0_2, .int .u64 a0_3, .int .u64 a0_4, .int .u64 a0_5], .slice Ao101 x7_2.length co101, .int .i64 0] ?_; (with_reducible refine (outlook_Pace.calls kj21 a0_0 a0_1 a0_2 a0_3 a0_4 a0_5 _ _ x7_2 0 t133 t136 t137 _ ?side1 ?side2 A82.out).mono ?_); (case side1 => repeat (first | exact (Kd.R_reads' HO_7.out).2.2 | (with_reducible refine Kd.C_alloc ?_ _) | (with_reducible refine Kd.C_drewN ?_ _) | (with_reducible refine Kd.C_drew ?_))); (case side2 => exact (Kd.R_reads' HO_7.out).2.1); rintro e w102 ⟨v134, rfl, ho0, hb⟩; refine ⟨_, rfl, ?_⟩; have HO135 := zq3 (Kd.R_lower ho0 (below_size (zh HB))); replace HO_7 := zr HO_7 hb; replace BK101 := zs BK101 hb; replace BK102 := zs BK102 hb; replace HB := zt HB hb; (try clear hb); (try clear ho0)) | ((with_reducible refine gate_dst (N := 19) rfl ?_); (try (refine gate_guard (by rfl) ?_; dsimp only)); refine box_event ?hg (N := 19) ?hd (cs := #[.int .i64 0, .int .i64 0]) (t := 26) ?hr ?_; (case hd => rfl); (case hg => rfl); (case hr => first | (go_simp; done) | (go_simp; rfl)); intro gb138 hg w103 hbox hb; have BK138 := zq3 (hbox); have GW138 := ze hg HB; have GE138 := GW138; have NB101_138 := zl hg BK101; have NB138_101 := zg hg BK101; have NB102_138 := zl hg BK102; have NB138_102 := zg hg BK102; replace HO_7 := zr HO_7 hb; replace HO135 := zq3 (Kd.R_below (by (with_reducible repeat (first | apply Kd.R_alloc | apply Kd.R_drewN | apply Kd.R_drew)); exact HO135.out) hb); replace BK101 := zs BK101 hb; replace BK102 := zs BK102 hb; replace HB := zt HB hb; clear hb hbox hg; have hnb104 := NB138_101.out; have hnc104 := NB101_138.out; have hnb105 := NB138_102.out; have hnc105 := NB102_138.out; obtain ⟨hc106_0, hc106_1⟩ := zc2 BK138; obtain ⟨hf106_0, hf106_1⟩ := zf2 BK138))
             (try simp only [Act.put, List.setIfInBounds_toArray, List.set_cons_zero, List.set_cons_succ])
             go_cut [20] (fun v20 wc => ∃ (kq : Nat) (x20_97 : List (S68)), Aside0 (oTrue.j7 kq x7_2 t133 x20_97 a0_0 a0_1 a0_2 a0_3 a0_4 a0_5 = some r) ∧ Aside0 (kq ≤ kj21) ∧ Aside0 (Kd.R (Kd.int .i64) 3 wc w.heap.size (fun _ => True) (.slice Ao101 x7_2.length co101) x7_2) ∧ Aside0 (Kd.R (Kd.int .u64) 23 wc w.heap.size (fun _ => True) v134 t133) ∧ Aside0 (Kd.R k68 68 wc w.heap.size (fun _ => True) v20 x20_97) ∧ Aside0 (wc.heap[gb101]? = some (.cells #[.int .i64 a0_0, .bool a0_1, .int .u64 a0_2, .int .u64 a0_3, .int .u64 a0_4, .int .u64 a0_5] 49 (0, 0))) ∧ Aside0 (wc.heap[gb102]? = some (.cells #[.int .u64 a1_0, .int .u64 a1_1, .int .u64 a1_2, .bool a1_3] 51 (0, 0))) ∧ Aside0 (wc.heap[gb138]? = some (.cells #[.int .i64 t136, .int .i64 t137] 26 (0, 0))) ∧ Aside0 (Below w.heap.size w wc))
             case first => as_aux_lemma =>
              have H := HC98.out
              clear HC98
              have H' := zq3 H
              clear H
              go_wp2
              go_loopg [20, 21] kj21 (fun kq v20 v21 w' => ∃ (x20_5 : List (S68)) (x21_5 : Int), v21 = .int .i64 x21_5 ∧ Aside0 (oTrue.l2 kq x7_2 t133 x20_5 x21_5 a0_0 a0_1 a0_2 a0_3 a0_4 a0_5 = some r) ∧ Aside0 (kq ≤ kj21) ∧ Aside0 (Kd.R (Kd.int .i64) 3 w' w.heap.size (fun _ => True) (.slice Ao101 x7_2.length co101) x7_2) ∧ Aside0 (Kd.R (Kd.int .u64) 23 w' w.heap.size (fun _ => True) v134 t133) ∧ Aside0 (Kd.R k68 68 w' w.heap.size (fun _ => True) v20 x20_5) ∧ Aside0 (w'.heap[gb101]? = some (.cells #[.int .i64 a0_0, .bool a0_1, .int .u64 a0_2, .int .u64 a0_3, .int .u64 a0_4, .int .u64 a0_5] 49 (0, 0))) ∧ Aside0 (w'.heap[gb102]? = some (.cells #[.int .u64 a1_0, .int .u64 a1_1, .int .u64 a1_2, .bool a1_3] 51 (0, 0))) ∧ Aside0 (w'.heap[gb138]? = some (.cells #[.int .i64 t136, .int .i64 t137] 26 (0, 0))) ∧ Aside0 (Below w.heap.size w w'))
              case atStart => exact ⟨(([] : List (S68))), (0), (by first | rfl | (simp; done) | (simp [*]; done)), H', ⟨Nat.le_refl _⟩, ⟨by (with_reducible repeat (first | apply Kd.R_alloc | apply Kd.R_drewN | apply Kd.R_drew)); exact Kd.R_mono (Kd.R_far (p := ⟨gb138, 1, none⟩) (Kd.R_far (p := ⟨gb138, 0, none⟩) (Kd.R_types HO_7.out BK138.out (by decide)) (fun _ hk => hk.2) (.int .i64 t136)) (fun _ hk => hk.2) (.int .i64 t137)) (fun _ hk => trivial)⟩, ⟨by (with_reducible repeat (first | apply Kd.R_alloc | apply Kd.R_drewN | apply Kd.R_drew)); exact Kd.R_mono (Kd.R_far (p := ⟨gb138, 1, none⟩) (Kd.R_far (p := ⟨gb138, 0, none⟩) (Kd.R_types HO135.out BK138.out (by decide)) (fun _ hk => hk.2) (.int .i64 t136)) (fun _ hk => hk.2) (.int .i64 t137)) (fun _ hk => trivial)⟩, ⟨by first | exact Kd.R_nil _ _ _ _ _ | exact Kd.N_nil _ _ _ _ _ | exact Kd.V_nil _ _ _ _ _ | exact Kd.Q_nil _ _ _ _ _ | exact Kd.S_nil _ _ _ _ _⟩, ⟨zw BK101⟩, ⟨zw BK102⟩, ⟨zw2 BK138⟩, ⟨zh HB⟩⟩
              case round => as_aux_lemma =>
               clear H'
               (try clear c1); (try clear p1); (try clear q1); (try clear hx1); (try clear qi1); (try clear c2); (try clear p2); (try clear c3); (try clear p6); (try clear c7); (try clear c8); (try clear c9); (try clear c10); (try clear p10); (try clear q10); (try clear hx10); (try clear qi10); (try clear p11); (try clear q11); (try clear hx11); (try clear qi11); (try clear c25); (try clear c26); (try clear c28); (try clear c30); (try clear c31); (try clear c35); (try clear p64); (try clear c70); (try clear c70b0); (try clear c83); (try clear c83b0); (try clear c85); (try clear c86); (try clear c86b0); (try clear c86b1); (try clear c87); (try clear c92); (try clear c93); (try clear c99); (try clear c104); (try clear c105)
               try clear hc100_0 hc100_1 hc100_2 hc100_3 hc100_4 hc100_5 hc106_0 hc106_1 hc88_0 hc88_1 hc88_2 hc88_3 hc88_4 hc88_5 hc94_0 hc94_1 hc96_0 hc96_1 hf100_0 hf100_1 hf100_2 hf100_3 hf100_4 hf100_5 hf106_0 hf106_1 hf88_0 hf88_1 hf88_2 hf88_3 hf88_4 hf88_5 hf94_0 hf94_1 hf96_0 hf96_1
               (try clear hx109_0); (try clear hx112_0); (try clear p109); (try clear p112); (try clear q109); (try clear q112)
               obtain ⟨x20_5, x21_5, rfl, HA, HK5, HO_7, HO_18, HO_20, BK101, BK102, BK138, HB⟩ := hrel
               cases gk with
               | zero => exact absurd HA.out (by simp [oTrue.l2])
               | succ k5 =>
                have H := HA.out
                clear HA
                simp only [oTrue.l2] at H
                by_cases c107 : x21_5 < (t133.length : Int)
                ·
                 rw [if_pos c107] at H
                 have c107b0 : decide (x21_5 < (t133.length : Int)) = true := decide_eq_true c107
                 clear c107
                 (first | rw [c107b0] | (simp only [i64_w, i32_w]; rw [c107b0]) | skip)
                 by_cases c108 : x21_5 < (x7_2.length : Int)
                 ·
                  rw [if_pos c108] at H
                  have c108b0 : decide (x21_5 < (x7_2.length : Int)) = true := decide_eq_true c108
                  clear c108
                  by_cases c109 : 0 ≤ x21_5
                  ·
                   rw [if_pos c109] at H
                   have c109b0 : decide (0 ≤ x21_5) = true := decide_eq_true c109
                   clear c109
                   by_cases c110 : x20_5.length < 8796093022208
                   ·
                    rw [if_pos c110] at H
                    have LMc110 := zq3 c110
                    clear c110
                    obtain ⟨y142, hy142⟩ : ∃ y_ : List (S68), y_ = (x20_5 ++ [(⟨rd t133 x21_5, rd x7_2 x21_5⟩ : S68)]) := ⟨_, rfl⟩
                    replace H : (oTrue.l2 k5 x7_2 t133 y142 (wrap64 (x21_5 + 1)) a0_0 a0_1 a0_2 a0_3 a0_4 a0_5) = some r := by first | (rw [hy142]; with_reducible exact H) | (have H2_ := (Option.bind_some _ _).symm.trans H; rw [hy142]; with_reducible exact H2_) | (have H2_ := (Option.bind_some _ _).symm.trans H; with_reducible exact H2_) | with_reducible exact H | (rw [hy142]; exact H) | exact H
                    have Ny142 := zq3 hy142
                    clear hy142
                    have H' := zq3 H
                    clear H
                    obtain ⟨Ao111, co111, eo111⟩ := Kd.R_slice HO_18.out
                    subst eo111
                    try go_wp2
                    replace HO_7 := zq3 (Kd.R_drew HO_7.out); replace HO_18 := zq3 (Kd.R_drew HO_18.out); replace HO_20 := zq3 (Kd.R_drew HO_20.out); replace BK101 := zq3 (zq2 BK101.out); replace BK102 := zq3 (zq2 BK102.out); replace BK138 := zq3 (zq2 BK138.out); replace HB := zq3 (zq8 HB.out)
                    have p140 : 0 ≤ (x21_5 : Int) := of_decide_eq_true (by first | (with_reducible assumption) | assumption)
                    have q140 : x21_5 < (t133.length : Int) := of_decide_eq_true (by first | (with_reducible assumption) | assumption)
                    obtain ⟨ad140, e140, hx140_0⟩ := Kd.at_int (Kd.R_reads' HO_18.out).2.2 x21_5 p140 q140
                    cases e140
                    replace p140 := eq_true p140
                    replace q140 := eq_true q140
                    have p141 : 0 ≤ (x21_5 : Int) := of_decide_eq_true (by first | (with_reducible assumption) | assumption)
                    have q141 : x21_5 < (x7_2.length : Int) := of_decide_eq_true (by first | (with_reducible assumption) | assumption)
                    obtain ⟨ad141, e141, hx141_0⟩ := Kd.at_int (Kd.R_reads' HO_7.out).2.2 x21_5 p141 q141
                    cases e141
                    replace p141 := eq_true p141
                    replace q141 := eq_true q141
                    refine start_ (n := 13) (S := fun w' => w'.cell? (ad140.add (x21_5).toNat) = some (.int .u64 (rd t133 x21_5)) ∧ w'.cell? (ad141.add (x21_5).toNat) = some (.int .i64 (rd x7_2 x21_5))) (ds := [10, 11]) #[false, false, false, false, false, false, false, false, false, false, false, false, false] (by kernel_rfl) rfl rfl ⟨hx140_0, hx141_0⟩ (fun hHeld => ?_); refine with_tabW oTrue.tab30 oTrue.bits30 (fun HT_ HW_ => ?_)
                    generalize wr.drew = w112 at HO_7 HO_18 HO_20 BK101 BK102 BK138 HB hx140_0 hx141_0 hHeld ⊢
                    refine pure_ (i := 0) (N := some 167) (v := ?_) (a' := ?_) #[true, false, false, false, false, false, false, false, false, false, false, false, false] rfl rfl (any_of HT_.out (by kernel_rfl)) (fun _ _ _ h => h) (Or.inl ⟨by rfl, ?_⟩) ?_ ?_
                    rotate_left
                    ·
                     intro w'
                     go_simp
                     with_reducible rfl
                    rotate_left
                    ·
                     simp only [Act.put, List.setIfInBounds_toArray, List.set_cons_zero, List.set_cons_succ, i64_w, i32_w]
                     rfl
                    refine pure_ (i := 1) (N := some 168) (v := ?_) (a' := ?_) #[true, true, false, false, false, false, false, false, false, false, false, false, false] rfl rfl (any_of HT_.out (by kernel_rfl)) (fun _ _ _ h => h) (Or.inl ⟨by rfl, ?_⟩) ?_ ?_
                    rotate_left
                    ·
                     intro w'
                     go_simp
                     with_reducible rfl
                    rotate_left
                    ·
                     simp only [Act.put, List.setIfInBounds_toArray, List.set_cons_zero, List.set_cons_succ, i64_w, i32_w]
                     rfl
                    refine pure_ (i := 2) (N := some 169) (v := ?_) (a' := ?_) #[true, true, true, false, false, false, false, false, false, false, false, false, false] rfl rfl (any_of HT_.out (by kernel_rfl)) (fun _ _ _ h => h) (Or.inl ⟨by rfl, ?_⟩) ?_ ?_
                    rotate_left
                    ·
                     intro w'
                     go_simp
                     with_reducible rfl
                    rotate_left
                    ·
                     simp only [Act.put, List.setIfInBounds_toArray, List.set_cons_zero, List.set_cons_succ, i64_w, i32_w]
                     rfl
                    refine pure_ (i := 3) (N := some 170) (v := ?_) (a' := ?_) #[true, true, true, true, false, false, false, false, false, false, false, false, false] rfl rfl (any_of HT_.out (by kernel_rfl)) (fun _ _ _ h => h) (Or.inl ⟨by rfl, ?_⟩) ?_ ?_
                    rotate_left
                    ·
                     intro w'
                     go_simp
                     with_reducible rfl
                    rotate_left
                    ·
                     simp only [Act.put, List.setIfInBounds_toArray, List.set_cons_zero, List.set_cons_succ, i64_w, i32_w]
                     rfl
                    refine pure_ (i := 5) (N := some 172) (v := ?_) (a' := ?_) #[true, true, true, true, false, true, false, false, false, false, false, false, false] rfl rfl (any_of HT_.out (by kernel_rfl)) (fun _ _ _ h => h) (Or.inl ⟨by rfl, ?_⟩) ?_ ?_
                    rotate_left
                    ·
                     intro w'
                     go_simp
                     with_reducible rfl
                    rotate_left
                    ·
                     simp only [Act.put, List.setIfInBounds_toArray, List.set_cons_zero, List.set_cons_succ, i64_w, i32_w]
                     rfl
                    refine pure_ (i := 6) (N := some 173) (v := ?_) (a' := ?_) #[true, true, true, true, false, true, true, false, false, false, false, false, false] rfl rfl (any_of HT_.out (by kernel_rfl)) (fun _ _ _ h => h) (Or.inl ⟨by rfl, ?_⟩) ?_ ?_
                    rotate_left
                    ·
                     intro w'
                     go_simp
                     with_reducible rfl
                    rotate_left
                    ·
                     simp only [Act.put, List.setIfInBounds_toArray, List.set_cons_zero, List.set_cons_succ, i64_w, i32_w]
                     rfl
                    refine pure_ (i := 7) (N := some 174) (v := ?_) (a' := ?_) #[true, true, true, true, false, true, true, true, false, false, false, false, false] rfl rfl (any_of HT_.out (by kernel_rfl)) (fun _ _ _ h => h) (Or.inl ⟨by rfl, ?_⟩) ?_ ?_
                    rotate_left
                    ·
                     intro w'
                     go_simp
                     with_reducible rfl
                    rotate_left
                    ·
                     simp only [Act.put, List.setIfInBounds_toArray, List.set_cons_zero, List.set_cons_succ, i64_w, i32_w]
                     rfl
                    refine take_ (i := 4) (N := some 171) (v := ?_) (a' := ?_) #[true, true, true, true, true, true, true, true, false, false, false, false, false] rfl rfl (take_ofW HT_.out HW_.out (by kernel_rfl)) (fun _ _ _ h => h) (Or.inl ⟨by rfl, ?_⟩) hHeld ?_ ?_
                    rotate_left
                    ·
                     rintro w' ⟨s0, s1⟩
                     go_simp
                     with_reducible rfl
                    rotate_left
                    ·
                     simp only [Act.put, List.setIfInBounds_toArray, List.set_cons_zero, List.set_cons_succ, i64_w, i32_w]
                     rfl
                    refine take_ (i := 8) (N := some 175) (v := ?_) (a' := ?_) #[true, true, true, true, true, true, true, true, true, false, false, false, false] rfl rfl (take_ofW HT_.out HW_.out (by kernel_rfl)) (fun _ _ _ h => h) (Or.inl ⟨by rfl, ?_⟩) hHeld ?_ ?_
                    rotate_left
                    ·
                     rintro w' ⟨s0, s1⟩
                     go_simp
                     with_reducible rfl
                    rotate_left
                    ·
                     simp only [Act.put, List.setIfInBounds_toArray, List.set_cons_zero, List.set_cons_succ, i64_w, i32_w]
                     rfl
                    refine pure_ (i := 9) (N := some 176) (v := ?_) (a' := ?_) #[true, true, true, true, true, true, true, true, true, true, false, false, false] rfl rfl (any_of HT_.out (by kernel_rfl)) (fun _ _ _ h => h) (Or.inl ⟨by rfl, ?_⟩) ?_ ?_
                    rotate_left
                    ·
                     intro w'
                     go_simp
                     with_reducible rfl
                    rotate_left
                    ·
                     simp only [Act.put, List.setIfInBounds_toArray, List.set_cons_zero, List.set_cons_succ, i64_w, i32_w]
                     rfl
                    refine last_ (i := 10) (N := some 177) #[true, true, true, true, true, true, true, true, true, true, true, false, false] rfl rfl (one_of HT_.out (by kernel_rfl)) (by decide) (fun K hK => ?_)
                    refine value_ (w1 := ?_) (v := ?_) (by rfl) rfl ?_ ?_
                    rotate_left 2
                    ·
                     go_simp
                     constructor
                     ·
                      rfl
                     ·
                      rfl
                    refine hK.out _ _ ?_
                    clear hK K
                    refine norm_ (a' := ?_) ?_ ?_
                    rotate_left
                    ·
                     show Act.put _ (some 177) _ = _
                     simp only [Act.put, List.setIfInBounds_toArray, List.set_cons_zero, List.set_cons_succ, i64_w, i32_w]
                     rfl
                    refine last_ (i := 11) (N := some 178) #[true, true, true, true, true, true, true, true, true, true, true, true, false] rfl rfl (one_of HT_.out (by kernel_rfl)) (by decide) (fun K hK => ?_)
                    refine Kd.R_append_step k68 (w0 := w) w.heap.size (by rfl) (.tmp 167) (.tmp 177) 22 68 (.agg #[(.int .u64 0), (.int .i64 0)]) 16 rfl Try.underlying22 info68 rfl (by decide) (by omega) u20 x20_5 (⟨rd t133 x21_5, rd x7_2 x21_5⟩ : S68) [.int .u64 (rd t133 x21_5), .int .i64 (rd x7_2 x21_5)] (fun _ => True) (fun _ => False) rfl rfl ?aP (fun _ hk => hk.elim) ?aF ?aO ?aB ?aS ?aL ?_
                    (case aP => exact k68_mkM _ _ _ (⟨rd t133 x21_5, rd x7_2 x21_5⟩ : S68))
                    (case aB => exact (zh HB))
                    (case aF => exact (fun _ _ => trivial))
                    (case aO => exact (zo HO_20))
                    (case aS => exact (below_size (zh HB)))
                    (case aL => have := LMc110.out; omega)
                    intro v143 w113 ho hb hg hat
                    rw [← Ny142.out] at ho
                    have HO144 := zq3 (ho); replace HO_7 := zq3 (Kd.R_over' (zo HO_7) (Kd.R_typed (zo HO_20)) (by decide) hg); replace HO_18 := zq3 (Kd.R_over' (zo HO_18) (Kd.R_typed (zo HO_20)) (by decide) hg); replace BK101 := zq3 (blk_grown (g := gb101) (o := .cells #[.int .i64 a0_0, .bool a0_1, .int .u64 a0_2, .int .u64 a0_3, .int .u64 a0_4, .int .u64 a0_5] 49 (0, 0)) (zw BK101) hg (Kd.R_ne HO_20.out BK101.out (by decide))); replace BK102 := zq3 (blk_grown (g := gb102) (o := .cells #[.int .u64 a1_0, .int .u64 a1_1, .int .u64 a1_2, .bool a1_3] 51 (0, 0)) (zw BK102) hg (Kd.R_ne HO_20.out BK102.out (by decide))); replace BK138 := zq3 (blk_grown (g := gb138) (o := .cells #[.int .i64 t136, .int .i64 t137] 26 (0, 0)) (zw BK138) hg (Kd.R_ne HO_20.out BK138.out (by decide))); replace HB := zq3 (hb); clear HO_20
                    clear ho hb hg hat
                    refine hK.out _ _ ?_
                    clear hK K
                    refine norm_ (a' := ?_) ?_ ?_
                    rotate_left
                    ·
                     show Act.put _ (some 178) _ = _
                     simp only [Act.put, List.setIfInBounds_toArray, List.set_cons_zero, List.set_cons_succ, i64_w, i32_w]
                     rfl
                    refine pure_ (i := 12) (N := some 20) (v := ?_) (a' := ?_) #[true, true, true, true, true, true, true, true, true, true, true, true, true] rfl rfl (any_of HT_.out (by kernel_rfl)) (fun _ _ _ h => h) (Or.inl ⟨by rfl, ?_⟩) ?_ ?_
                    rotate_left
                    ·
                     intro w'
                     go_simp
                     with_reducible rfl
                    rotate_left
                    ·
                     simp only [Act.put, List.setIfInBounds_toArray, List.set_cons_zero, List.set_cons_succ, i64_w, i32_w]
                     rfl
                    refine done_ (done_of HT_.out (by kernel_rfl)) ?_
                    try go_wp2
                    go_roundg k5
                    case measure => have := HJ3.out; have := HK2.out; have := HK3.out; have := HJ21.out; have := HK5.out; omega
                    case rel => exact ⟨(y142), (wrap64 (x21_5 + 1)), (by first | rfl | (simp; done) | (simp [*]; done)), H', ⟨by have := HJ3.out; have := HK2.out; have := HK3.out; have := HJ21.out; have := HK5.out; omega⟩, ⟨zo HO_7⟩, ⟨zo HO_18⟩, ⟨by (with_reducible repeat (first | apply Kd.R_alloc | apply Kd.R_drewN | apply Kd.R_drew)); exact HO144.out⟩, ⟨zw BK101⟩, ⟨zw BK102⟩, ⟨zw BK138⟩, ⟨zh HB⟩⟩
                   ·
                    rw [if_neg c110] at H
                    exact absurd H (by simp)
                  ·
                   rw [if_neg c109] at H
                   exact absurd H (by simp)
                 ·
                  rw [if_neg c108] at H
                  have c108b0 : decide (x21_5 < (x7_2.length : Int)) = false := decide_eq_false c108
                  clear c108
                  have H' := zq3 H
                  clear H
                  obtain ⟨Ao114, co114, eo114⟩ := Kd.R_slice HO_18.out
                  subst eo114
                  go_wp2
                  go_meet
                  case rel => exact ⟨_, (x20_5), H', ⟨by have := HJ3.out; have := HK2.out; have := HK3.out; have := HJ21.out; have := HK5.out; first | omega | exact Nat.le_refl _⟩, ⟨zo HO_7⟩, ⟨zo HO_18⟩, ⟨zo HO_20⟩, ⟨zw BK101⟩, ⟨zw BK102⟩, ⟨zw BK138⟩, ⟨zh HB⟩⟩
                ·
                 rw [if_neg c107] at H
                 have c107b0 : decide (x21_5 < (t133.length : Int)) = false := decide_eq_false c107
                 clear c107
                 (first | rw [c107b0] | (simp only [i64_w, i32_w]; rw [c107b0]) | skip)
                 have H' := zq3 H
                 clear H
                 obtain ⟨Ao115, co115, eo115⟩ := Kd.R_slice HO_18.out
                 subst eo115
                 go_wp2
                 go_meet
                 case rel => exact ⟨_, (x20_5), H', ⟨by have := HJ3.out; have := HK2.out; have := HK3.out; have := HJ21.out; have := HK5.out; first | omega | exact Nat.le_refl _⟩, ⟨zo HO_7⟩, ⟨zo HO_18⟩, ⟨zo HO_20⟩, ⟨zw BK101⟩, ⟨zw BK102⟩, ⟨zw BK138⟩, ⟨zh HB⟩⟩
             case rest => as_aux_lemma =>
              clear HC98
              (try clear c1); (try clear p1); (try clear q1); (try clear hx1); (try clear qi1); (try clear c2); (try clear p2); (try clear c3); (try clear p6); (try clear c7); (try clear c8); (try clear c9); (try clear c10); (try clear p10); (try clear q10); (try clear hx10); (try clear qi10); (try clear c11); (try clear p11); (try clear q11); (try clear hx11); (try clear qi11); (try clear p14); (try clear q14); (try clear hx14); (try clear c25); (try clear c26); (try clear c28); (try clear c30); (try clear c31); (try clear c35); (try clear p64); (try clear c70); (try clear c70b0); (try clear c83); (try clear c83b0); (try clear c85); (try clear c86); (try clear c86b0); (try clear c86b1); (try clear c87); (try clear c92); (try clear c93); (try clear c99); (try clear c104); (try clear c105); (try clear c107); (try clear c107b0); (try clear c108); (try clear c108b0); (try clear c109); (try clear c109b0); (try clear p109); (try clear q109); (try clear hx109); (try clear c110); (try clear p112); (try clear q112); (try clear hx112)
              try clear hc100_0 hc100_1 hc100_2 hc100_3 hc100_4 hc100_5 hc106_0 hc106_1 hc88_0 hc88_1 hc88_2 hc88_3 hc88_4 hc88_5 hc94_0 hc94_1 hc96_0 hc96_1 hf100_0 hf100_1 hf100_2 hf100_3 hf100_4 hf100_5 hf106_0 hf106_1 hf88_0 hf88_1 hf88_2 hf88_3 hf88_4 hf88_5 hf94_0 hf94_1 hf96_0 hf96_1
              (try clear hx109_0); (try clear hx112_0); (try clear hx140_0); (try clear hx141_0); (try clear p1); (try clear p10); (try clear p109); (try clear p11); (try clear p112); (try clear p140); (try clear p141); (try clear p2); (try clear p6); (try clear p64); (try clear q1); (try clear q10); (try clear q109); (try clear q11); (try clear q112); (try clear q140); (try clear q141)
              obtain ⟨kq, x20_97, HA, HJ97, HO_7, HO_18, HO_20, BK101, BK102, BK138, HB⟩ := hcut
              cases kq with
              | zero => exact absurd HA.out (by simp [oTrue.j7])
              | succ kj97 =>
               have H := HA.out
               clear HA
               simp only [oTrue.j7] at H
               replace H := Option.bind_eq_some_iff.mp H
               obtain ⟨⟨t145, t148, t149, t150, t151⟩, A1160, H⟩ := H
               replace H : (oTrue.l3 kj97 x7_2 t133 t145 0) = some r := H
               have A116 := zq3 A1160
               clear A1160
               have H' := zq3 H
               clear H
               have hnb117 := NB101_102.out
               have hnc117 := NB102_101.out
               have hnb118 := NB101_138.out
               have hnc118 := NB138_101.out
               obtain ⟨hc119_0, hc119_1, hc119_2, hc119_3, hc119_4, hc119_5⟩ := zc6 BK101
               obtain ⟨hf119_0, hf119_1, hf119_2, hf119_3, hf119_4, hf119_5⟩ := zf6 BK101
               obtain ⟨Ao120, co120, eo120⟩ := Kd.R_slice HO_20.out
               subst eo120
               go_wp2_with (first | ((with_reducible refine gate_callee (f := 36) rfl ?_); refine zgo (some 182) Try.func36 #[.agg #[.int .i64 a0_0, .bool a0_1, .int .u64 a0_2, .int .u64 a0_3, .int .u64 a0_4, .int .u64 a0_5], .slice Ao120 x20_97.length co120, .slice none 0 0] ?_; (refine (meter_Run.calls a0_0 a0_1 a0_2 a0_3 a0_4 a0_5 _ _ x20_97 _ _ ([] : List Int) t145 t148 t149 t150 t151 _ ?side1 ?side2 ?side3 ?side4 A116.out).mono ?_); (case side1 => repeat (first | exact (Kd.R_reads' HO_20.out).2.2 | (with_reducible refine Kd.C_alloc ?_ _) | (with_reducible refine Kd.C_drewN ?_ _) | (with_reducible refine Kd.C_drew ?_))); (case side2 => exact (Kd.R_reads' HO_20.out).2.1); (case side3 => exact Kd.C_nil _ _); (case side4 => exact Nat.le_refl _); rintro e w121 ⟨v146, rfl, ho0, hb⟩; refine ⟨_, rfl, ?_⟩; have HO147 := zq3 (Kd.R_lower (Kd.R_new' ho0 (Kd.R_lt (zo HO_7))) (below_size (zh HB))); replace HO_7 := zq3 (Kd.R_elder' (zo HO_7) (Kd.R_base ho0) hb); replace HO_18 := zr HO_18 hb; replace HO_20 := zr HO_20 hb; replace BK101 := zs BK101 hb; replace BK102 := zs BK102 hb; replace BK138 := zs BK138 hb; replace HB := zt HB hb; (try clear hb); (try clear ho0)) | ((with_reducible refine gate_dst (N := 23) rfl ?_); (try (refine gate_guard (by rfl) ?_; dsimp only)); refine box_event ?hg (N := 23) ?hd (cs := #[.int .u64 0, .int .u64 0, .int .u64 0, .bool false]) (t := 51) ?hr ?_; (case hd => rfl); (case hg => rfl); (case hr => first | (go_simp; done) | (go_simp; rfl)); intro gb152 hg w122 hbox hb; have BK152 := zq3 (hbox); have GW152 := ze hg HB; have GE152 := GW152; have NB101_152 := zl hg BK101; have NB152_101 := zg hg BK101; have NB102_152 := zl hg BK102; have NB152_102 := zg hg BK102; have NB138_152 := zl hg BK138; have NB152_138 := zg hg BK138; replace HO_7 := zr HO_7 hb; replace HO_18 := zr HO_18 hb; replace HO_20 := zr HO_20 hb; replace HO147 := zq3 (Kd.R_below (by (with_reducible repeat (first | apply Kd.R_alloc | apply Kd.R_drewN | apply Kd.R_drew)); exact HO147.out) hb); replace BK101 := zs BK101 hb; replace BK102 := zs BK102 hb; replace BK138 := zs BK138 hb; replace HB := zt HB hb; clear hb hbox hg; have hnb123 := NB152_101.out; have hnc123 := NB101_152.out; have hnb124 := NB152_102.out; have hnc124 := NB102_152.out; have hnb125 := NB152_138.out; have hnc125 := NB138_152.out; obtain ⟨hc126_0, hc126_1, hc126_2, hc126_3⟩ := zc4 BK152; obtain ⟨hf126_0, hf126_1, hf126_2, hf126_3⟩ := zf4 BK152))
               go_loopg [24] kj97 (fun kq v24 w' => ∃ (x24_6 : Int), v24 = .int .i64 x24_6 ∧ Aside0 (oTrue.l3 kq x7_2 t133 t145 x24_6 = some r) ∧ Aside0 (kq ≤ kj97) ∧ Aside0 (Kd.R (Kd.int .i64) 3 w' w.heap.size (fun k_ => some k_ ≠ (v146 : Value).ownBlock) (.slice Ao101 x7_2.length co101) x7_2) ∧ Aside0 (Kd.R (Kd.int .u64) 23 w' w.heap.size (fun _ => True) v134 t133) ∧ Aside0 (Kd.R (Kd.int .i64) 3 w' w.heap.size (fun k_ => some k_ ≠ ((.slice Ao101 x7_2.length co101) : Value).ownBlock) v146 t145) ∧ Aside0 (w'.heap[gb101]? = some (.cells #[.int .i64 a0_0, .bool a0_1, .int .u64 a0_2, .int .u64 a0_3, .int .u64 a0_4, .int .u64 a0_5] 49 (0, 0))) ∧ Aside0 (w'.heap[gb102]? = some (.cells #[.int .u64 a1_0, .int .u64 a1_1, .int .u64 a1_2, .bool a1_3] 51 (0, 0))) ∧ Aside0 (w'.heap[gb138]? = some (.cells #[.int .i64 t136, .int .i64 t137] 26 (0, 0))) ∧ Aside0 (w'.heap[gb152]? = some (.cells #[.int .u64 t148, .int .u64 t149, .int .u64 t150, .bool t151] 51 (0, 0))) ∧ Aside0 (Below w.heap.size w w'))
               case atStart => exact ⟨(0), (by first | rfl | (simp; done) | (simp [*]; done)), H', ⟨Nat.le_refl _⟩, ⟨by (with_reducible repeat (first | apply Kd.R_alloc | apply Kd.R_drewN | apply Kd.R_drew)); exact Kd.R_mono (Kd.R_far (p := ⟨gb152, 3, none⟩) (Kd.R_far (p := ⟨gb152, 2, none⟩) (Kd.R_far (p := ⟨gb152, 1, none⟩) (Kd.R_far (p := ⟨gb152, 0, none⟩) (Kd.R_types HO_7.out BK152.out (by decide)) (fun _ hk => hk.2) (.int .u64 t148)) (fun _ hk => hk.2) (.int .u64 t149)) (fun _ hk => hk.2) (.int .u64 t150)) (fun _ hk => hk.2) (.bool t151)) (fun _ hk => hk.1.2)⟩, ⟨by (with_reducible repeat (first | apply Kd.R_alloc | apply Kd.R_drewN | apply Kd.R_drew)); exact Kd.R_mono (Kd.R_far (p := ⟨gb152, 3, none⟩) (Kd.R_far (p := ⟨gb152, 2, none⟩) (Kd.R_far (p := ⟨gb152, 1, none⟩) (Kd.R_far (p := ⟨gb152, 0, none⟩) (Kd.R_types HO_18.out BK152.out (by decide)) (fun _ hk => hk.2) (.int .u64 t148)) (fun _ hk => hk.2) (.int .u64 t149)) (fun _ hk => hk.2) (.int .u64 t150)) (fun _ hk => hk.2) (.bool t151)) (fun _ hk => trivial)⟩, ⟨by (with_reducible repeat (first | apply Kd.R_alloc | apply Kd.R_drewN | apply Kd.R_drew)); exact Kd.R_mono (Kd.R_far (p := ⟨gb152, 3, none⟩) (Kd.R_far (p := ⟨gb152, 2, none⟩) (Kd.R_far (p := ⟨gb152, 1, none⟩) (Kd.R_far (p := ⟨gb152, 0, none⟩) (Kd.R_types HO147.out BK152.out (by decide)) (fun _ hk => hk.2) (.int .u64 t148)) (fun _ hk => hk.2) (.int .u64 t149)) (fun _ hk => hk.2) (.int .u64 t150)) (fun _ hk => hk.2) (.bool t151)) (fun _ hk => hk.1.2)⟩, ⟨zw BK101⟩, ⟨zw BK102⟩, ⟨zw BK138⟩, ⟨zw4 BK152⟩, ⟨zh HB⟩⟩
               case round => as_aux_lemma =>
                clear H'
                (try clear c1); (try clear p1); (try clear q1); (try clear hx1); (try clear qi1); (try clear c2); (try clear p2); (try clear c3); (try clear p6); (try clear c7); (try clear c8); (try clear c9); (try clear c10); (try clear p10); (try clear q10); (try clear hx10); (try clear qi10); (try clear c11); (try clear p11); (try clear q11); (try clear hx11); (try clear qi11); (try clear c12); (try clear p14); (try clear q14); (try clear hx14); (try clear c25); (try clear c26); (try clear c28); (try clear c30); (try clear c31); (try clear c35); (try clear c36); (try clear p64); (try clear c70); (try clear c70b0); (try clear c83); (try clear c83b0); (try clear c85); (try clear c86); (try clear c86b0); (try clear c86b1); (try clear c87); (try clear c92); (try clear c93); (try clear c99); (try clear c104); (try clear c105); (try clear c107); (try clear c107b0); (try clear c108); (try clear c108b0); (try clear c109); (try clear c109b0); (try clear p109); (try clear q109); (try clear hx109); (try clear c110); (try clear p112); (try clear q112); (try clear hx112); (try clear c117); (try clear c118); (try clear c123); (try clear c124); (try clear c125)
                try clear hc100_0 hc100_1 hc100_2 hc100_3 hc100_4 hc100_5 hc106_0 hc106_1 hc119_0 hc119_1 hc119_2 hc119_3 hc119_4 hc119_5 hc126_0 hc126_1 hc126_2 hc126_3 hc88_0 hc88_1 hc88_2 hc88_3 hc88_4 hc88_5 hc94_0 hc94_1 hc96_0 hc96_1 hf100_0 hf100_1 hf100_2 hf100_3 hf100_4 hf100_5 hf106_0 hf106_1 hf119_0 hf119_1 hf119_2 hf119_3 hf119_4 hf119_5 hf126_0 hf126_1 hf126_2 hf126_3 hf88_0 hf88_1 hf88_2 hf88_3 hf88_4 hf88_5 hf94_0 hf94_1 hf96_0 hf96_1
                (try clear hx109_0); (try clear hx112_0); (try clear hx140_0); (try clear hx141_0); (try clear p1); (try clear p10); (try clear p109); (try clear p11); (try clear p112); (try clear p14); (try clear p140); (try clear p141); (try clear p2); (try clear p6); (try clear p64); (try clear q1); (try clear q10); (try clear q109); (try clear q11); (try clear q112); (try clear q14); (try clear q140); (try clear q141)
                obtain ⟨x24_6, rfl, HA, HK6, HO_7, HO_18, HO_22, BK101, BK102, BK138, BK152, HB⟩ := hrel
                cases gk with
                | zero => exact absurd HA.out (by simp [oTrue.l3])
                | succ k6 =>
                 have H := HA.out
                 clear HA
                 simp only [oTrue.l3] at H
                 by_cases c127 : x24_6 < (t145.length : Int)
                 ·
                  rw [if_pos c127] at H
                  have c127b0 : decide (x24_6 < (t145.length : Int)) = true := decide_eq_true c127
                  clear c127
                  by_cases c128 : 0 ≤ x24_6
                  ·
                   rw [if_pos c128] at H
                   have c128b0 : decide (0 ≤ x24_6) = true := decide_eq_true c128
                   clear c128
                   by_cases c129 : (rd t145 x24_6) = 0
                   ·
                    rw [if_pos c129] at H
                    have c129b0 : ((rd t145 x24_6) == 0) = true := beq_iff_eq.mpr c129
                    have c129b1 : ((rd t145 x24_6) != 0) = false := bne_eq_false_iff_eq.mpr c129
                    clear c129
                    by_cases c130 : x24_6 > 0
                    ·
                     rw [if_pos c130] at H
                     have c130b0 : decide (0 < x24_6) = true := decide_eq_true c130
                     clear c130
                     by_cases c131 : x24_6 < (t133.length : Int)
                     ·
                      rw [if_pos c131] at H
                      have c131b0 : decide (x24_6 < (t133.length : Int)) = true := decide_eq_true c131
                      clear c131
                      obtain ⟨ji132, hji132⟩ : ∃ j_ : Int, (wrap64 (x24_6 - 1)) = j_ := ⟨_, rfl⟩
                      replace H : (if 0 ≤ (ji132) then (if (ji132) < (t133.length : Int) then (if (rd t133 x24_6) < (rd t133 (ji132)) then (none) else (oTrue.l3 k6 x7_2 t133 t145 (wrap64 (x24_6 + 1)))) else (none)) else (none)) = some r := by first | (rw [hji132] at H; exact H) | (simp only [hji132] at H ⊢; exact H)
                      have hji132w : (IntKind.i64.wrap (x24_6 - 1)) = ji132 := (i64_w _).trans hji132
                      by_cases c133 : 0 ≤ (ji132)
                      ·
                       rw [if_pos c133] at H
                       have c133b0 : decide (0 ≤ (ji132)) = true := decide_eq_true c133
                       clear c133
                       by_cases c134 : (ji132) < (t133.length : Int)
                       ·
                        rw [if_pos c134] at H
                        have c134b0 : decide ((ji132) < (t133.length : Int)) = true := decide_eq_true c134
                        clear c134
                        by_cases c135 : (rd t133 x24_6) < (rd t133 (ji132))
                        ·
                         rw [if_pos c135] at H
                         exact absurd H (by simp)
                        ·
                         rw [if_neg c135] at H
                         have c135b0 : decide ((rd t133 x24_6) < (rd t133 (ji132))) = false := decide_eq_false c135
                         clear c135
                         have H' := zq3 H
                         clear H
                         obtain ⟨Ao136, co136, eo136⟩ := Kd.R_slice HO_22.out
                         subst eo136
                         try go_wp2
                         replace HO_7 := zq3 (Kd.R_drew HO_7.out); replace HO_18 := zq3 (Kd.R_drew HO_18.out); replace HO_22 := zq3 (Kd.R_drew HO_22.out); replace BK101 := zq3 (zq2 BK101.out); replace BK102 := zq3 (zq2 BK102.out); replace BK138 := zq3 (zq2 BK138.out); replace BK152 := zq3 (zq2 BK152.out); replace HB := zq3 (zq8 HB.out)
                         have p153 : 0 ≤ (x24_6 : Int) := of_decide_eq_true (by first | (with_reducible assumption) | assumption)
                         have q153 : x24_6 < (t145.length : Int) := of_decide_eq_true (by first | (with_reducible assumption) | assumption)
                         obtain ⟨ad153, e153, hx153_0⟩ := Kd.at_int (Kd.R_reads' HO_22.out).2.2 x24_6 p153 q153
                         cases e153
                         replace p153 := eq_true p153
                         replace q153 := eq_true q153
                         obtain ⟨Ao138, co138, eo138⟩ := Kd.R_slice HO_18.out
                         (first | subst eo138 | (injection eo138 with f1_ f2_ f3_; have f4_ := f1_.symm; have f5_ := f3_.symm; clear f1_ f2_ f3_; subst f4_; subst f5_))
                         have p154 : 0 ≤ (x24_6 : Int) := of_decide_eq_true (by first | (with_reducible assumption) | assumption)
                         have q154 : x24_6 < (t133.length : Int) := of_decide_eq_true (by first | (with_reducible assumption) | assumption)
                         obtain ⟨ad154, e154, hx154_0⟩ := Kd.at_int (Kd.R_reads' HO_18.out).2.2 x24_6 p154 q154
                         cases e154
                         replace p154 := eq_true p154
                         replace q154 := eq_true q154
                         have p155 : 0 ≤ ((ji132) : Int) := of_decide_eq_true (by first | (with_reducible assumption) | assumption)
                         have q155 : (ji132) < (t133.length : Int) := of_decide_eq_true (by first | (with_reducible assumption) | assumption)
                         obtain ⟨ad155, e155, hx155_0⟩ := Kd.at_int (Kd.R_reads' HO_18.out).2.2 (ji132) p155 q155
                         obtain rfl : ad154 = ad155 := (by injection e155)
                         replace p155 := eq_true p155
                         replace q155 := eq_true q155
                         refine start_ (n := 21) (S := fun w' => w'.cell? (ad153.add (x24_6).toNat) = some (.int .i64 (rd t145 x24_6)) ∧ w'.cell? (ad154.add (x24_6).toNat) = some (.int .u64 (rd t133 x24_6)) ∧ w'.cell? (ad154.add ((ji132)).toNat) = some (.int .u64 (rd t133 (ji132)))) (ds := []) #[false, false, false, false, false, false, false, false, false, false, false, false, false, false, false, false, false, false, false, false, false] (by kernel_rfl) rfl rfl ⟨hx153_0, hx154_0, hx155_0⟩ (fun hHeld => ?_); refine with_tabW oTrue.tab35 oTrue.bits35 (fun HT_ HW_ => ?_)
                         generalize wr.drew = w137 at HO_7 HO_18 HO_22 BK101 BK102 BK138 BK152 HB hx153_0 hx154_0 hx155_0 hHeld ⊢
                         refine pure_ (i := 0) (N := some 191) (v := ?_) (a' := ?_) #[true, false, false, false, false, false, false, false, false, false, false, false, false, false, false, false, false, false, false, false, false] rfl rfl (any_of HT_.out (by kernel_rfl)) (fun _ _ _ h => h) (Or.inl ⟨by rfl, ?_⟩) ?_ ?_
                         rotate_left
                         ·
                          intro w'
                          go_simp
                          with_reducible rfl
                         rotate_left
                         ·
                          simp only [Act.put, List.setIfInBounds_toArray, List.set_cons_zero, List.set_cons_succ, i64_w, i32_w]
                          rfl
                         refine pure_ (i := 1) (N := some 192) (v := ?_) (a' := ?_) #[true, true, false, false, false, false, false, false, false, false, false, false, false, false, false, false, false, false, false, false, false] rfl rfl (any_of HT_.out (by kernel_rfl)) (fun _ _ _ h => h) (Or.inl ⟨by rfl, ?_⟩) ?_ ?_
                         rotate_left
                         ·
                          intro w'
                          go_simp
                          with_reducible rfl
                         rotate_left
                         ·
                          simp only [Act.put, List.setIfInBounds_toArray, List.set_cons_zero, List.set_cons_succ, i64_w, i32_w]
                          rfl
                         refine pure_ (i := 2) (N := some 193) (v := ?_) (a' := ?_) #[true, true, true, false, false, false, false, false, false, false, false, false, false, false, false, false, false, false, false, false, false] rfl rfl (any_of HT_.out (by kernel_rfl)) (fun _ _ _ h => h) (Or.inl ⟨by rfl, ?_⟩) ?_ ?_
                         rotate_left
                         ·
                          intro w'
                          go_simp
                          with_reducible rfl
                         rotate_left
                         ·
                          simp only [Act.put, List.setIfInBounds_toArray, List.set_cons_zero, List.set_cons_succ, i64_w, i32_w]
                          rfl
                         refine take_ (i := 3) (N := some 194) (v := ?_) (a' := ?_) #[true, true, true, true, false, false, false, false, false, false, false, false, false, false, false, false, false, false, false, false, false] rfl rfl (take_ofW HT_.out HW_.out (by kernel_rfl)) (fun _ _ _ h => h) (Or.inl ⟨by rfl, ?_⟩) hHeld ?_ ?_
                         rotate_left
                         ·
                          rintro w' ⟨s0, s1, s2⟩
                          go_simp
                          with_reducible rfl
                         rotate_left
                         ·
                          simp only [Act.put, List.setIfInBounds_toArray, List.set_cons_zero, List.set_cons_succ, i64_w, i32_w]
                          rfl
                         refine pure_ (i := 4) (N := some 195) (v := ?_) (a' := ?_) #[true, true, true, true, true, false, false, false, false, false, false, false, false, false, false, false, false, false, false, false, false] rfl rfl (any_of HT_.out (by kernel_rfl)) (fun _ _ _ h => h) (Or.inl ⟨by rfl, ?_⟩) ?_ ?_
                         rotate_left
                         ·
                          intro w'
                          go_simp
                          with_reducible rfl
                         rotate_left
                         ·
                          simp only [Act.put, List.setIfInBounds_toArray, List.set_cons_zero, List.set_cons_succ, i64_w, i32_w]
                          rfl
                         refine pure_ (i := 5) (N := some 196) (v := ?_) (a' := ?_) #[true, true, true, true, true, true, false, false, false, false, false, false, false, false, false, false, false, false, false, false, false] rfl rfl (any_of HT_.out (by kernel_rfl)) (fun _ _ _ h => h) (Or.inl ⟨by rfl, ?_⟩) ?_ ?_
                         rotate_left
                         ·
                          intro w'
                          go_simp
                          with_reducible rfl
                         rotate_left
                         ·
                          simp only [Act.put, List.setIfInBounds_toArray, List.set_cons_zero, List.set_cons_succ, i64_w, i32_w]
                          rfl
                         refine pure_ (i := 6) (N := some 197) (v := ?_) (a' := ?_) #[true, true, true, true, true, true, true, false, false, false, false, false, false, false, false, false, false, false, false, false, false] rfl rfl (any_of HT_.out (by kernel_rfl)) (fun _ _ _ h => h) (Or.inl ⟨by rfl, ?_⟩) ?_ ?_
                         rotate_left
                         ·
                          intro w'
                          go_simp
                          with_reducible rfl
                         rotate_left
                         ·
                          simp only [Act.put, List.setIfInBounds_toArray, List.set_cons_zero, List.set_cons_succ, i64_w, i32_w]
                          rfl
                         refine pure_ (i := 7) (N := some 198) (v := ?_) (a' := ?_) #[true, true, true, true, true, true, true, true, false, false, false, false, false, false, false, false, false, false, false, false, false] rfl rfl (any_of HT_.out (by kernel_rfl)) (fun _ _ _ h => h) (Or.inl ⟨by rfl, ?_⟩) ?_ ?_
                         rotate_left
                         ·
                          intro w'
                          go_simp
                          with_reducible rfl
                         rotate_left
                         ·
                          simp only [Act.put, List.setIfInBounds_toArray, List.set_cons_zero, List.set_cons_succ, i64_w, i32_w]
                          rfl
                         refine pure_ (i := 8) (N := some 199) (v := ?_) (a' := ?_) #[true, true, true, true, true, true, true, true, true, false, false, false, false, false, false, false, false, false, false, false, false] rfl rfl (any_of HT_.out (by kernel_rfl)) (fun _ _ _ h => h) (Or.inl ⟨by rfl, ?_⟩) ?_ ?_
                         rotate_left
                         ·
                          intro w'
                          go_simp
                          with_reducible rfl
                         rotate_left
                         ·
                          simp only [Act.put, List.setIfInBounds_toArray, List.set_cons_zero, List.set_cons_succ, i64_w, i32_w]
                          rfl
                         refine pure_ (i := 9) (N := some 200) (v := ?_) (a' := ?_) #[true, true, true, true, true, true, true, true, true, true, false, false, false, false, false, false, false, false, false, false, false] rfl rfl (any_of HT_.out (by kernel_rfl)) (fun _ _ _ h => h) (Or.inl ⟨by rfl, ?_⟩) ?_ ?_
                         rotate_left
                         ·
                          intro w'
                          go_simp
                          with_reducible rfl
                         rotate_left
                         ·
                          simp only [Act.put, List.setIfInBounds_toArray, List.set_cons_zero, List.set_cons_succ, i64_w, i32_w]
                          rfl
                         refine pure_ (i := 10) (N := some 201) (v := ?_) (a' := ?_) #[true, true, true, true, true, true, true, true, true, true, true, false, false, false, false, false, false, false, false, false, false] rfl rfl (any_of HT_.out (by kernel_rfl)) (fun _ _ _ h => h) (Or.inl ⟨by rfl, ?_⟩) ?_ ?_
                         rotate_left
                         ·
                          intro w'
                          go_simp
                          with_reducible rfl
                         rotate_left
                         ·
                          simp only [Act.put, List.setIfInBounds_toArray, List.set_cons_zero, List.set_cons_succ, i64_w, i32_w]
                          rfl
                         refine pure_ (i := 11) (N := some 202) (v := ?_) (a' := ?_) #[true, true, true, true, true, true, true, true, true, true, true, true, false, false, false, false, false, false, false, false, false] rfl rfl (any_of HT_.out (by kernel_rfl)) (fun _ _ _ h => h) (Or.inl ⟨by rfl, ?_⟩) ?_ ?_
                         rotate_left
                         ·
                          intro w'
                          go_simp
                          with_reducible rfl
                         rotate_left
                         ·
                          simp only [Act.put, List.setIfInBounds_toArray, List.set_cons_zero, List.set_cons_succ, i64_w, i32_w]
                          rfl
                         refine pure_ (i := 13) (N := some 204) (v := ?_) (a' := ?_) #[true, true, true, true, true, true, true, true, true, true, true, true, false, true, false, false, false, false, false, false, false] rfl rfl (any_of HT_.out (by kernel_rfl)) (fun _ _ _ h => h) (Or.inl ⟨by rfl, ?_⟩) ?_ ?_
                         rotate_left
                         ·
                          intro w'
                          go_simp
                          with_reducible rfl
                         rotate_left
                         ·
                          simp only [Act.put, List.setIfInBounds_toArray, List.set_cons_zero, List.set_cons_succ, i64_w, i32_w]
                          rfl
                         refine pure_ (i := 14) (N := some 205) (v := ?_) (a' := ?_) #[true, true, true, true, true, true, true, true, true, true, true, true, false, true, true, false, false, false, false, false, false] rfl rfl (any_of HT_.out (by kernel_rfl)) (fun _ _ _ h => h) (Or.inl ⟨by rfl, ?_⟩) ?_ ?_
                         rotate_left
                         ·
                          intro w'
                          go_simp
                          with_reducible rfl
                         rotate_left
                         ·
                          simp only [Act.put, List.setIfInBounds_toArray, List.set_cons_zero, List.set_cons_succ, i64_w, i32_w]
                          rfl
                         refine pure_ (i := 15) (N := some 206) (v := ?_) (a' := ?_) #[true, true, true, true, true, true, true, true, true, true, true, true, false, true, true, true, false, false, false, false, false] rfl rfl (any_of HT_.out (by kernel_rfl)) (fun _ _ _ h => h) (Or.inl ⟨by rfl, ?_⟩) ?_ ?_
                         rotate_left
                         ·
                          intro w'
                          go_simp
                          with_reducible rfl
                         rotate_left
                         ·
                          simp only [Act.put, List.setIfInBounds_toArray, List.set_cons_zero, List.set_cons_succ, i64_w, i32_w]
                          rfl
                         refine pure_ (i := 16) (N := some 207) (v := ?_) (a' := ?_) #[true, true, true, true, true, true, true, true, true, true, true, true, false, true, true, true, true, false, false, false, false] rfl rfl (any_of HT_.out (by kernel_rfl)) (fun _ _ _ h => h) (Or.inl ⟨by rfl, ?_⟩) ?_ ?_
                         rotate_left
                         ·
                          intro w'
                          go_simp
                          with_reducible rfl
                         rotate_left
                         ·
                          simp only [Act.put, List.setIfInBounds_toArray, List.set_cons_zero, List.set_cons_succ, i64_w, i32_w]
                          rfl
                         refine take_ (i := 12) (N := some 203) (v := ?_) (a' := ?_) #[true, true, true, true, true, true, true, true, true, true, true, true, true, true, true, true, true, false, false, false, false] rfl rfl (take_ofW HT_.out HW_.out (by kernel_rfl)) (fun _ _ _ h => h) (Or.inl ⟨by rfl, ?_⟩) hHeld ?_ ?_
                         rotate_left
                         ·
                          rintro w' ⟨s0, s1, s2⟩
                          go_simp
                          with_reducible rfl
                         rotate_left
                         ·
                          simp only [Act.put, List.setIfInBounds_toArray, List.set_cons_zero, List.set_cons_succ, i64_w, i32_w]
                          rfl
                         refine take_ (i := 17) (N := some 208) (v := ?_) (a' := ?_) #[true, true, true, true, true, true, true, true, true, true, true, true, true, true, true, true, true, true, false, false, false] rfl rfl (take_ofW HT_.out HW_.out (by kernel_rfl)) (fun _ _ _ h => h) (Or.inl ⟨by rfl, ?_⟩) hHeld ?_ ?_
                         rotate_left
                         ·
                          rintro w' ⟨s0, s1, s2⟩
                          go_simp
                          with_reducible rfl
                         rotate_left
                         ·
                          simp only [Act.put, List.setIfInBounds_toArray, List.set_cons_zero, List.set_cons_succ, i64_w, i32_w]
                          rfl
                         refine pure_ (i := 18) (N := some 209) (v := ?_) (a' := ?_) #[true, true, true, true, true, true, true, true, true, true, true, true, true, true, true, true, true, true, true, false, false] rfl rfl (any_of HT_.out (by kernel_rfl)) (fun _ _ _ h => h) (Or.inl ⟨by rfl, ?_⟩) ?_ ?_
                         rotate_left
                         ·
                          intro w'
                          go_simp
                          with_reducible rfl
                         rotate_left
                         ·
                          simp only [Act.put, List.setIfInBounds_toArray, List.set_cons_zero, List.set_cons_succ, i64_w, i32_w]
                          rfl
                         refine pure_ (i := 19) (N := some 210) (v := ?_) (a' := ?_) #[true, true, true, true, true, true, true, true, true, true, true, true, true, true, true, true, true, true, true, true, false] rfl rfl (any_of HT_.out (by kernel_rfl)) (fun _ _ _ h => h) (Or.inl ⟨by rfl, ?_⟩) ?_ ?_
                         rotate_left
                         ·
                          intro w'
                          go_simp
                          with_reducible rfl
                         rotate_left
                         ·
                          simp only [Act.put, List.setIfInBounds_toArray, List.set_cons_zero, List.set_cons_succ, i64_w, i32_w]
                          rfl
                         refine pure_ (i := 20) (N := some 211) (v := ?_) (a' := ?_) #[true, true, true, true, true, true, true, true, true, true, true, true, true, true, true, true, true, true, true, true, true] rfl rfl (any_of HT_.out (by kernel_rfl)) (fun _ _ _ h => h) (Or.inl ⟨by rfl, ?_⟩) ?_ ?_
                         rotate_left
                         ·
                          intro w'
                          go_simp
                          with_reducible rfl
                         rotate_left
                         ·
                          simp only [Act.put, List.setIfInBounds_toArray, List.set_cons_zero, List.set_cons_succ, i64_w, i32_w]
                          rfl
                         refine done_ (done_of HT_.out (by kernel_rfl)) ?_
                         try go_wp2
                         go_roundg k6
                         case measure => have := HJ3.out; have := HK2.out; have := HK3.out; have := HJ21.out; have := HJ97.out; have := HK6.out; omega
                         case rel => exact ⟨(wrap64 (x24_6 + 1)), (by first | rfl | (simp; done) | (simp [*]; done)), H', ⟨by have := HJ3.out; have := HK2.out; have := HK3.out; have := HJ21.out; have := HJ97.out; have := HK6.out; omega⟩, ⟨zo HO_7⟩, ⟨zo HO_18⟩, ⟨zo HO_22⟩, ⟨zw BK101⟩, ⟨zw BK102⟩, ⟨zw BK138⟩, ⟨zw BK152⟩, ⟨zh HB⟩⟩
                       ·
                        rw [if_neg c134] at H
                        exact absurd H (by simp)
                      ·
                       rw [if_neg c133] at H
                       exact absurd H (by simp)
                     ·
                      rw [if_neg c131] at H
                      exact absurd H (by simp)
                    ·
                     rw [if_neg c130] at H
                     have c130b0 : decide (0 < x24_6) = false := decide_eq_false c130
                     clear c130
                     have H' := zq3 H
                     clear H
                     obtain ⟨Ao139, co139, eo139⟩ := Kd.R_slice HO_22.out
                     subst eo139
                     try go_wp2
                     replace HO_7 := zq3 (Kd.R_drew HO_7.out); replace HO_18 := zq3 (Kd.R_drew HO_18.out); replace HO_22 := zq3 (Kd.R_drew HO_22.out); replace BK101 := zq3 (zq2 BK101.out); replace BK102 := zq3 (zq2 BK102.out); replace BK138 := zq3 (zq2 BK138.out); replace BK152 := zq3 (zq2 BK152.out); replace HB := zq3 (zq8 HB.out)
                     have p153 : 0 ≤ (x24_6 : Int) := of_decide_eq_true (by first | (with_reducible assumption) | assumption)
                     have q153 : x24_6 < (t145.length : Int) := of_decide_eq_true (by first | (with_reducible assumption) | assumption)
                     obtain ⟨ad153, e153, hx153_0⟩ := Kd.at_int (Kd.R_reads' HO_22.out).2.2 x24_6 p153 q153
                     cases e153
                     replace p153 := eq_true p153
                     replace q153 := eq_true q153
                     refine start_ (n := 21) (S := fun w' => w'.cell? (ad153.add (x24_6).toNat) = some (.int .i64 (rd t145 x24_6))) (ds := []) #[false, false, false, false, false, false, false, false, false, false, false, false, false, false, false, false, false, false, false, false, false] (by kernel_rfl) rfl rfl (hx153_0) (fun hHeld => ?_); refine with_tabW oTrue.tab35 oTrue.bits35 (fun HT_ HW_ => ?_)
                     generalize wr.drew = w140 at HO_7 HO_18 HO_22 BK101 BK102 BK138 BK152 HB hx153_0 hHeld ⊢
                     refine pure_ (i := 0) (N := some 191) (v := ?_) (a' := ?_) #[true, false, false, false, false, false, false, false, false, false, false, false, false, false, false, false, false, false, false, false, false] rfl rfl (any_of HT_.out (by kernel_rfl)) (fun _ _ _ h => h) (Or.inl ⟨by rfl, ?_⟩) ?_ ?_
                     rotate_left
                     ·
                      intro w'
                      go_simp
                      with_reducible rfl
                     rotate_left
                     ·
                      simp only [Act.put, List.setIfInBounds_toArray, List.set_cons_zero, List.set_cons_succ, i64_w, i32_w]
                      rfl
                     refine pure_ (i := 1) (N := some 192) (v := ?_) (a' := ?_) #[true, true, false, false, false, false, false, false, false, false, false, false, false, false, false, false, false, false, false, false, false] rfl rfl (any_of HT_.out (by kernel_rfl)) (fun _ _ _ h => h) (Or.inl ⟨by rfl, ?_⟩) ?_ ?_
                     rotate_left
                     ·
                      intro w'
                      go_simp
                      with_reducible rfl
                     rotate_left
                     ·
                      simp only [Act.put, List.setIfInBounds_toArray, List.set_cons_zero, List.set_cons_succ, i64_w, i32_w]
                      rfl
                     refine pure_ (i := 2) (N := some 193) (v := ?_) (a' := ?_) #[true, true, true, false, false, false, false, false, false, false, false, false, false, false, false, false, false, false, false, false, false] rfl rfl (any_of HT_.out (by kernel_rfl)) (fun _ _ _ h => h) (Or.inl ⟨by rfl, ?_⟩) ?_ ?_
                     rotate_left
                     ·
                      intro w'
                      go_simp
                      with_reducible rfl
                     rotate_left
                     ·
                      simp only [Act.put, List.setIfInBounds_toArray, List.set_cons_zero, List.set_cons_succ, i64_w, i32_w]
                      rfl
                     refine take_ (i := 3) (N := some 194) (v := ?_) (a' := ?_) #[true, true, true, true, false, false, false, false, false, false, false, false, false, false, false, false, false, false, false, false, false] rfl rfl (take_ofW HT_.out HW_.out (by kernel_rfl)) (fun _ _ _ h => h) (Or.inl ⟨by rfl, ?_⟩) hHeld ?_ ?_
                     rotate_left
                     ·
                      intro w' s0
                      go_simp
                      with_reducible rfl
                     rotate_left
                     ·
                      simp only [Act.put, List.setIfInBounds_toArray, List.set_cons_zero, List.set_cons_succ, i64_w, i32_w]
                      rfl
                     refine pure_ (i := 4) (N := some 195) (v := ?_) (a' := ?_) #[true, true, true, true, true, false, false, false, false, false, false, false, false, false, false, false, false, false, false, false, false] rfl rfl (any_of HT_.out (by kernel_rfl)) (fun _ _ _ h => h) (Or.inl ⟨by rfl, ?_⟩) ?_ ?_
                     rotate_left
                     ·
                      intro w'
                      go_simp
                      with_reducible rfl
                     rotate_left
                     ·
                      simp only [Act.put, List.setIfInBounds_toArray, List.set_cons_zero, List.set_cons_succ, i64_w, i32_w]
                      rfl
                     refine pure_ (i := 5) (N := some 196) (v := ?_) (a' := ?_) #[true, true, true, true, true, true, false, false, false, false, false, false, false, false, false, false, false, false, false, false, false] rfl rfl (any_of HT_.out (by kernel_rfl)) (fun _ _ _ h => h) (Or.inl ⟨by rfl, ?_⟩) ?_ ?_
                     rotate_left
                     ·
                      intro w'
                      go_simp
                      with_reducible rfl
                     rotate_left
                     ·
                      simp only [Act.put, List.setIfInBounds_toArray, List.set_cons_zero, List.set_cons_succ, i64_w, i32_w]
                      rfl
                     refine pure_ (i := 6) (N := some 197) (v := ?_) (a' := ?_) #[true, true, true, true, true, true, true, false, false, false, false, false, false, false, false, false, false, false, false, false, false] rfl rfl (any_of HT_.out (by kernel_rfl)) (fun _ _ _ h => h) (Or.inl ⟨by rfl, ?_⟩) ?_ ?_
                     rotate_left
                     ·
                      intro w'
                      go_simp
                      with_reducible rfl
                     rotate_left
                     ·
                      simp only [Act.put, List.setIfInBounds_toArray, List.set_cons_zero, List.set_cons_succ, i64_w, i32_w]
                      rfl
                     refine pure_ (i := 7) (N := some 198) (v := ?_) (a' := ?_) #[true, true, true, true, true, true, true, true, false, false, false, false, false, false, false, false, false, false, false, false, false] rfl rfl (any_of HT_.out (by kernel_rfl)) (fun _ _ _ h => h) (Or.inl ⟨by rfl, ?_⟩) ?_ ?_
                     rotate_left
                     ·
                      intro w'
                      go_simp
                      with_reducible rfl
                     rotate_left
                     ·
                      simp only [Act.put, List.setIfInBounds_toArray, List.set_cons_zero, List.set_cons_succ, i64_w, i32_w]
                      rfl
                     refine pure_ (i := 8) (N := some 199) (v := ?_) (a' := ?_) #[true, true, true, true, true, true, true, true, true, false, false, false, false, false, false, false, false, false, false, false, false] rfl rfl (any_of HT_.out (by kernel_rfl)) (fun _ _ _ h => h) (Or.inl ⟨by rfl, ?_⟩) ?_ ?_
                     rotate_left
                     ·
                      intro w'
                      go_simp
                      with_reducible rfl
                     rotate_left
                     ·
                      simp only [Act.put, List.setIfInBounds_toArray, List.set_cons_zero, List.set_cons_succ, i64_w, i32_w]
                      rfl
                     refine pure_ (i := 9) (N := some 200) (v := undef) (a' := ?_) #[true, true, true, true, true, true, true, true, true, true, false, false, false, false, false, false, false, false, false, false, false] rfl rfl (any_of HT_.out (by kernel_rfl)) (fun _ _ _ h => h) (Or.inr ⟨by rfl, rfl⟩) ?_ ?_
                     rotate_left
                     ·
                      simp only [Act.put, List.setIfInBounds_toArray, List.set_cons_zero, List.set_cons_succ, i64_w, i32_w]
                      rfl
                     refine pure_ (i := 10) (N := some 201) (v := undef) (a' := ?_) #[true, true, true, true, true, true, true, true, true, true, true, false, false, false, false, false, false, false, false, false, false] rfl rfl (any_of HT_.out (by kernel_rfl)) (fun _ _ _ h => h) (Or.inr ⟨by rfl, rfl⟩) ?_ ?_
                     rotate_left
                     ·
                      simp only [Act.put, List.setIfInBounds_toArray, List.set_cons_zero, List.set_cons_succ, i64_w, i32_w]
                      rfl
                     refine pure_ (i := 11) (N := some 202) (v := undef) (a' := ?_) #[true, true, true, true, true, true, true, true, true, true, true, true, false, false, false, false, false, false, false, false, false] rfl rfl (any_of HT_.out (by kernel_rfl)) (fun _ _ _ h => h) (Or.inr ⟨by rfl, rfl⟩) ?_ ?_
                     rotate_left
                     ·
                      simp only [Act.put, List.setIfInBounds_toArray, List.set_cons_zero, List.set_cons_succ, i64_w, i32_w]
                      rfl
                     refine pure_ (i := 12) (N := some 203) (v := undef) (a' := ?_) #[true, true, true, true, true, true, true, true, true, true, true, true, true, false, false, false, false, false, false, false, false] rfl rfl (any_of HT_.out (by kernel_rfl)) (fun _ _ _ h => h) (Or.inr ⟨by rfl, rfl⟩) ?_ ?_
                     rotate_left
                     ·
                      simp only [Act.put, List.setIfInBounds_toArray, List.set_cons_zero, List.set_cons_succ, i64_w, i32_w]
                      rfl
                     refine pure_ (i := 13) (N := some 204) (v := undef) (a' := ?_) #[true, true, true, true, true, true, true, true, true, true, true, true, true, true, false, false, false, false, false, false, false] rfl rfl (any_of HT_.out (by kernel_rfl)) (fun _ _ _ h => h) (Or.inr ⟨by rfl, rfl⟩) ?_ ?_
                     rotate_left
                     ·
                      simp only [Act.put, List.setIfInBounds_toArray, List.set_cons_zero, List.set_cons_succ, i64_w, i32_w]
                      rfl
                     refine pure_ (i := 14) (N := some 205) (v := undef) (a' := ?_) #[true, true, true, true, true, true, true, true, true, true, true, true, true, true, true, false, false, false, false, false, false] rfl rfl (any_of HT_.out (by kernel_rfl)) (fun _ _ _ h => h) (Or.inr ⟨by rfl, rfl⟩) ?_ ?_
                     rotate_left
                     ·
                      simp only [Act.put, List.setIfInBounds_toArray, List.set_cons_zero, List.set_cons_succ, i64_w, i32_w]
                      rfl
                     refine pure_ (i := 15) (N := some 206) (v := undef) (a' := ?_) #[true, true, true, true, true, true, true, true, true, true, true, true, true, true, true, true, false, false, false, false, false] rfl rfl (any_of HT_.out (by kernel_rfl)) (fun _ _ _ h => h) (Or.inr ⟨by rfl, rfl⟩) ?_ ?_
                     rotate_left
                     ·
                      simp only [Act.put, List.setIfInBounds_toArray, List.set_cons_zero, List.set_cons_succ, i64_w, i32_w]
                      rfl
                     refine pure_ (i := 16) (N := some 207) (v := undef) (a' := ?_) #[true, true, true, true, true, true, true, true, true, true, true, true, true, true, true, true, true, false, false, false, false] rfl rfl (any_of HT_.out (by kernel_rfl)) (fun _ _ _ h => h) (Or.inr ⟨by rfl, rfl⟩) ?_ ?_
                     rotate_left
                     ·
                      simp only [Act.put, List.setIfInBounds_toArray, List.set_cons_zero, List.set_cons_succ, i64_w, i32_w]
                      rfl
                     refine pure_ (i := 17) (N := some 208) (v := undef) (a' := ?_) #[true, true, true, true, true, true, true, true, true, true, true, true, true, true, true, true, true, true, false, false, false] rfl rfl (any_of HT_.out (by kernel_rfl)) (fun _ _ _ h => h) (Or.inr ⟨by rfl, rfl⟩) ?_ ?_
                     rotate_left
                     ·
                      simp only [Act.put, List.setIfInBounds_toArray, List.set_cons_zero, List.set_cons_succ, i64_w, i32_w]
                      rfl
                     refine pure_ (i := 18) (N := some 209) (v := undef) (a' := ?_) #[true, true, true, true, true, true, true, true, true, true, true, true, true, true, true, true, true, true, true, false, false] rfl rfl (any_of HT_.out (by kernel_rfl)) (fun _ _ _ h => h) (Or.inr ⟨by rfl, rfl⟩) ?_ ?_
                     rotate_left
                     ·
                      simp only [Act.put, List.setIfInBounds_toArray, List.set_cons_zero, List.set_cons_succ, i64_w, i32_w]
                      rfl
                     refine pure_ (i := 19) (N := some 210) (v := ?_) (a' := ?_) #[true, true, true, true, true, true, true, true, true, true, true, true, true, true, true, true, true, true, true, true, false] rfl rfl (any_of HT_.out (by kernel_rfl)) (fun _ _ _ h => h) (Or.inl ⟨by rfl, ?_⟩) ?_ ?_
                     rotate_left
                     ·
                      intro w'
                      go_simp
                      with_reducible rfl
                     rotate_left
                     ·
                      simp only [Act.put, List.setIfInBounds_toArray, List.set_cons_zero, List.set_cons_succ, i64_w, i32_w]
                      rfl
                     refine pure_ (i := 20) (N := some 211) (v := ?_) (a' := ?_) #[true, true, true, true, true, true, true, true, true, true, true, true, true, true, true, true, true, true, true, true, true] rfl rfl (any_of HT_.out (by kernel_rfl)) (fun _ _ _ h => h) (Or.inl ⟨by rfl, ?_⟩) ?_ ?_
                     rotate_left
                     ·
                      intro w'
                      go_simp
                      with_reducible rfl
                     rotate_left
                     ·
                      simp only [Act.put, List.setIfInBounds_toArray, List.set_cons_zero, List.set_cons_succ, i64_w, i32_w]
                      rfl
                     refine done_ (done_of HT_.out (by kernel_rfl)) ?_
                     try go_wp2
                     go_roundg k6
                     case measure => have := HJ3.out; have := HK2.out; have := HK3.out; have := HJ21.out; have := HJ97.out; have := HK6.out; omega
                     case rel => exact ⟨(wrap64 (x24_6 + 1)), (by first | rfl | (simp; done) | (simp [*]; done)), H', ⟨by have := HJ3.out; have := HK2.out; have := HK3.out; have := HJ21.out; have := HJ97.out; have := HK6.out; omega⟩, ⟨zo HO_7⟩, ⟨zo HO_18⟩, ⟨zo HO_22⟩, ⟨zw BK101⟩, ⟨zw BK102⟩, ⟨zw BK138⟩, ⟨zw BK152⟩, ⟨zh HB⟩⟩
                   ·
                    rw [if_neg c129] at H
                    exact absurd H (by simp)
                  ·
                   rw [if_neg c128] at H
                   exact absurd H (by simp)
                 ·
                  rw [if_neg c127] at H
                  have c127b0 : decide (x24_6 < (t145.length : Int)) = false := decide_eq_false c127
                  clear c127
                  replace H := Option.bind_eq_some_iff.mp H
                  obtain ⟨t156, A1410, H⟩ := H
                  replace H : (if t156 = true then (if (t133.length : Int) = (x7_2.length : Int) then (some ((t145.length : Int) == (x7_2.length : Int))) else (none)) else (none)) = some r := H
                  have A141 := zq3 A1410
                  clear A1410
                  by_cases c142 : t156 = true
                  ·
                   subst c142
                   have H1 : (if (t133.length : Int) = (x7_2.length : Int) then (some ((t145.length : Int) == (x7_2.length : Int))) else (none)) = some r := by rw [if_pos rfl] at H; exact H
                   clear H
                   have H := H1
                   clear H1
                   by_cases c143 : (t133.length : Int) = (x7_2.length : Int)
                   ·
                    rw [if_pos c143] at H
                    have c143b0 : ((t133.length : Int) == (x7_2.length : Int)) = true := beq_iff_eq.mpr c143
                    have c143b1 : ((t133.length : Int) != (x7_2.length : Int)) = false := bne_eq_false_iff_eq.mpr c143
                    have c143b2 : (t133.length == x7_2.length) = true := by first | simpa using c143 | (simp at c143 ⊢; omega)
                    clear c143
                    obtain rfl := Option.some.inj H
                    obtain ⟨Ao144, co144, eo144⟩ := Kd.R_slice HO_22.out
                    subst eo144
                    go_wp2_with (first | ((with_reducible refine gate_callee (f := 30) rfl ?_); refine zgo (some 212) Try.func30 #[] ?_; (with_reducible refine (weighbridgelaw30_live.calls k6  true _ A141.out).mono ?_); rintro e w145 ⟨rfl, hb⟩; refine ⟨_, rfl, ?_⟩; replace HO_7 := zr HO_7 hb; replace HO_18 := zr HO_18 hb; replace HO_22 := zr HO_22 hb; replace BK101 := zs BK101 hb; replace BK102 := zs BK102 hb; replace BK138 := zs BK138 hb; replace BK152 := zs BK152 hb; replace HB := zt HB hb; (try clear hb); obtain ⟨Ao146, co146, eo146⟩ := Kd.R_slice HO_18.out; subst eo146))
                    go_ret
                    exact ⟨by first | rfl | (simp [errW_none, errW_some] <;> rfl) | (simp [*, errW_none, errW_some] <;> rfl), zh HB⟩
                   ·
                    rw [if_neg c143] at H
                    exact absurd H (by simp)
                  ·
                   replace c142 := Bool.eq_false_iff.mpr c142
                   subst c142
                   have H1 : (none) = some r := by rw [if_neg (show ¬ (false = true) by decide)] at H; exact H
                   clear H
                   have H := H1
                   clear H1
                   exact absurd H (by simp)

end Go.Proofs.Ytiaoaoebghnpkaa.P
