/- Part of the proof. -/
import Derived.Test.YtiaoaoebghnpkaaKP10
import Derived.Test.YtiaoaoebghnpkaaKP23
import Derived.Test.YtiaoaoebghnpkaaKP18
namespace Go.Proofs.Ytiaoaoebghnpkaa.P
open Go.RowKit Go.Proofs.YtiaoaoebghnpkaaW.PrintWords Go.Proofs.YtiaoaoebghnpkaaW.PrintLast Go.Proofs.YtiaoaoebghnpkaaW.PrintMore
attribute [local go_sem] max2_int min2_int max_two min_two max_three min_three max_four min_four   -- for this text's walks alone
set_option linter.unusedVariables false
set_option linter.unusedSimpArgs false

/-! ### curve_from: function 39 -/
mutual
def curve_from.l0 : Nat → List (S68) → Int → Int → List Int → Int → Int → Int → Int → Option (Int)
  | 0, _, _, _, _, _, _, _, _ => none
  | k + 1, x0, x1, x3, x9, x20, x21, x102000, x102001 => if x21 < x20 then (if 0 ≤ x21 then (if x21 < (x0.length : Int) then (if x21 < (x9.length : Int) then (curve_from.l0 k x0 x1 x3 (x9.set (x21 : Int).toNat ((rd_T68 x0 x21).f0)) x20 (wrap64 (x21 + 1)) x102000 x102001) else (none)) else (none)) else (none)) else ((ratchet_Run.f x9).bind fun t107 => (curve_from.l1 k x0 x1 x3 t107 x3 0 x3 x102000 x102001))
def curve_from.l1 : Nat → List (S68) → Int → Int → List Int → Int → Int → Int → Int → Int → Option (Int)
  | 0, _, _, _, _, _, _, _, _, _ => none
  | k + 1, x0, x1, x3, x11, x12, x13, x14, x102000, x102001 => if x14 ≥ 0 then (if 0 ≤ x14 then (if x14 < (x0.length : Int) then (if 0 ≤ x3 then (if x3 < (x11.length : Int) then (if x14 < (x11.length : Int) then ((wide_Mul.f x1 (IntKind.u64.wrap ((rd x11 x3) - (rd x11 x14)))).bind fun bt113 => ((wide_Mul.f (IntKind.u64.wrap (x13 + (IntKind.u64.wrap ((rd_T68 x0 x14).f1)))) 1000000000).bind fun bt116 => ((curve_less.f bt116.1 bt116.2 bt113.1 bt113.2).bind fun bt118 => ((wide_Less.f x102000 x102001 bt118.1 bt118.2).bind fun t120 => (if t120 = true then (curve_from.l1 k x0 x1 x3 x11 x14 (IntKind.u64.wrap (x13 + (IntKind.u64.wrap ((rd_T68 x0 x14).f1)))) (wrap64 (x14 - 1)) x102000 x102001) else (curve_from.l1 k x0 x1 x3 x11 x12 (IntKind.u64.wrap (x13 + (IntKind.u64.wrap ((rd_T68 x0 x14).f1)))) (wrap64 (x14 - 1)) x102000 x102001)))))) else (none)) else (none)) else (none)) else (none)) else (none)) else (some x12)
end
def curve_from.f (k : Nat) (l0 : List (S68)) (a1 : Int) (a2_0 : Int) (a2_1 : Int) (a3 : Int) : Option (Int) := if 0 ≤ (wrap64 (a3 + 1)) then (if (wrap64 (a3 + 1) : Int).toNat ≤ 35184372088832 then ((some (List.replicate (wrap64 (a3 + 1) : Int).toNat 0 : List Int)).bind fun y102 => (curve_from.l0 k l0 a1 a3 y102 (y102.length : Int) 0 a2_0 a2_1)) else (none)) else (none)
def curve_from.T14 : Bool × List (List Nat × List Nat) := (true, [([], []), ([], []), ([], []), ([1, 2], [1, 2]), ([3], [3]), ([], []), ([], []), ([5, 6], [5, 6]), ([7], [7]), ([4, 8], [4, 8]), ([0, 9], [0, 9]), ([], []), ([11, 10, 10, 0, 1, 2, 3, 4, 5, 6, 7, 8, 9, 10, 11], [10, 11])])
def curve_from.B14 : List Nat := [0, 0, 0, 6, 14, 0, 0, 96, 224, 510, 1023, 0, 4095]
theorem curve_from.tab14 : rtab .any (opsOf Try.f39 14) = curve_from.T14 := by kernel_rfl
theorem curve_from.bits14 : waitsOk curve_from.T14.2 curve_from.B14 = true := by kernel_rfl
set_option maxHeartbeats 8000000 in
set_option maxRecDepth 100000 in
theorem curve_from.calls (k : Nat) (A0 : Option Addr) (c0 : Nat) (l0 : List (S68)) (a1 : Int) (a2_0 : Int) (a2_1 : Int) (a3 : Int) (r : Int) (w : World) (hr0 : Kd.C k68 w A0 l0.length l0) (hc0 : l0.length ≤ c0) (h : curve_from.f k l0 a1 a2_0 a2_1 a3 = some r) :
    Calls Try.prog 39 #[.slice A0 l0.length c0, .int .u64 a1, .agg #[.int .u64 a2_0, .int .u64 a2_1], .int .i64 a3] w fun e w' => e = .returned (.int .i64 r) ∧ Below w.heap.size w w' := by
  have hu42 := Try.underlying42
  have HR0 := zq3 hr0
  have HC0 := zq3 hc0
  clear hr0 hc0
  have HB := zq3 (Below.refl w.heap.size w)
  have H : (if 0 ≤ (wrap64 (a3 + 1)) then (if (wrap64 (a3 + 1) : Int).toNat ≤ 35184372088832 then ((some (List.replicate (wrap64 (a3 + 1) : Int).toNat 0 : List Int)).bind fun y102 => (curve_from.l0 k l0 a1 a3 y102 (y102.length : Int) 0 a2_0 a2_1)) else (none)) else (none)) = some r := h
  clear h
  obtain ⟨ji5, hji5⟩ : ∃ j_ : Int, (wrap64 (a3 + 1)) = j_ := ⟨_, rfl⟩
  replace H : (if 0 ≤ (ji5) then (if (ji5 : Int).toNat ≤ 35184372088832 then ((some (List.replicate (ji5 : Int).toNat 0 : List Int)).bind fun y102 => (curve_from.l0 k l0 a1 a3 y102 (y102.length : Int) 0 a2_0 a2_1)) else (none)) else (none)) = some r := by first | (rw [hji5] at H; exact H) | (simp only [hji5] at H ⊢; exact H)
  have hji5w : (IntKind.i64.wrap (a3 + 1)) = ji5 := (i64_w _).trans hji5
  by_cases c6 : 0 ≤ (ji5)
  · rw [if_pos c6] at H
    have c6b0 := eq_true c6
    have c6b1 : decide (0 ≤ (ji5)) = true := decide_eq_true c6
    clear c6
    by_cases c7 : (ji5 : Int).toNat ≤ 35184372088832
    · rw [if_pos c7] at H
      have c7b0 := eq_true c7
      have c7b1 : decide ((ji5 : Int).toNat ≤ 35184372088832) = true := decide_eq_true c7
      clear c7
      obtain ⟨y102, hy102⟩ : ∃ y_ : List Int, y_ = (List.replicate (ji5 : Int).toNat 0) := ⟨_, rfl⟩
      replace H : (curve_from.l0 k l0 a1 a3 y102 (y102.length : Int) 0 a2_0 a2_1) = some r := by first | (rw [hy102]; with_reducible exact H) | (have H2_ := (Option.bind_some _ _).symm.trans H; rw [hy102]; with_reducible exact H2_) | (have H2_ := (Option.bind_some _ _).symm.trans H; with_reducible exact H2_) | with_reducible exact H | (rw [hy102]; exact H) | exact H
      have Ny102 := zq3 hy102
      clear hy102
      have H' := zq3 H
      clear H
      go_enter Try.func39, Try.ntmps39
      go_wp2_with (first | ((with_reducible refine gate_dst (N := 6) rfl ?_); refine box_event ?hg (N := 6) ?hd (cs := #[.int .u64 a2_0, .int .u64 a2_1]) (t := 42) ?hr ?_; (case hd => rfl); (case hg => rfl); (case hr => first | (go_simp; done) | (go_simp; rfl)); intro gb101 hg w8 hbox hb; have n0_ := zq3 (below_step (by repeat (first | (with_reducible first | exact HB.out | apply zq9 | apply zq7 | apply zq8) | exact HB.out)) hb); have n1_ := zq3 (hbox); have n2_ := zq3 ((by rw [hg]; exact (below_size (by repeat (first | (with_reducible first | exact HB.out | apply zq9 | apply zq7 | apply zq8) | exact HB.out))) : w.heap.size ≤ gb101)); have n3_ := zq3 ((by rw [hg]; exact (below_size (by repeat (first | (with_reducible first | exact HB.out | apply zq9 | apply zq7 | apply zq8) | exact HB.out))) : w.heap.size ≤ gb101)); clear HB; have HB := n0_; have BK101 := n1_; have GW101 := n2_; have GE101 := n3_; clear n0_ n1_ n2_ n3_; clear hb hbox hg) | ((with_reducible refine gate_dst (N := 18) rfl ?_); refine Kd.R_make (Kd.int .u64) _ 23 rfl (N := 18) rfl 57 _ _ rfl ji5 rfl rfl Try.underlying57 (.int .u64 0) 8 info23 rfl (by decide) (by omega) 0 (ok := fun _ => True) (okp := fun _ => True) rfl (fun _ hk => hk) trivial (of_decide_eq_true (by first | (with_reducible assumption) | assumption)) (Nat.le_trans (Nat.mul_le_mul_right _ (of_decide_eq_true (by first | (with_reducible assumption) | assumption) : ji5.toNat ≤ 35184372088832)) (by omega)) (Below.refl _ _) (Nat.le_refl _) ?_; intro v103 w9 ho10 hb hg_ hnew_; clear hg_ hnew_; (first | rw [← Ny102.out] at ho10 | (simp only [Int.reduceToNat] at ho10; rw [← Ny102.out] at ho10)); have n0_ := zq3 (Kd.R_lower ho10 (below_size (by repeat (first | (with_reducible first | exact HB.out | apply zq9 | apply zq7 | apply zq8 | refine zq6 ?_ GE101.out) | exact HB.out)))); have n1_ := zq3 (zq10 (g := gb101) (o := .cells #[.int .u64 a2_0, .int .u64 a2_1] 42 (0, 0)) (by (with_reducible repeat (first | refine zq0 ?_ _ | refine zq2 ?_ | refine zq1 ?_ _)); exact BK101.out) hb); have n2_ := zq3 (below_step (by repeat (first | (with_reducible first | exact HB.out | apply zq9 | apply zq7 | apply zq8 | refine zq6 ?_ GE101.out) | exact HB.out)) hb); clear BK101; clear HB; have HO104 := n0_; have BK101 := n1_; have HB := n2_; clear n0_ n1_ n2_; clear hb ho10; obtain ⟨Ao11, co11, eo11⟩ := Kd.R_slice HO104.out; subst eo11))
      go_loopg [21] k (fun kq v21 w' => ∃ (x9_1 : List Int) (x21_1 : Int), v21 = .int .i64 x21_1 ∧ Aside0 (curve_from.l0 kq l0 a1 a3 x9_1 (y102.length : Int) x21_1 a2_0 a2_1 = some r) ∧ Aside0 (kq ≤ k) ∧ Aside0 (Kd.R (Kd.int .u64) 23 w' w.heap.size (fun _ => True) (.slice Ao11 y102.length co11) x9_1) ∧ Aside0 (w'.heap[gb101]? = some (.cells #[.int .u64 a2_0, .int .u64 a2_1] 42 (0, 0))) ∧ Aside0 (Below w.heap.size w w'))
      case atStart => exact ⟨(y102), (0), (by first | rfl | (simp; done) | (simp [*]; done)), H', ⟨Nat.le_refl _⟩, ⟨by (with_reducible repeat (first | apply Kd.R_alloc | apply Kd.R_drewN | apply Kd.R_drew)); exact HO104.out⟩, ⟨by (with_reducible repeat (first | refine zq0 ?_ _ | refine zq2 ?_ | refine zq1 ?_ _)); exact BK101.out⟩, ⟨by repeat (first | (with_reducible first | exact HB.out | apply zq9 | apply zq7 | apply zq8 | refine zq6 ?_ GE101.out) | exact HB.out)⟩⟩
      case round =>
        clear H'
        try clear p2
        try clear c3
        try clear c6
        try clear c6b0
        try clear c6b1
        try clear p6
        try clear c7
        try clear c7b0
        try clear c7b1
        obtain ⟨x9_1, x21_1, rfl, HA, HK1, HO_9, BK101, HB⟩ := hrel
        have hl9_1 := (Kd.R_reads' HO_9.out).1
        rw [hl9_1] at HO_9
        (try simp only [hl9_1])
        (try simp only [hl9_1] at BK101)
        cases gk with
        | zero => exact absurd HA.out (by simp [curve_from.l0])
        | succ k1 =>
          have H := HA.out
          clear HA
          simp only [curve_from.l0] at H
          by_cases c12 : x21_1 < (y102.length : Int)
          · rw [if_pos c12] at H
            have c12b0 : decide (x21_1 < (y102.length : Int)) = true := decide_eq_true c12
            clear c12
            by_cases c13 : 0 ≤ x21_1
            · rw [if_pos c13] at H
              have c13b0 : decide (0 ≤ x21_1) = true := decide_eq_true c13
              clear c13
              by_cases c14 : x21_1 < (l0.length : Int)
              · rw [if_pos c14] at H
                have c14b0 : decide (x21_1 < (l0.length : Int)) = true := decide_eq_true c14
                clear c14
                by_cases c15 : x21_1 < (x9_1.length : Int)
                · rw [if_pos c15] at H
                  have c15b0 : decide (x21_1 < (x9_1.length : Int)) = true := decide_eq_true c15
                  clear c15
                  obtain ⟨y106, hy106⟩ : ∃ y_ : List Int, y_ = (x9_1.set (x21_1 : Int).toNat ((rd_T68 l0 x21_1).f0)) := ⟨_, rfl⟩
                  replace H : (curve_from.l0 k1 l0 a1 a3 y106 (y102.length : Int) (wrap64 (x21_1 + 1)) a2_0 a2_1) = some r := by first | (rw [hy106]; with_reducible exact H) | (have H2_ := (Option.bind_some _ _).symm.trans H; rw [hy106]; with_reducible exact H2_) | (have H2_ := (Option.bind_some _ _).symm.trans H; with_reducible exact H2_) | with_reducible exact H | (rw [hy106]; exact H) | exact H
                  have Ny106 := zq3 hy106
                  clear hy106
                  have H' := zq3 H
                  clear H
                  have p105 : 0 ≤ (x21_1 : Int) := of_decide_eq_true (by first | (with_reducible assumption) | assumption)
                  have q105 : x21_1 < (l0.length : Int) := of_decide_eq_true (by first | (with_reducible assumption) | assumption)
                  obtain ⟨ad105, e105, hx105_0, hx105_1⟩ := at_T68 HR0.out x21_1 p105 q105
                  cases e105
                  replace hx105_0 := (HB.out.cell (World.block_lt_of_cell? w _ hx105_0)).trans hx105_0
                  replace hx105_1 := (HB.out.cell (World.block_lt_of_cell? w _ hx105_1)).trans hx105_1
                  replace p105 := eq_true p105
                  replace q105 := eq_true q105
                  have p16 : 0 ≤ (x21_1 : Int) := of_decide_eq_true (by first | (with_reducible assumption) | assumption)
                  have q16 : (x21_1 : Int) < ((x9_1.length : Int) : Int) := of_decide_eq_true (by first | (with_reducible assumption) | assumption)
                  obtain ⟨go16, co16, eo16, gb16, gl16, cl16, HG16⟩ := Kd.R_form HO_9.out (by omega)
                  (first | cases eo16 | (injection eo16 with ea_ en_ ec_; (first | subst ea_ | (injection ea_ with ea_; subst ea_)); subst ec_; clear en_))
                  have GB16 := zq3 gb16
                  have GG16 := zq3 HG16
                  clear gb16 gl16 HG16
                  obtain ⟨hx16_0, hf16_0⟩ := Kd.R_celln 0 HO_9.out (x21_1 : Int) p16 q16
                  replace p16 := eq_true p16
                  replace q16 := eq_true q16
                  have HP17 := Kd.R_putg HO_9.out (x21_1 : Int) ((rd_T68 l0 x21_1).f0)
                  go_wp2_with (first | ((with_reducible refine gate_store (t := 23) (p := 31) rfl ?_); refine store_event (t := 23) (p := 31) (v := ?vo_w18) (w1 := (wr.setCell ⟨go16, (x21_1 : Int).toNat, none⟩ (.int .u64 ((rd_T68 l0 x21_1).f0)))) ?hg ?ho ?hn ?hr ?_; (case ho => rfl); (case hg => rfl); (case hn => rfl); (case hr => first | (go_simp; done) | (go_simp; rfl)); intro w18 hw; have hg : wr.grownBy w18 (some go16) := (by rw [hw]; exact HP17.2); have hp_ : Kd.R (Kd.int .u64) 23 w18 w.heap.size (fun _ => True) (.slice (some ⟨go16, 0, none⟩) x9_1.length co11) y106 := (by rw [hw, Ny106.out]; exact HP17.1); clear HP17; have n0_ := zq3 (hp_); have n1_ := zq3 (blk_grown (g := gb101) (o := .cells #[.int .u64 a2_0, .int .u64 a2_1] 42 (0, 0)) (by (with_reducible repeat (first | refine zq0 ?_ _ | refine zq2 ?_ | refine zq1 ?_ _)); exact BK101.out) hg (Kd.R_ne HO_9.out BK101.out (by decide))); have n2_ := zq3 ((by rw [hw]; exact zq6 (HB.out) GB16.out : Below w.heap.size w w18)); clear HO_9; clear BK101; clear HB; have HO_9 := n0_; have BK101 := n1_; have HB := n2_; clear n0_ n1_ n2_; clear hg hw hp_))
                  (try simp only [← hl9_1])
                  go_roundg k1
                  case measure => have := HK1.out; omega
                  case rel => exact ⟨(y106), (wrap64 (x21_1 + 1)), (by first | rfl | (simp; done) | (simp [*]; done)), H', ⟨by have := HK1.out; omega⟩, ⟨by (try simp only [hl9_1]); (with_reducible repeat (first | apply Kd.R_alloc | apply Kd.R_drewN | apply Kd.R_drew)); exact HO_9.out⟩, ⟨by (try simp only [hl9_1]); (with_reducible repeat (first | refine zq0 ?_ _ | refine zq2 ?_ | refine zq1 ?_ _)); exact BK101.out⟩, ⟨by repeat (first | (with_reducible first | exact HB.out | apply zq9 | apply zq7 | apply zq8 | refine zq6 ?_ GE101.out) | exact HB.out)⟩⟩
                · rw [if_neg c15] at H
                  exact absurd H (by simp)
              · rw [if_neg c14] at H
                exact absurd H (by simp)
            · rw [if_neg c13] at H
              exact absurd H (by simp)
          · rw [if_neg c12] at H
            have c12b0 : decide (x21_1 < (y102.length : Int)) = false := decide_eq_false c12
            clear c12
            replace H := Option.bind_eq_some_iff.mp H
            obtain ⟨t107, A190, H⟩ := H
            replace H : (curve_from.l1 k1 l0 a1 a3 t107 a3 0 a3 a2_0 a2_1) = some r := H
            have A19 := zq3 A190
            clear A190
            have H' := zq3 H
            clear H
            simp only [hl9_1] at c12b0 ⊢
            go_wp2_with (first | ((with_reducible refine gate_callee (f := 50) rfl ?_); refine goesL_ (some 34) rfl rfl Try.func50 (by kernel_rfl) rfl #[.slice Ao11 x9_1.length co11] rfl (by (try simp only [List.map_toArray, List.map_cons, List.map_nil]); first | done | rfl | (simp only [List.length_drop, List.length_take]; rfl)) ?_; (with_reducible refine (ratchet_Run.calls _ _ x9_1 t107 _ ?side1 ?side2 A19.out).mono ?_); (case side1 => repeat (first | exact (Kd.R_reads' HO_9.out).2.2 | (with_reducible refine Kd.C_alloc ?_ _) | (with_reducible refine Kd.C_drewN ?_ _) | (with_reducible refine Kd.C_drew ?_))); (case side2 => exact (Kd.R_reads' HO_9.out).2.1); rintro e w20 ⟨v108, rfl, ho0, hb⟩; refine ⟨_, rfl, ?_⟩; have n0_ := zq3 (Kd.R_elder' (by (with_reducible repeat (first | apply Kd.R_alloc | apply Kd.R_drewN | apply Kd.R_drew)); exact HO_9.out) (Kd.R_base ho0) hb); have n1_ := zq3 (Kd.R_lower (Kd.R_new' ho0 (Kd.R_lt (by (with_reducible repeat (first | apply Kd.R_alloc | apply Kd.R_drewN | apply Kd.R_drew)); exact HO_9.out))) (below_size (by repeat (first | (with_reducible first | exact HB.out | apply zq9 | apply zq7 | apply zq8 | refine zq6 ?_ GE101.out) | exact HB.out)))); have n2_ := zq3 (zq10 (g := gb101) (o := .cells #[.int .u64 a2_0, .int .u64 a2_1] 42 (0, 0)) (by (with_reducible repeat (first | refine zq0 ?_ _ | refine zq2 ?_ | refine zq1 ?_ _)); exact BK101.out) hb); have n3_ := zq3 (below_step (by repeat (first | (with_reducible first | exact HB.out | apply zq9 | apply zq7 | apply zq8 | refine zq6 ?_ GE101.out) | exact HB.out)) hb); clear HO_9; clear BK101; clear HB; have HO_9 := n0_; have HO109 := n1_; have BK101 := n2_; have HB := n3_; clear n0_ n1_ n2_ n3_; (try clear hb); (try clear hb2); (try clear hk); (try clear hi); (try clear ho0)))
            go_loopg [12, 13, 14] k1 (fun kq v12 v13 v14 w' => ∃ (x12_2 : Int) (x13_2 : Int) (x14_2 : Int), v12 = .int .i64 x12_2 ∧ v13 = .int .u64 x13_2 ∧ v14 = .int .i64 x14_2 ∧ Aside0 (curve_from.l1 kq l0 a1 a3 t107 x12_2 x13_2 x14_2 a2_0 a2_1 = some r) ∧ Aside0 (kq ≤ k1) ∧ Aside0 (Kd.R (Kd.int .u64) 23 w' w.heap.size (fun _ => True) v108 t107) ∧ Aside0 (w'.heap[gb101]? = some (.cells #[.int .u64 a2_0, .int .u64 a2_1] 42 (0, 0))) ∧ Aside0 (Below w.heap.size w w'))
            case atStart => exact ⟨(a3), (0), (a3), (by first | rfl | (simp; done) | (simp [*]; done)), (by first | rfl | (simp; done) | (simp [*]; done)), (by first | rfl | (simp; done) | (simp [*]; done)), H', ⟨Nat.le_refl _⟩, ⟨by (try simp only [hl9_1]); (with_reducible repeat (first | apply Kd.R_alloc | apply Kd.R_drewN | apply Kd.R_drew)); exact Kd.R_mono HO109.out (fun _ hk => trivial)⟩, ⟨by (try simp only [hl9_1]); (with_reducible repeat (first | refine zq0 ?_ _ | refine zq2 ?_ | refine zq1 ?_ _)); exact BK101.out⟩, ⟨by repeat (first | (with_reducible first | exact HB.out | apply zq9 | apply zq7 | apply zq8 | refine zq6 ?_ GE101.out) | exact HB.out)⟩⟩
            case round =>
              clear H'
              try clear c1
              try clear p1
              try clear q1
              try clear hx1
              try clear p2
              try clear c3
              try clear c5
              try clear c6
              try clear c6b0
              try clear c6b1
              try clear p6
              try clear c7
              try clear c7b0
              try clear c7b1
              try clear p10
              try clear q10
              try clear hx10
              try clear c12
              try clear c12b0
              try clear c13
              try clear c13b0
              try clear c14
              try clear c14b0
              try clear c15
              try clear c15b0
              try clear p16
              try clear q16
              try clear hx16
              try clear hf16
              try clear hx105_0
              try clear hx105_1
              try clear hx16_0
              try clear p105
              try clear p16
              try clear p2
              try clear p6
              try clear q105
              try clear q16
              obtain ⟨x12_2, x13_2, x14_2, rfl, rfl, rfl, HA, HK2, HO_11, BK101, HB⟩ := hrel
              cases gk with
              | zero => exact absurd HA.out (by simp [curve_from.l1])
              | succ k2 =>
                have H := HA.out
                clear HA
                simp only [curve_from.l1] at H
                by_cases c21 : x14_2 ≥ 0
                · rw [if_pos c21] at H
                  have c21b0 : decide (0 ≤ x14_2) = true := decide_eq_true c21
                  clear c21
                  by_cases c22 : 0 ≤ x14_2
                  · rw [if_pos c22] at H
                    have c22b0 : decide (0 ≤ x14_2) = true := decide_eq_true c22
                    clear c22
                    by_cases c23 : x14_2 < (l0.length : Int)
                    · rw [if_pos c23] at H
                      have c23b0 : decide (x14_2 < (l0.length : Int)) = true := decide_eq_true c23
                      clear c23
                      by_cases c24 : 0 ≤ a3
                      · rw [if_pos c24] at H
                        have c24b0 : decide (0 ≤ a3) = true := decide_eq_true c24
                        clear c24
                        by_cases c25 : a3 < (t107.length : Int)
                        · rw [if_pos c25] at H
                          have c25b0 : decide (a3 < (t107.length : Int)) = true := decide_eq_true c25
                          clear c25
                          by_cases c26 : x14_2 < (t107.length : Int)
                          · rw [if_pos c26] at H
                            have c26b0 : decide (x14_2 < (t107.length : Int)) = true := decide_eq_true c26
                            clear c26
                            replace H := Option.bind_eq_some_iff.mp H
                            obtain ⟨⟨t113, t114⟩, A270, H⟩ := H
                            replace H : ((wide_Mul.f (IntKind.u64.wrap (x13_2 + (IntKind.u64.wrap ((rd_T68 l0 x14_2).f1)))) 1000000000).bind fun bt116 => ((curve_less.f bt116.1 bt116.2 t113 t114).bind fun bt118 => ((wide_Less.f a2_0 a2_1 bt118.1 bt118.2).bind fun t120 => (if t120 = true then (curve_from.l1 k2 l0 a1 a3 t107 x14_2 (IntKind.u64.wrap (x13_2 + (IntKind.u64.wrap ((rd_T68 l0 x14_2).f1)))) (wrap64 (x14_2 - 1)) a2_0 a2_1) else (curve_from.l1 k2 l0 a1 a3 t107 x12_2 (IntKind.u64.wrap (x13_2 + (IntKind.u64.wrap ((rd_T68 l0 x14_2).f1)))) (wrap64 (x14_2 - 1)) a2_0 a2_1))))) = some r := H
                            have A27 := zq3 A270
                            clear A270
                            replace H := Option.bind_eq_some_iff.mp H
                            obtain ⟨⟨t116, t117⟩, A280, H⟩ := H
                            replace H : ((curve_less.f t116 t117 t113 t114).bind fun bt118 => ((wide_Less.f a2_0 a2_1 bt118.1 bt118.2).bind fun t120 => (if t120 = true then (curve_from.l1 k2 l0 a1 a3 t107 x14_2 (IntKind.u64.wrap (x13_2 + (IntKind.u64.wrap ((rd_T68 l0 x14_2).f1)))) (wrap64 (x14_2 - 1)) a2_0 a2_1) else (curve_from.l1 k2 l0 a1 a3 t107 x12_2 (IntKind.u64.wrap (x13_2 + (IntKind.u64.wrap ((rd_T68 l0 x14_2).f1)))) (wrap64 (x14_2 - 1)) a2_0 a2_1)))) = some r := H
                            have A28 := zq3 A280
                            clear A280
                            replace H := Option.bind_eq_some_iff.mp H
                            obtain ⟨⟨t118, t119⟩, A290, H⟩ := H
                            replace H : ((wide_Less.f a2_0 a2_1 t118 t119).bind fun t120 => (if t120 = true then (curve_from.l1 k2 l0 a1 a3 t107 x14_2 (IntKind.u64.wrap (x13_2 + (IntKind.u64.wrap ((rd_T68 l0 x14_2).f1)))) (wrap64 (x14_2 - 1)) a2_0 a2_1) else (curve_from.l1 k2 l0 a1 a3 t107 x12_2 (IntKind.u64.wrap (x13_2 + (IntKind.u64.wrap ((rd_T68 l0 x14_2).f1)))) (wrap64 (x14_2 - 1)) a2_0 a2_1))) = some r := H
                            have A29 := zq3 A290
                            clear A290
                            replace H := Option.bind_eq_some_iff.mp H
                            obtain ⟨t120, A300, H⟩ := H
                            replace H : (if t120 = true then (curve_from.l1 k2 l0 a1 a3 t107 x14_2 (IntKind.u64.wrap (x13_2 + (IntKind.u64.wrap ((rd_T68 l0 x14_2).f1)))) (wrap64 (x14_2 - 1)) a2_0 a2_1) else (curve_from.l1 k2 l0 a1 a3 t107 x12_2 (IntKind.u64.wrap (x13_2 + (IntKind.u64.wrap ((rd_T68 l0 x14_2).f1)))) (wrap64 (x14_2 - 1)) a2_0 a2_1)) = some r := H
                            have A30 := zq3 A300
                            clear A300
                            by_cases c31 : t120 = true
                            · subst c31
                              have H1 : (curve_from.l1 k2 l0 a1 a3 t107 x14_2 (IntKind.u64.wrap (x13_2 + (IntKind.u64.wrap ((rd_T68 l0 x14_2).f1)))) (wrap64 (x14_2 - 1)) a2_0 a2_1) = some r := by rw [if_pos rfl] at H; exact H
                              clear H
                              have H := H1
                              clear H1
                              have H' := zq3 H
                              clear H
                              have p110 : 0 ≤ (x14_2 : Int) := of_decide_eq_true (by first | (with_reducible assumption) | assumption)
                              have q110 : x14_2 < (l0.length : Int) := of_decide_eq_true (by first | (with_reducible assumption) | assumption)
                              obtain ⟨ad110, e110, hx110_0, hx110_1⟩ := at_T68 HR0.out x14_2 p110 q110
                              cases e110
                              replace hx110_0 := (HB.out.cell (World.block_lt_of_cell? w _ hx110_0)).trans hx110_0
                              replace hx110_1 := (HB.out.cell (World.block_lt_of_cell? w _ hx110_1)).trans hx110_1
                              replace p110 := eq_true p110
                              replace q110 := eq_true q110
                              try go_wp2
                              have n0_ := zq3 (Kd.R_drew HO_11.out)
                              have n1_ := zq3 (zq2 BK101.out)
                              have n2_ := zq3 (zq8 HB.out)
                              clear HO_11
                              clear BK101
                              clear HB
                              have HO_11 := n0_
                              have BK101 := n1_
                              have HB := n2_
                              clear n0_ n1_ n2_
                              obtain ⟨Ao33, co33, eo33⟩ := Kd.R_slice HO_11.out
                              (first | subst eo33 | (injection eo33 with f1_ f2_ f3_; have f4_ := f1_.symm; have f5_ := f3_.symm; clear f1_ f2_ f3_; subst f4_; subst f5_))
                              have p111 : 0 ≤ (a3 : Int) := of_decide_eq_true (by first | (with_reducible assumption) | assumption)
                              have q111 : a3 < (t107.length : Int) := of_decide_eq_true (by first | (with_reducible assumption) | assumption)
                              obtain ⟨ad111, e111, hx111_0⟩ := Kd.at_int (Kd.R_reads' HO_11.out).2.2 a3 p111 q111
                              cases e111
                              replace p111 := eq_true p111
                              replace q111 := eq_true q111
                              have p112 : 0 ≤ (x14_2 : Int) := of_decide_eq_true (by first | (with_reducible assumption) | assumption)
                              have q112 : x14_2 < (t107.length : Int) := of_decide_eq_true (by first | (with_reducible assumption) | assumption)
                              obtain ⟨ad112, e112, hx112_0⟩ := Kd.at_int (Kd.R_reads' HO_11.out).2.2 x14_2 p112 q112
                              obtain rfl : ad111 = ad112 := (by injection e112)
                              replace p112 := eq_true p112
                              replace q112 := eq_true q112
                              refine start_ (n := 13) (S := fun w' => w'.cell? (ad111.add (a3).toNat) = some (.int .u64 (rd t107 a3)) ∧ w'.cell? (ad111.add (x14_2).toNat) = some (.int .u64 (rd t107 x14_2))) (ds := []) #[false, false, false, false, false, false, false, false, false, false, false, false, false] (by kernel_rfl) rfl rfl ⟨hx111_0, hx112_0⟩ (fun hHeld => ?_); refine with_tabW curve_from.tab14 curve_from.bits14 (fun HT_ HW_ => ?_)
                              generalize wr.drew = w32 at HO_11 BK101 HB hx111_0 hx112_0 hHeld ⊢
                              refine pure_ (i := 0) (N := some 49) (v := ?_) (a' := ?_) #[true, false, false, false, false, false, false, false, false, false, false, false, false] rfl rfl (any_of HT_.out (by kernel_rfl)) (fun _ _ _ h => h) (Or.inl ⟨by rfl, ?_⟩) ?_ ?_
                              rotate_left
                              · intro w'
                                go_simp
                                with_reducible rfl
                              rotate_left
                              · simp only [Act.put, List.setIfInBounds_toArray, List.set_cons_zero, List.set_cons_succ, i64_w, i32_w]
                                rfl
                              refine pure_ (i := 1) (N := some 50) (v := ?_) (a' := ?_) #[true, true, false, false, false, false, false, false, false, false, false, false, false] rfl rfl (any_of HT_.out (by kernel_rfl)) (fun _ _ _ h => h) (Or.inl ⟨by rfl, ?_⟩) ?_ ?_
                              rotate_left
                              · intro w'
                                go_simp
                                with_reducible rfl
                              rotate_left
                              · simp only [Act.put, List.setIfInBounds_toArray, List.set_cons_zero, List.set_cons_succ, i64_w, i32_w]
                                rfl
                              refine pure_ (i := 2) (N := some 51) (v := ?_) (a' := ?_) #[true, true, true, false, false, false, false, false, false, false, false, false, false] rfl rfl (any_of HT_.out (by kernel_rfl)) (fun _ _ _ h => h) (Or.inl ⟨by rfl, ?_⟩) ?_ ?_
                              rotate_left
                              · intro w'
                                go_simp
                                with_reducible rfl
                              rotate_left
                              · simp only [Act.put, List.setIfInBounds_toArray, List.set_cons_zero, List.set_cons_succ, i64_w, i32_w]
                                rfl
                              refine pure_ (i := 3) (N := some 52) (v := ?_) (a' := ?_) #[true, true, true, true, false, false, false, false, false, false, false, false, false] rfl rfl (any_of HT_.out (by kernel_rfl)) (fun _ _ _ h => h) (Or.inl ⟨by rfl, ?_⟩) ?_ ?_
                              rotate_left
                              · intro w'
                                go_simp
                                with_reducible rfl
                              rotate_left
                              · simp only [Act.put, List.setIfInBounds_toArray, List.set_cons_zero, List.set_cons_succ, i64_w, i32_w]
                                rfl
                              refine pure_ (i := 5) (N := some 54) (v := ?_) (a' := ?_) #[true, true, true, true, false, true, false, false, false, false, false, false, false] rfl rfl (any_of HT_.out (by kernel_rfl)) (fun _ _ _ h => h) (Or.inl ⟨by rfl, ?_⟩) ?_ ?_
                              rotate_left
                              · intro w'
                                go_simp
                                with_reducible rfl
                              rotate_left
                              · simp only [Act.put, List.setIfInBounds_toArray, List.set_cons_zero, List.set_cons_succ, i64_w, i32_w]
                                rfl
                              refine pure_ (i := 6) (N := some 55) (v := ?_) (a' := ?_) #[true, true, true, true, false, true, true, false, false, false, false, false, false] rfl rfl (any_of HT_.out (by kernel_rfl)) (fun _ _ _ h => h) (Or.inl ⟨by rfl, ?_⟩) ?_ ?_
                              rotate_left
                              · intro w'
                                go_simp
                                with_reducible rfl
                              rotate_left
                              · simp only [Act.put, List.setIfInBounds_toArray, List.set_cons_zero, List.set_cons_succ, i64_w, i32_w]
                                rfl
                              refine pure_ (i := 7) (N := some 56) (v := ?_) (a' := ?_) #[true, true, true, true, false, true, true, true, false, false, false, false, false] rfl rfl (any_of HT_.out (by kernel_rfl)) (fun _ _ _ h => h) (Or.inl ⟨by rfl, ?_⟩) ?_ ?_
                              rotate_left
                              · intro w'
                                go_simp
                                with_reducible rfl
                              rotate_left
                              · simp only [Act.put, List.setIfInBounds_toArray, List.set_cons_zero, List.set_cons_succ, i64_w, i32_w]
                                rfl
                              refine take_ (i := 4) (N := some 53) (v := ?_) (a' := ?_) #[true, true, true, true, true, true, true, true, false, false, false, false, false] rfl rfl (take_ofW HT_.out HW_.out (by kernel_rfl)) (fun _ _ _ h => h) (Or.inl ⟨by rfl, ?_⟩) hHeld ?_ ?_
                              rotate_left
                              · rintro w' ⟨s0, s1⟩
                                go_simp
                                with_reducible rfl
                              rotate_left
                              · simp only [Act.put, List.setIfInBounds_toArray, List.set_cons_zero, List.set_cons_succ, i64_w, i32_w]
                                rfl
                              refine take_ (i := 8) (N := some 57) (v := ?_) (a' := ?_) #[true, true, true, true, true, true, true, true, true, false, false, false, false] rfl rfl (take_ofW HT_.out HW_.out (by kernel_rfl)) (fun _ _ _ h => h) (Or.inl ⟨by rfl, ?_⟩) hHeld ?_ ?_
                              rotate_left
                              · rintro w' ⟨s0, s1⟩
                                go_simp
                                with_reducible rfl
                              rotate_left
                              · simp only [Act.put, List.setIfInBounds_toArray, List.set_cons_zero, List.set_cons_succ, i64_w, i32_w]
                                rfl
                              refine pure_ (i := 9) (N := some 58) (v := ?_) (a' := ?_) #[true, true, true, true, true, true, true, true, true, true, false, false, false] rfl rfl (any_of HT_.out (by kernel_rfl)) (fun _ _ _ h => h) (Or.inl ⟨by rfl, ?_⟩) ?_ ?_
                              rotate_left
                              · intro w'
                                go_simp
                                with_reducible rfl
                              rotate_left
                              · simp only [Act.put, List.setIfInBounds_toArray, List.set_cons_zero, List.set_cons_succ, i64_w, i32_w]
                                rfl
                              refine join_ (σ := Nat) 1 #[true, true, true, true, true, true, true, true, true, true, true, true, false] (fun s_ => [(59, .agg #[.int .u64 t113, .int .u64 t114]), (15, .pointer (some ⟨s_, 0, none⟩))]) (fun s_ w' => (w'.cell? (ad111.add (a3).toNat) = some (.int .u64 (rd t107 a3)) ∧ w'.cell? (ad111.add (x14_2).toNat) = some (.int .u64 (rd t107 x14_2))) ∧ (Kd.R (Kd.int .u64) 23 w' w.heap.size (fun _ => True) (.slice (some ad111) t107.length co33) t107) ∧ (w'.heap[gb101]? = some (.cells #[.int .u64 a2_0, .int .u64 a2_1] 42 (0, 0))) ∧ (w'.heap[s_]? = some (.cells #[.int .u64 0, .int .u64 0] 42 (0, 0))) ∧ (w.heap.size ≤ s_) ∧ (w.heap.size ≤ s_) ∧ (gb101 ≠ s_) ∧ (s_ ≠ gb101) ∧ (Below w.heap.size w w')) ?_ ?_
                              rotate_left
                              · intro hCont
                                refine two_ (i := 10) (j := 11) (Ni := some 59) (Nj := some 15) #[true, true, true, true, true, true, true, true, true, true, true, false, false] #[true, true, true, true, true, true, true, true, true, true, false, true, false] rfl rfl rfl rfl (two_of HT_.out (by kernel_rfl)) (by decide) (by decide) (fun K hK => ?_) (fun K hK => ?_)
                                · skip
                                  refine goes_ Try.func24 (by kernel_rfl) rfl #[.int .u64 a1, .int .u64 (IntKind.u64.wrap ((rd t107 a3) - (rd t107 x14_2)))] (by rfl) rfl rfl (by (try simp only [List.map_toArray, List.map_cons, List.map_nil]); first | done | rfl | (simp only [List.length_drop, List.length_take]; rfl)) ?_
                                  with_reducible refine (wide_Mul.calls a1 (IntKind.u64.wrap ((rd t107 a3) - (rd t107 x14_2))) t113 t114 _ A27.out).mono ?_
                                  rintro e w34 ⟨rfl, hb⟩
                                  have HS0_ := (hb.cell (World.block_lt_of_cell? _ _ (hHeld.1))).trans (hHeld.1)
                                  have HS1_ := (hb.cell (World.block_lt_of_cell? _ _ (hHeld.2))).trans (hHeld.2)
                                  refine ⟨_, rfl, ?_⟩
                                  have n0_ := zq3 (Kd.R_below (by (with_reducible repeat (first | apply Kd.R_alloc | apply Kd.R_drewN | apply Kd.R_drew)); exact HO_11.out) hb)
                                  have n1_ := zq3 (zq10 (g := gb101) (o := .cells #[.int .u64 a2_0, .int .u64 a2_1] 42 (0, 0)) (by (with_reducible repeat (first | refine zq0 ?_ _ | refine zq2 ?_ | refine zq1 ?_ _)); exact BK101.out) hb)
                                  have n2_ := zq3 (below_step (by repeat (first | (with_reducible first | exact HB.out | apply zq9 | apply zq7 | apply zq8 | refine zq6 ?_ GE101.out) | exact HB.out)) hb)
                                  clear HO_11
                                  clear BK101
                                  clear HB
                                  have HO_11 := n0_
                                  have BK101 := n1_
                                  have HB := n2_
                                  clear n0_ n1_ n2_
                                  (try clear hb)
                                  (try clear hb2)
                                  (try clear hk)
                                  (try clear hi)
                                  refine hK.out _ _ ⟨HS0_, HS1_⟩ (fun hHeld => ?_)
                                  clear hK K
                                  refine norm_ (a' := ?_) ?_ ?_
                                  rotate_left
                                  · show Act.put _ (some 59) _ = _
                                    simp only [Act.put, List.setIfInBounds_toArray, List.set_cons_zero, List.set_cons_succ, i64_w, i32_w]
                                    rfl
                                  refine one_ (i := 11) (N := some 15) #[true, true, true, true, true, true, true, true, true, true, true, true, false] rfl rfl (one_of HT_.out (by kernel_rfl)) (by decide) (fun K hK => ?_)
                                  refine box_step ?hg (N := 15) ?hd (cs := #[.int .u64 0, .int .u64 0]) (t := 42) ?hr ?_; (case hd => rfl); (case hg => rfl); (case hr => first | (go_simp; done) | (go_simp; rfl))
                                  intro gb115 hg w35 hbox hb
                                  have HS0_ := (hb.cell (World.block_lt_of_cell? _ _ (hHeld.1))).trans (hHeld.1)
                                  have HS1_ := (hb.cell (World.block_lt_of_cell? _ _ (hHeld.2))).trans (hHeld.2)
                                  have n0_ := zq3 (Kd.R_below (by (with_reducible repeat (first | apply Kd.R_alloc | apply Kd.R_drewN | apply Kd.R_drew)); exact HO_11.out) hb)
                                  have n1_ := zq3 (zq10 (g := gb101) (o := .cells #[.int .u64 a2_0, .int .u64 a2_1] 42 (0, 0)) (by (with_reducible repeat (first | refine zq0 ?_ _ | refine zq2 ?_ | refine zq1 ?_ _)); exact BK101.out) hb)
                                  have n2_ := zq3 (below_step (by repeat (first | (with_reducible first | exact HB.out | apply zq9 | apply zq7 | apply zq8 | refine zq6 ?_ GE101.out) | exact HB.out)) hb)
                                  have n3_ := zq3 (hbox)
                                  have n4_ := zq3 ((by rw [hg]; exact (below_size (by repeat (first | (with_reducible first | exact HB.out | apply zq9 | apply zq7 | apply zq8 | refine zq6 ?_ GE101.out) | exact HB.out))) : w.heap.size ≤ gb115))
                                  have n5_ := zq3 ((by rw [hg]; exact (below_size (by repeat (first | (with_reducible first | exact HB.out | apply zq9 | apply zq7 | apply zq8 | refine zq6 ?_ GE101.out) | exact HB.out))) : w.heap.size ≤ gb115))
                                  have n6_ := zq3 ((by rw [hg]; exact Nat.ne_of_lt (blk_lt (g := gb101) (o := .cells #[.int .u64 a2_0, .int .u64 a2_1] 42 (0, 0)) (by (with_reducible repeat (first | refine zq0 ?_ _ | refine zq2 ?_ | refine zq1 ?_ _)); exact BK101.out)) : gb101 ≠ gb115))
                                  have n7_ := zq3 ((by rw [hg]; exact Nat.ne_of_gt (blk_lt (g := gb101) (o := .cells #[.int .u64 a2_0, .int .u64 a2_1] 42 (0, 0)) (by (with_reducible repeat (first | refine zq0 ?_ _ | refine zq2 ?_ | refine zq1 ?_ _)); exact BK101.out)) : gb115 ≠ gb101))
                                  clear HO_11
                                  clear BK101
                                  clear HB
                                  have HO_11 := n0_
                                  have BK101 := n1_
                                  have HB := n2_
                                  have BK115 := n3_
                                  have GW115 := n4_
                                  have GE115 := n5_
                                  have NB101_115 := n6_
                                  have NB115_101 := n7_
                                  clear n0_ n1_ n2_ n3_ n4_ n5_ n6_ n7_
                                  clear hb hbox hg
                                  refine hK.out _ _ ⟨HS0_, HS1_⟩ (fun hHeld => ?_)
                                  clear hK K
                                  refine norm_ (a' := ?_) ?_ ?_
                                  rotate_left
                                  · show Act.put _ (some 15) _ = _
                                    simp only [Act.put, List.setIfInBounds_toArray, List.set_cons_zero, List.set_cons_succ, i64_w, i32_w]
                                    rfl
                                  exact norm_ (by simp only [putAll, Act.put, List.setIfInBounds_toArray, List.set_cons_zero, List.set_cons_succ]) (hCont (gb115) _ ⟨hHeld, (by (with_reducible repeat (first | apply Kd.R_alloc | apply Kd.R_drewN | apply Kd.R_drew)); exact HO_11.out), (by (with_reducible repeat (first | refine zq0 ?_ _ | refine zq2 ?_ | refine zq1 ?_ _)); exact BK101.out), (by (with_reducible repeat (first | refine zq0 ?_ _ | refine zq2 ?_ | refine zq1 ?_ _)); exact BK115.out), GW115.out, GE115.out, NB101_115.out, NB115_101.out, (by repeat (first | (with_reducible first | exact HB.out | apply zq9 | apply zq7 | apply zq8 | refine zq6 ?_ GE101.out | refine zq6 ?_ GE115.out) | exact HB.out))⟩)
                                · skip
                                  refine box_step ?hg (N := 15) ?hd (cs := #[.int .u64 0, .int .u64 0]) (t := 42) ?hr ?_; (case hd => rfl); (case hg => rfl); (case hr => first | (go_simp; done) | (go_simp; rfl))
                                  intro gb115 hg w34 hbox hb
                                  have HS0_ := (hb.cell (World.block_lt_of_cell? _ _ (hHeld.1))).trans (hHeld.1)
                                  have HS1_ := (hb.cell (World.block_lt_of_cell? _ _ (hHeld.2))).trans (hHeld.2)
                                  have n0_ := zq3 (Kd.R_below (by (with_reducible repeat (first | apply Kd.R_alloc | apply Kd.R_drewN | apply Kd.R_drew)); exact HO_11.out) hb)
                                  have n1_ := zq3 (zq10 (g := gb101) (o := .cells #[.int .u64 a2_0, .int .u64 a2_1] 42 (0, 0)) (by (with_reducible repeat (first | refine zq0 ?_ _ | refine zq2 ?_ | refine zq1 ?_ _)); exact BK101.out) hb)
                                  have n2_ := zq3 (below_step (by repeat (first | (with_reducible first | exact HB.out | apply zq9 | apply zq7 | apply zq8 | refine zq6 ?_ GE101.out) | exact HB.out)) hb)
                                  have n3_ := zq3 (hbox)
                                  have n4_ := zq3 ((by rw [hg]; exact (below_size (by repeat (first | (with_reducible first | exact HB.out | apply zq9 | apply zq7 | apply zq8 | refine zq6 ?_ GE101.out) | exact HB.out))) : w.heap.size ≤ gb115))
                                  have n5_ := zq3 ((by rw [hg]; exact (below_size (by repeat (first | (with_reducible first | exact HB.out | apply zq9 | apply zq7 | apply zq8 | refine zq6 ?_ GE101.out) | exact HB.out))) : w.heap.size ≤ gb115))
                                  have n6_ := zq3 ((by rw [hg]; exact Nat.ne_of_lt (blk_lt (g := gb101) (o := .cells #[.int .u64 a2_0, .int .u64 a2_1] 42 (0, 0)) (by (with_reducible repeat (first | refine zq0 ?_ _ | refine zq2 ?_ | refine zq1 ?_ _)); exact BK101.out)) : gb101 ≠ gb115))
                                  have n7_ := zq3 ((by rw [hg]; exact Nat.ne_of_gt (blk_lt (g := gb101) (o := .cells #[.int .u64 a2_0, .int .u64 a2_1] 42 (0, 0)) (by (with_reducible repeat (first | refine zq0 ?_ _ | refine zq2 ?_ | refine zq1 ?_ _)); exact BK101.out)) : gb115 ≠ gb101))
                                  clear HO_11
                                  clear BK101
                                  clear HB
                                  have HO_11 := n0_
                                  have BK101 := n1_
                                  have HB := n2_
                                  have BK115 := n3_
                                  have GW115 := n4_
                                  have GE115 := n5_
                                  have NB101_115 := n6_
                                  have NB115_101 := n7_
                                  clear n0_ n1_ n2_ n3_ n4_ n5_ n6_ n7_
                                  clear hb hbox hg
                                  refine hK.out _ _ ⟨HS0_, HS1_⟩ (fun hHeld => ?_)
                                  clear hK K
                                  refine norm_ (a' := ?_) ?_ ?_
                                  rotate_left
                                  · show Act.put _ (some 15) _ = _
                                    simp only [Act.put, List.setIfInBounds_toArray, List.set_cons_zero, List.set_cons_succ, i64_w, i32_w]
                                    rfl
                                  refine one_ (i := 10) (N := some 59) #[true, true, true, true, true, true, true, true, true, true, true, true, false] rfl rfl (one_of HT_.out (by kernel_rfl)) (by decide) (fun K hK => ?_)
                                  refine goes_ Try.func24 (by kernel_rfl) rfl #[.int .u64 a1, .int .u64 (IntKind.u64.wrap ((rd t107 a3) - (rd t107 x14_2)))] (by rfl) rfl rfl (by (try simp only [List.map_toArray, List.map_cons, List.map_nil]); first | done | rfl | (simp only [List.length_drop, List.length_take]; rfl)) ?_
                                  with_reducible refine (wide_Mul.calls a1 (IntKind.u64.wrap ((rd t107 a3) - (rd t107 x14_2))) t113 t114 _ A27.out).mono ?_
                                  rintro e w35 ⟨rfl, hb⟩
                                  have HS0_ := (hb.cell (World.block_lt_of_cell? _ _ (hHeld.1))).trans (hHeld.1)
                                  have HS1_ := (hb.cell (World.block_lt_of_cell? _ _ (hHeld.2))).trans (hHeld.2)
                                  refine ⟨_, rfl, ?_⟩
                                  have n0_ := zq3 (Kd.R_below (by (with_reducible repeat (first | apply Kd.R_alloc | apply Kd.R_drewN | apply Kd.R_drew)); exact HO_11.out) hb)
                                  have n1_ := zq3 (zq10 (g := gb101) (o := .cells #[.int .u64 a2_0, .int .u64 a2_1] 42 (0, 0)) (by (with_reducible repeat (first | refine zq0 ?_ _ | refine zq2 ?_ | refine zq1 ?_ _)); exact BK101.out) hb)
                                  have n2_ := zq3 (zq10 (g := gb115) (o := .cells #[.int .u64 0, .int .u64 0] 42 (0, 0)) (by (with_reducible repeat (first | refine zq0 ?_ _ | refine zq2 ?_ | refine zq1 ?_ _)); exact BK115.out) hb)
                                  have n3_ := zq3 (below_step (by repeat (first | (with_reducible first | exact HB.out | apply zq9 | apply zq7 | apply zq8 | refine zq6 ?_ GE101.out | refine zq6 ?_ GE115.out) | exact HB.out)) hb)
                                  clear HO_11
                                  clear BK101
                                  clear BK115
                                  clear HB
                                  have HO_11 := n0_
                                  have BK101 := n1_
                                  have BK115 := n2_
                                  have HB := n3_
                                  clear n0_ n1_ n2_ n3_
                                  (try clear hb)
                                  (try clear hb2)
                                  (try clear hk)
                                  (try clear hi)
                                  refine hK.out _ _ ⟨HS0_, HS1_⟩ (fun hHeld => ?_)
                                  clear hK K
                                  refine norm_ (a' := ?_) ?_ ?_
                                  rotate_left
                                  · show Act.put _ (some 59) _ = _
                                    simp only [Act.put, List.setIfInBounds_toArray, List.set_cons_zero, List.set_cons_succ, i64_w, i32_w]
                                    rfl
                                  exact norm_ (by simp only [putAll, Act.put, List.setIfInBounds_toArray, List.set_cons_zero, List.set_cons_succ]) (hCont (gb115) _ ⟨hHeld, (by (with_reducible repeat (first | apply Kd.R_alloc | apply Kd.R_drewN | apply Kd.R_drew)); exact HO_11.out), (by (with_reducible repeat (first | refine zq0 ?_ _ | refine zq2 ?_ | refine zq1 ?_ _)); exact BK101.out), (by (with_reducible repeat (first | refine zq0 ?_ _ | refine zq2 ?_ | refine zq1 ?_ _)); exact BK115.out), GW115.out, GE115.out, NB101_115.out, NB115_101.out, (by repeat (first | (with_reducible first | exact HB.out | apply zq9 | apply zq7 | apply zq8 | refine zq6 ?_ GE101.out | refine zq6 ?_ GE115.out) | exact HB.out))⟩)
                              rintro gb115 w36 ⟨hS_, h0_, h1_, h2_, h3_, h4_, h5_, h6_, h7_⟩
                              have n0_ : Aside0 (Kd.R (Kd.int .u64) 23 w36 w.heap.size (fun _ => True) (.slice (some ad111) t107.length co33) t107) := ⟨h0_⟩
                              have n1_ : Aside0 (w36.heap[gb101]? = some (.cells #[.int .u64 a2_0, .int .u64 a2_1] 42 (0, 0))) := ⟨h1_⟩
                              have n2_ : Aside0 (w36.heap[gb115]? = some (.cells #[.int .u64 0, .int .u64 0] 42 (0, 0))) := ⟨h2_⟩
                              have n3_ : Aside0 (w.heap.size ≤ gb115) := ⟨h3_⟩
                              have n4_ : Aside0 (w.heap.size ≤ gb115) := ⟨h4_⟩
                              have n5_ : Aside0 (gb101 ≠ gb115) := ⟨h5_⟩
                              have n6_ : Aside0 (gb115 ≠ gb101) := ⟨h6_⟩
                              have n7_ : Aside0 (Below w.heap.size w w36) := ⟨h7_⟩
                              clear HO_11
                              clear BK101
                              clear HB
                              clear h0_ h1_ h2_ h3_ h4_ h5_ h6_ h7_
                              have HO_11 := n0_
                              have BK101 := n1_
                              have BK115 := n2_
                              have GW115 := n3_
                              have GE115 := n4_
                              have NB101_115 := n5_
                              have NB115_101 := n6_
                              have HB := n7_
                              clear n0_ n1_ n2_ n3_ n4_ n5_ n6_ n7_
                              have hHeld : w36.cell? (ad111.add (a3).toNat) = some (.int .u64 (rd t107 a3)) ∧ w36.cell? (ad111.add (x14_2).toNat) = some (.int .u64 (rd t107 x14_2)) := hS_
                              refine norm_ (a' := ?_) ?_ ?_
                              rotate_left
                              · simp only [putAll, Act.put, List.setIfInBounds_toArray, List.set_cons_zero, List.set_cons_succ]
                                rfl
                              refine one_ (i := 12) (N := none) #[true, true, true, true, true, true, true, true, true, true, true, true, true] rfl rfl (one_of HT_.out (by kernel_rfl)) (by decide) (fun K hK => ?_)
                              have hs37 : w36.cell? ⟨gb115, 0, none⟩ = some (.int .u64 0) := (zq5 BK115.out 0).trans rfl
                              have hfs37 := zq4 BK115.out 0
                              have hns37_0 := NB101_115.out
                              have hms37_0 := NB115_101.out
                              have hs38 : w36.cell? ⟨gb115, 1, none⟩ = some (.int .u64 0) := (zq5 BK115.out 1).trans rfl
                              have hfs38 := zq4 BK115.out 1
                              have hns38_0 := NB101_115.out
                              have hms38_0 := NB115_101.out
                              refine skip_ (w1 := ?_) (by rfl) rfl ?_ ?_
                              rotate_left
                              · go_simp
                                rfl
                              refine hK.out _ _ ⟨((cell_far (p := ⟨gb115, _, none⟩) (by first | exact Kd.own_blk (Kd.R_ne HO_11.out BK115.out (by decide)) | (rw [add_block]; exact Kd.own_blk (Kd.R_ne HO_11.out BK115.out (by decide))) | (show (Addr.add _ _).block ≠ _; rw [add_block]; exact Kd.own_blk (Kd.R_ne HO_11.out BK115.out (by decide))) | (dsimp only; exact Kd.own_blk (Kd.R_ne HO_11.out BK115.out (by decide)))) _).trans (((cell_far (p := ⟨gb115, _, none⟩) (by first | exact Kd.own_blk (Kd.R_ne HO_11.out BK115.out (by decide)) | (rw [add_block]; exact Kd.own_blk (Kd.R_ne HO_11.out BK115.out (by decide))) | (show (Addr.add _ _).block ≠ _; rw [add_block]; exact Kd.own_blk (Kd.R_ne HO_11.out BK115.out (by decide))) | (dsimp only; exact Kd.own_blk (Kd.R_ne HO_11.out BK115.out (by decide)))) _).trans (hHeld.1)))), ((cell_far (p := ⟨gb115, _, none⟩) (by first | exact Kd.own_blk (Kd.R_ne HO_11.out BK115.out (by decide)) | (rw [add_block]; exact Kd.own_blk (Kd.R_ne HO_11.out BK115.out (by decide))) | (show (Addr.add _ _).block ≠ _; rw [add_block]; exact Kd.own_blk (Kd.R_ne HO_11.out BK115.out (by decide))) | (dsimp only; exact Kd.own_blk (Kd.R_ne HO_11.out BK115.out (by decide)))) _).trans (((cell_far (p := ⟨gb115, _, none⟩) (by first | exact Kd.own_blk (Kd.R_ne HO_11.out BK115.out (by decide)) | (rw [add_block]; exact Kd.own_blk (Kd.R_ne HO_11.out BK115.out (by decide))) | (show (Addr.add _ _).block ≠ _; rw [add_block]; exact Kd.own_blk (Kd.R_ne HO_11.out BK115.out (by decide))) | (dsimp only; exact Kd.own_blk (Kd.R_ne HO_11.out BK115.out (by decide)))) _).trans (hHeld.2))))⟩ (fun hHeld => ?_)
                              clear hK K
                              refine done_ (done_of HT_.out (by kernel_rfl)) ?_
                              try go_wp2
                              have n0_ : Aside0 (Kd.R (Kd.int .u64) 23 ((w36.setCell ⟨gb115, 0, none⟩ (.int .u64 t113)).setCell ⟨gb115, 1, none⟩ (.int .u64 t114)) w.heap.size (fun _ => True) (.slice (some ad111) t107.length co33) t107) := ⟨by (with_reducible repeat (first | apply Kd.R_alloc | apply Kd.R_drewN | apply Kd.R_drew)); exact Kd.R_mono (Kd.R_far (p := ⟨gb115, 1, none⟩) (Kd.R_far (p := ⟨gb115, 0, none⟩) (Kd.R_types HO_11.out BK115.out (by decide)) (fun _ hk => hk.2) (.int .u64 t113)) (fun _ hk => hk.2) (.int .u64 t114)) (fun _ hk => trivial)⟩
                              have n1_ : Aside0 (((w36.setCell ⟨gb115, 0, none⟩ (.int .u64 t113)).setCell ⟨gb115, 1, none⟩ (.int .u64 t114)).heap[gb101]? = some (.cells #[.int .u64 a2_0, .int .u64 a2_1] 42 (0, 0))) := ⟨by (with_reducible repeat (first | refine zq0 ?_ _ | refine zq2 ?_ | refine zq1 ?_ _)); refine zq11 ?_ NB101_115.out _; (with_reducible repeat (first | refine zq0 ?_ _ | refine zq2 ?_ | refine zq1 ?_ _)); refine zq11 ?_ NB101_115.out _; (with_reducible repeat (first | refine zq0 ?_ _ | refine zq2 ?_ | refine zq1 ?_ _)); exact BK101.out⟩
                              have n2_ : Aside0 (((w36.setCell ⟨gb115, 0, none⟩ (.int .u64 t113)).setCell ⟨gb115, 1, none⟩ (.int .u64 t114)).heap[gb115]? = some (.cells #[.int .u64 t113, .int .u64 t114] 42 (0, 0))) := ⟨by (with_reducible repeat (first | refine zq0 ?_ _ | refine zq2 ?_ | refine zq1 ?_ _)); refine blk_put (cs := #[.int .u64 t113, .int .u64 0]) ?_ 1 _ rfl; (with_reducible repeat (first | refine zq0 ?_ _ | refine zq2 ?_ | refine zq1 ?_ _)); refine blk_put (cs := #[.int .u64 0, .int .u64 0]) ?_ 0 _ rfl; (with_reducible repeat (first | refine zq0 ?_ _ | refine zq2 ?_ | refine zq1 ?_ _)); exact BK115.out⟩
                              have n3_ : Aside0 (Below w.heap.size w ((w36.setCell ⟨gb115, 0, none⟩ (.int .u64 t113)).setCell ⟨gb115, 1, none⟩ (.int .u64 t114))) := ⟨by repeat (first | (with_reducible first | exact HB.out | apply zq9 | apply zq7 | apply zq8 | refine zq6 ?_ GE101.out | refine zq6 ?_ GE115.out) | exact HB.out)⟩
                              (try clear HO_11)
                              (try clear BK101)
                              (try clear BK115)
                              (try clear HB)
                              generalize ((w36.setCell ⟨gb115, 0, none⟩ (.int .u64 t113)).setCell ⟨gb115, 1, none⟩ (.int .u64 t114)) = w39 at n0_ n1_ n2_ n3_ ⊢
                              have HO_11 := n0_
                              have BK101 := n1_
                              have BK115 := n2_
                              have HB := n3_
                              clear n0_ n1_ n2_ n3_
                              have n0_ := zq3 (Kd.R_drew HO_11.out)
                              have n1_ := zq3 (zq2 BK101.out)
                              have n2_ := zq3 (zq2 BK115.out)
                              have n3_ := zq3 (zq8 HB.out)
                              clear HO_11
                              clear BK101
                              clear BK115
                              clear HB
                              have HO_11 := n0_
                              have BK101 := n1_
                              have BK115 := n2_
                              have HB := n3_
                              clear n0_ n1_ n2_ n3_
                              refine start_ (n := 6) (S := fun w' => w'.cell? ⟨gb101, 0, none⟩ = some (.int .u64 a2_0) ∧ w'.cell? ⟨gb101, 1, none⟩ = some (.int .u64 a2_1) ∧ w'.cell? ⟨gb115, 0, none⟩ = some (.int .u64 t113) ∧ w'.cell? ⟨gb115, 1, none⟩ = some (.int .u64 t114)) (ds := []) #[false, false, false, false, false, false] (by kernel_rfl) rfl rfl ⟨(zq5 BK101.out 0).trans rfl, (zq5 BK101.out 1).trans rfl, (zq5 BK115.out 0).trans rfl, (zq5 BK115.out 1).trans rfl⟩ (fun hHeld => ?_)
                              generalize w39.drew = w40 at HO_11 BK101 BK115 HB hHeld ⊢
                              refine pure_ (i := 1) (N := some 61) (v := ?_) (a' := ?_) #[false, true, false, false, false, false] rfl rfl (by kernel_rfl) (fun _ _ _ h => h) (Or.inl ⟨by rfl, ?_⟩) ?_ ?_
                              rotate_left
                              · intro w'
                                go_simp
                                with_reducible rfl
                              rotate_left
                              · simp only [Act.put, List.setIfInBounds_toArray, List.set_cons_zero, List.set_cons_succ, i64_w, i32_w]
                                rfl
                              refine take_ (i := 0) (N := some 60) (v := ?_) (a' := ?_) #[true, true, false, false, false, false] rfl rfl (by kernel_rfl) (fun _ _ _ h => h) (Or.inl ⟨by rfl, ?_⟩) hHeld ?_ ?_
                              rotate_left
                              · rintro w' ⟨s0, s1, s2, s3⟩
                                go_simp
                                with_reducible rfl
                              rotate_left
                              · simp only [Act.put, List.setIfInBounds_toArray, List.set_cons_zero, List.set_cons_succ, i64_w, i32_w]
                                rfl
                              refine take_ (i := 3) (N := some 63) (v := ?_) (a' := ?_) #[true, true, false, true, false, false] rfl rfl (by kernel_rfl) (fun _ _ _ h => h) (Or.inl ⟨by rfl, ?_⟩) hHeld ?_ ?_
                              rotate_left
                              · rintro w' ⟨s0, s1, s2, s3⟩
                                go_simp
                                with_reducible rfl
                              rotate_left
                              · simp only [Act.put, List.setIfInBounds_toArray, List.set_cons_zero, List.set_cons_succ, i64_w, i32_w]
                                rfl
                              refine one_ (i := 2) (N := some 62) #[true, true, true, true, false, false] rfl rfl (by kernel_rfl) (by decide) (fun K hK => ?_)
                              refine goes_ Try.func24 (by kernel_rfl) rfl #[.int .u64 (IntKind.u64.wrap (x13_2 + (IntKind.u64.wrap ((rd_T68 l0 x14_2).f1)))), .int .u64 1000000000] (by rfl) rfl rfl (by (try simp only [List.map_toArray, List.map_cons, List.map_nil]); first | done | rfl | (simp only [List.length_drop, List.length_take]; rfl)) ?_
                              with_reducible refine (wide_Mul.calls (IntKind.u64.wrap (x13_2 + (IntKind.u64.wrap ((rd_T68 l0 x14_2).f1)))) 1000000000 t116 t117 _ A28.out).mono ?_
                              rintro e w41 ⟨rfl, hb⟩
                              refine ⟨_, rfl, ?_⟩
                              have n0_ := zq3 (Kd.R_below (by (with_reducible repeat (first | apply Kd.R_alloc | apply Kd.R_drewN | apply Kd.R_drew)); exact HO_11.out) hb)
                              have n1_ := zq3 (zq10 (g := gb101) (o := .cells #[.int .u64 a2_0, .int .u64 a2_1] 42 (0, 0)) (by (with_reducible repeat (first | refine zq0 ?_ _ | refine zq2 ?_ | refine zq1 ?_ _)); exact BK101.out) hb)
                              have n2_ := zq3 (zq10 (g := gb115) (o := .cells #[.int .u64 t113, .int .u64 t114] 42 (0, 0)) (by (with_reducible repeat (first | refine zq0 ?_ _ | refine zq2 ?_ | refine zq1 ?_ _)); exact BK115.out) hb)
                              have n3_ := zq3 (below_step (by repeat (first | (with_reducible first | exact HB.out | apply zq9 | apply zq7 | apply zq8 | refine zq6 ?_ GE101.out | refine zq6 ?_ GE115.out) | exact HB.out)) hb)
                              clear HO_11
                              clear BK101
                              clear BK115
                              clear HB
                              have HO_11 := n0_
                              have BK101 := n1_
                              have BK115 := n2_
                              have HB := n3_
                              clear n0_ n1_ n2_ n3_
                              (try clear hb)
                              (try clear hb2)
                              (try clear hk)
                              (try clear hi)
                              refine hK.out _ _ ⟨(zq5 BK101.out 0).trans rfl, (zq5 BK101.out 1).trans rfl, (zq5 BK115.out 0).trans rfl, (zq5 BK115.out 1).trans rfl⟩ (fun hHeld => ?_)
                              clear hK K
                              refine norm_ (a' := ?_) ?_ ?_
                              rotate_left
                              · show Act.put _ (some 62) _ = _
                                simp only [Act.put, List.setIfInBounds_toArray, List.set_cons_zero, List.set_cons_succ, i64_w, i32_w]
                                rfl
                              refine one_ (i := 4) (N := some 64) #[true, true, true, true, true, false] rfl rfl (by kernel_rfl) (by decide) (fun K hK => ?_)
                              refine goes_ Try.func69 (by kernel_rfl) rfl #[.agg #[.int .u64 t116, .int .u64 t117], .agg #[.int .u64 t113, .int .u64 t114]] (by rfl) rfl rfl (by (try simp only [List.map_toArray, List.map_cons, List.map_nil]); first | done | rfl | (simp only [List.length_drop, List.length_take]; rfl)) ?_
                              with_reducible refine (curve_less.calls t116 t117 t113 t114 t118 t119 _ A29.out).mono ?_
                              rintro e w42 ⟨rfl, hb⟩
                              refine ⟨_, rfl, ?_⟩
                              have n0_ := zq3 (Kd.R_below (by (with_reducible repeat (first | apply Kd.R_alloc | apply Kd.R_drewN | apply Kd.R_drew)); exact HO_11.out) hb)
                              have n1_ := zq3 (zq10 (g := gb101) (o := .cells #[.int .u64 a2_0, .int .u64 a2_1] 42 (0, 0)) (by (with_reducible repeat (first | refine zq0 ?_ _ | refine zq2 ?_ | refine zq1 ?_ _)); exact BK101.out) hb)
                              have n2_ := zq3 (zq10 (g := gb115) (o := .cells #[.int .u64 t113, .int .u64 t114] 42 (0, 0)) (by (with_reducible repeat (first | refine zq0 ?_ _ | refine zq2 ?_ | refine zq1 ?_ _)); exact BK115.out) hb)
                              have n3_ := zq3 (below_step (by repeat (first | (with_reducible first | exact HB.out | apply zq9 | apply zq7 | apply zq8 | refine zq6 ?_ GE101.out | refine zq6 ?_ GE115.out) | exact HB.out)) hb)
                              clear HO_11
                              clear BK101
                              clear BK115
                              clear HB
                              have HO_11 := n0_
                              have BK101 := n1_
                              have BK115 := n2_
                              have HB := n3_
                              clear n0_ n1_ n2_ n3_
                              (try clear hb)
                              (try clear hb2)
                              (try clear hk)
                              (try clear hi)
                              refine hK.out _ _ ⟨(zq5 BK101.out 0).trans rfl, (zq5 BK101.out 1).trans rfl, (zq5 BK115.out 0).trans rfl, (zq5 BK115.out 1).trans rfl⟩ (fun hHeld => ?_)
                              clear hK K
                              refine norm_ (a' := ?_) ?_ ?_
                              rotate_left
                              · show Act.put _ (some 64) _ = _
                                simp only [Act.put, List.setIfInBounds_toArray, List.set_cons_zero, List.set_cons_succ, i64_w, i32_w]
                                rfl
                              refine one_ (i := 5) (N := some 65) #[true, true, true, true, true, true] rfl rfl (by kernel_rfl) (by decide) (fun K hK => ?_)
                              refine goes_ Try.func25 (by kernel_rfl) rfl #[.agg #[.int .u64 a2_0, .int .u64 a2_1], .agg #[.int .u64 t118, .int .u64 t119]] (by rfl) rfl rfl (by (try simp only [List.map_toArray, List.map_cons, List.map_nil]); first | done | rfl | (simp only [List.length_drop, List.length_take]; rfl)) ?_
                              with_reducible refine (wide_Less.calls a2_0 a2_1 t118 t119 true _ A30.out).mono ?_
                              rintro e w43 ⟨rfl, hb⟩
                              refine ⟨_, rfl, ?_⟩
                              have n0_ := zq3 (Kd.R_below (by (with_reducible repeat (first | apply Kd.R_alloc | apply Kd.R_drewN | apply Kd.R_drew)); exact HO_11.out) hb)
                              have n1_ := zq3 (zq10 (g := gb101) (o := .cells #[.int .u64 a2_0, .int .u64 a2_1] 42 (0, 0)) (by (with_reducible repeat (first | refine zq0 ?_ _ | refine zq2 ?_ | refine zq1 ?_ _)); exact BK101.out) hb)
                              have n2_ := zq3 (zq10 (g := gb115) (o := .cells #[.int .u64 t113, .int .u64 t114] 42 (0, 0)) (by (with_reducible repeat (first | refine zq0 ?_ _ | refine zq2 ?_ | refine zq1 ?_ _)); exact BK115.out) hb)
                              have n3_ := zq3 (below_step (by repeat (first | (with_reducible first | exact HB.out | apply zq9 | apply zq7 | apply zq8 | refine zq6 ?_ GE101.out | refine zq6 ?_ GE115.out) | exact HB.out)) hb)
                              clear HO_11
                              clear BK101
                              clear BK115
                              clear HB
                              have HO_11 := n0_
                              have BK101 := n1_
                              have BK115 := n2_
                              have HB := n3_
                              clear n0_ n1_ n2_ n3_
                              (try clear hb)
                              (try clear hb2)
                              (try clear hk)
                              (try clear hi)
                              refine hK.out _ _ ⟨(zq5 BK101.out 0).trans rfl, (zq5 BK101.out 1).trans rfl, (zq5 BK115.out 0).trans rfl, (zq5 BK115.out 1).trans rfl⟩ (fun hHeld => ?_)
                              clear hK K
                              refine norm_ (a' := ?_) ?_ ?_
                              rotate_left
                              · show Act.put _ (some 65) _ = _
                                simp only [Act.put, List.setIfInBounds_toArray, List.set_cons_zero, List.set_cons_succ, i64_w, i32_w]
                                rfl
                              refine done_ (by kernel_rfl) ?_
                              try go_wp2
                              go_roundg k2
                              case measure => have := HK1.out; have := HK2.out; omega
                              case rel => exact ⟨(x14_2), (IntKind.u64.wrap (x13_2 + (IntKind.u64.wrap ((rd_T68 l0 x14_2).f1)))), (wrap64 (x14_2 - 1)), (by first | rfl | (simp; done) | (simp [*]; done)), (by first | rfl | (simp; done) | (simp [*]; done)), (by first | rfl | (simp; done) | (simp [*]; done)), H', ⟨by have := HK1.out; have := HK2.out; omega⟩, ⟨by (try simp only [hl9_1]); (with_reducible repeat (first | apply Kd.R_alloc | apply Kd.R_drewN | apply Kd.R_drew)); exact HO_11.out⟩, ⟨by (try simp only [hl9_1]); (with_reducible repeat (first | refine zq0 ?_ _ | refine zq2 ?_ | refine zq1 ?_ _)); exact BK101.out⟩, ⟨by repeat (first | (with_reducible first | exact HB.out | apply zq9 | apply zq7 | apply zq8 | refine zq6 ?_ GE101.out | refine zq6 ?_ GE115.out) | exact HB.out)⟩⟩
                            · replace c31 := Bool.eq_false_iff.mpr c31
                              subst c31
                              have H1 : (curve_from.l1 k2 l0 a1 a3 t107 x12_2 (IntKind.u64.wrap (x13_2 + (IntKind.u64.wrap ((rd_T68 l0 x14_2).f1)))) (wrap64 (x14_2 - 1)) a2_0 a2_1) = some r := by rw [if_neg (show ¬ (false = true) by decide)] at H; exact H
                              clear H
                              have H := H1
                              clear H1
                              have H' := zq3 H
                              clear H
                              have p110 : 0 ≤ (x14_2 : Int) := of_decide_eq_true (by first | (with_reducible assumption) | assumption)
                              have q110 : x14_2 < (l0.length : Int) := of_decide_eq_true (by first | (with_reducible assumption) | assumption)
                              obtain ⟨ad110, e110, hx110_0, hx110_1⟩ := at_T68 HR0.out x14_2 p110 q110
                              cases e110
                              replace hx110_0 := (HB.out.cell (World.block_lt_of_cell? w _ hx110_0)).trans hx110_0
                              replace hx110_1 := (HB.out.cell (World.block_lt_of_cell? w _ hx110_1)).trans hx110_1
                              replace p110 := eq_true p110
                              replace q110 := eq_true q110
                              try go_wp2
                              have n0_ := zq3 (Kd.R_drew HO_11.out)
                              have n1_ := zq3 (zq2 BK101.out)
                              have n2_ := zq3 (zq8 HB.out)
                              clear HO_11
                              clear BK101
                              clear HB
                              have HO_11 := n0_
                              have BK101 := n1_
                              have HB := n2_
                              clear n0_ n1_ n2_
                              obtain ⟨Ao45, co45, eo45⟩ := Kd.R_slice HO_11.out
                              (first | subst eo45 | (injection eo45 with f1_ f2_ f3_; have f4_ := f1_.symm; have f5_ := f3_.symm; clear f1_ f2_ f3_; subst f4_; subst f5_))
                              have p111 : 0 ≤ (a3 : Int) := of_decide_eq_true (by first | (with_reducible assumption) | assumption)
                              have q111 : a3 < (t107.length : Int) := of_decide_eq_true (by first | (with_reducible assumption) | assumption)
                              obtain ⟨ad111, e111, hx111_0⟩ := Kd.at_int (Kd.R_reads' HO_11.out).2.2 a3 p111 q111
                              cases e111
                              replace p111 := eq_true p111
                              replace q111 := eq_true q111
                              have p112 : 0 ≤ (x14_2 : Int) := of_decide_eq_true (by first | (with_reducible assumption) | assumption)
                              have q112 : x14_2 < (t107.length : Int) := of_decide_eq_true (by first | (with_reducible assumption) | assumption)
                              obtain ⟨ad112, e112, hx112_0⟩ := Kd.at_int (Kd.R_reads' HO_11.out).2.2 x14_2 p112 q112
                              obtain rfl : ad111 = ad112 := (by injection e112)
                              replace p112 := eq_true p112
                              replace q112 := eq_true q112
                              refine start_ (n := 13) (S := fun w' => w'.cell? (ad111.add (a3).toNat) = some (.int .u64 (rd t107 a3)) ∧ w'.cell? (ad111.add (x14_2).toNat) = some (.int .u64 (rd t107 x14_2))) (ds := []) #[false, false, false, false, false, false, false, false, false, false, false, false, false] (by kernel_rfl) rfl rfl ⟨hx111_0, hx112_0⟩ (fun hHeld => ?_); refine with_tabW curve_from.tab14 curve_from.bits14 (fun HT_ HW_ => ?_)
                              generalize wr.drew = w44 at HO_11 BK101 HB hx111_0 hx112_0 hHeld ⊢
                              refine pure_ (i := 0) (N := some 49) (v := ?_) (a' := ?_) #[true, false, false, false, false, false, false, false, false, false, false, false, false] rfl rfl (any_of HT_.out (by kernel_rfl)) (fun _ _ _ h => h) (Or.inl ⟨by rfl, ?_⟩) ?_ ?_
                              rotate_left
                              · intro w'
                                go_simp
                                with_reducible rfl
                              rotate_left
                              · simp only [Act.put, List.setIfInBounds_toArray, List.set_cons_zero, List.set_cons_succ, i64_w, i32_w]
                                rfl
                              refine pure_ (i := 1) (N := some 50) (v := ?_) (a' := ?_) #[true, true, false, false, false, false, false, false, false, false, false, false, false] rfl rfl (any_of HT_.out (by kernel_rfl)) (fun _ _ _ h => h) (Or.inl ⟨by rfl, ?_⟩) ?_ ?_
                              rotate_left
                              · intro w'
                                go_simp
                                with_reducible rfl
                              rotate_left
                              · simp only [Act.put, List.setIfInBounds_toArray, List.set_cons_zero, List.set_cons_succ, i64_w, i32_w]
                                rfl
                              refine pure_ (i := 2) (N := some 51) (v := ?_) (a' := ?_) #[true, true, true, false, false, false, false, false, false, false, false, false, false] rfl rfl (any_of HT_.out (by kernel_rfl)) (fun _ _ _ h => h) (Or.inl ⟨by rfl, ?_⟩) ?_ ?_
                              rotate_left
                              · intro w'
                                go_simp
                                with_reducible rfl
                              rotate_left
                              · simp only [Act.put, List.setIfInBounds_toArray, List.set_cons_zero, List.set_cons_succ, i64_w, i32_w]
                                rfl
                              refine pure_ (i := 3) (N := some 52) (v := ?_) (a' := ?_) #[true, true, true, true, false, false, false, false, false, false, false, false, false] rfl rfl (any_of HT_.out (by kernel_rfl)) (fun _ _ _ h => h) (Or.inl ⟨by rfl, ?_⟩) ?_ ?_
                              rotate_left
                              · intro w'
                                go_simp
                                with_reducible rfl
                              rotate_left
                              · simp only [Act.put, List.setIfInBounds_toArray, List.set_cons_zero, List.set_cons_succ, i64_w, i32_w]
                                rfl
                              refine pure_ (i := 5) (N := some 54) (v := ?_) (a' := ?_) #[true, true, true, true, false, true, false, false, false, false, false, false, false] rfl rfl (any_of HT_.out (by kernel_rfl)) (fun _ _ _ h => h) (Or.inl ⟨by rfl, ?_⟩) ?_ ?_
                              rotate_left
                              · intro w'
                                go_simp
                                with_reducible rfl
                              rotate_left
                              · simp only [Act.put, List.setIfInBounds_toArray, List.set_cons_zero, List.set_cons_succ, i64_w, i32_w]
                                rfl
                              refine pure_ (i := 6) (N := some 55) (v := ?_) (a' := ?_) #[true, true, true, true, false, true, true, false, false, false, false, false, false] rfl rfl (any_of HT_.out (by kernel_rfl)) (fun _ _ _ h => h) (Or.inl ⟨by rfl, ?_⟩) ?_ ?_
                              rotate_left
                              · intro w'
                                go_simp
                                with_reducible rfl
                              rotate_left
                              · simp only [Act.put, List.setIfInBounds_toArray, List.set_cons_zero, List.set_cons_succ, i64_w, i32_w]
                                rfl
                              refine pure_ (i := 7) (N := some 56) (v := ?_) (a' := ?_) #[true, true, true, true, false, true, true, true, false, false, false, false, false] rfl rfl (any_of HT_.out (by kernel_rfl)) (fun _ _ _ h => h) (Or.inl ⟨by rfl, ?_⟩) ?_ ?_
                              rotate_left
                              · intro w'
                                go_simp
                                with_reducible rfl
                              rotate_left
                              · simp only [Act.put, List.setIfInBounds_toArray, List.set_cons_zero, List.set_cons_succ, i64_w, i32_w]
                                rfl
                              refine take_ (i := 4) (N := some 53) (v := ?_) (a' := ?_) #[true, true, true, true, true, true, true, true, false, false, false, false, false] rfl rfl (take_ofW HT_.out HW_.out (by kernel_rfl)) (fun _ _ _ h => h) (Or.inl ⟨by rfl, ?_⟩) hHeld ?_ ?_
                              rotate_left
                              · rintro w' ⟨s0, s1⟩
                                go_simp
                                with_reducible rfl
                              rotate_left
                              · simp only [Act.put, List.setIfInBounds_toArray, List.set_cons_zero, List.set_cons_succ, i64_w, i32_w]
                                rfl
                              refine take_ (i := 8) (N := some 57) (v := ?_) (a' := ?_) #[true, true, true, true, true, true, true, true, true, false, false, false, false] rfl rfl (take_ofW HT_.out HW_.out (by kernel_rfl)) (fun _ _ _ h => h) (Or.inl ⟨by rfl, ?_⟩) hHeld ?_ ?_
                              rotate_left
                              · rintro w' ⟨s0, s1⟩
                                go_simp
                                with_reducible rfl
                              rotate_left
                              · simp only [Act.put, List.setIfInBounds_toArray, List.set_cons_zero, List.set_cons_succ, i64_w, i32_w]
                                rfl
                              refine pure_ (i := 9) (N := some 58) (v := ?_) (a' := ?_) #[true, true, true, true, true, true, true, true, true, true, false, false, false] rfl rfl (any_of HT_.out (by kernel_rfl)) (fun _ _ _ h => h) (Or.inl ⟨by rfl, ?_⟩) ?_ ?_
                              rotate_left
                              · intro w'
                                go_simp
                                with_reducible rfl
                              rotate_left
                              · simp only [Act.put, List.setIfInBounds_toArray, List.set_cons_zero, List.set_cons_succ, i64_w, i32_w]
                                rfl
                              refine join_ (σ := Nat) 1 #[true, true, true, true, true, true, true, true, true, true, true, true, false] (fun s_ => [(59, .agg #[.int .u64 t113, .int .u64 t114]), (15, .pointer (some ⟨s_, 0, none⟩))]) (fun s_ w' => (w'.cell? (ad111.add (a3).toNat) = some (.int .u64 (rd t107 a3)) ∧ w'.cell? (ad111.add (x14_2).toNat) = some (.int .u64 (rd t107 x14_2))) ∧ (Kd.R (Kd.int .u64) 23 w' w.heap.size (fun _ => True) (.slice (some ad111) t107.length co45) t107) ∧ (w'.heap[gb101]? = some (.cells #[.int .u64 a2_0, .int .u64 a2_1] 42 (0, 0))) ∧ (w'.heap[s_]? = some (.cells #[.int .u64 0, .int .u64 0] 42 (0, 0))) ∧ (w.heap.size ≤ s_) ∧ (w.heap.size ≤ s_) ∧ (gb101 ≠ s_) ∧ (s_ ≠ gb101) ∧ (Below w.heap.size w w')) ?_ ?_
                              rotate_left
                              · intro hCont
                                refine two_ (i := 10) (j := 11) (Ni := some 59) (Nj := some 15) #[true, true, true, true, true, true, true, true, true, true, true, false, false] #[true, true, true, true, true, true, true, true, true, true, false, true, false] rfl rfl rfl rfl (two_of HT_.out (by kernel_rfl)) (by decide) (by decide) (fun K hK => ?_) (fun K hK => ?_)
                                · skip
                                  refine goes_ Try.func24 (by kernel_rfl) rfl #[.int .u64 a1, .int .u64 (IntKind.u64.wrap ((rd t107 a3) - (rd t107 x14_2)))] (by rfl) rfl rfl (by (try simp only [List.map_toArray, List.map_cons, List.map_nil]); first | done | rfl | (simp only [List.length_drop, List.length_take]; rfl)) ?_
                                  with_reducible refine (wide_Mul.calls a1 (IntKind.u64.wrap ((rd t107 a3) - (rd t107 x14_2))) t113 t114 _ A27.out).mono ?_
                                  rintro e w46 ⟨rfl, hb⟩
                                  have HS0_ := (hb.cell (World.block_lt_of_cell? _ _ (hHeld.1))).trans (hHeld.1)
                                  have HS1_ := (hb.cell (World.block_lt_of_cell? _ _ (hHeld.2))).trans (hHeld.2)
                                  refine ⟨_, rfl, ?_⟩
                                  have n0_ := zq3 (Kd.R_below (by (with_reducible repeat (first | apply Kd.R_alloc | apply Kd.R_drewN | apply Kd.R_drew)); exact HO_11.out) hb)
                                  have n1_ := zq3 (zq10 (g := gb101) (o := .cells #[.int .u64 a2_0, .int .u64 a2_1] 42 (0, 0)) (by (with_reducible repeat (first | refine zq0 ?_ _ | refine zq2 ?_ | refine zq1 ?_ _)); exact BK101.out) hb)
                                  have n2_ := zq3 (below_step (by repeat (first | (with_reducible first | exact HB.out | apply zq9 | apply zq7 | apply zq8 | refine zq6 ?_ GE101.out) | exact HB.out)) hb)
                                  clear HO_11
                                  clear BK101
                                  clear HB
                                  have HO_11 := n0_
                                  have BK101 := n1_
                                  have HB := n2_
                                  clear n0_ n1_ n2_
                                  (try clear hb)
                                  (try clear hb2)
                                  (try clear hk)
                                  (try clear hi)
                                  refine hK.out _ _ ⟨HS0_, HS1_⟩ (fun hHeld => ?_)
                                  clear hK K
                                  refine norm_ (a' := ?_) ?_ ?_
                                  rotate_left
                                  · show Act.put _ (some 59) _ = _
                                    simp only [Act.put, List.setIfInBounds_toArray, List.set_cons_zero, List.set_cons_succ, i64_w, i32_w]
                                    rfl
                                  refine one_ (i := 11) (N := some 15) #[true, true, true, true, true, true, true, true, true, true, true, true, false] rfl rfl (one_of HT_.out (by kernel_rfl)) (by decide) (fun K hK => ?_)
                                  refine box_step ?hg (N := 15) ?hd (cs := #[.int .u64 0, .int .u64 0]) (t := 42) ?hr ?_; (case hd => rfl); (case hg => rfl); (case hr => first | (go_simp; done) | (go_simp; rfl))
                                  intro gb115 hg w47 hbox hb
                                  have HS0_ := (hb.cell (World.block_lt_of_cell? _ _ (hHeld.1))).trans (hHeld.1)
                                  have HS1_ := (hb.cell (World.block_lt_of_cell? _ _ (hHeld.2))).trans (hHeld.2)
                                  have n0_ := zq3 (Kd.R_below (by (with_reducible repeat (first | apply Kd.R_alloc | apply Kd.R_drewN | apply Kd.R_drew)); exact HO_11.out) hb)
                                  have n1_ := zq3 (zq10 (g := gb101) (o := .cells #[.int .u64 a2_0, .int .u64 a2_1] 42 (0, 0)) (by (with_reducible repeat (first | refine zq0 ?_ _ | refine zq2 ?_ | refine zq1 ?_ _)); exact BK101.out) hb)
                                  have n2_ := zq3 (below_step (by repeat (first | (with_reducible first | exact HB.out | apply zq9 | apply zq7 | apply zq8 | refine zq6 ?_ GE101.out) | exact HB.out)) hb)
                                  have n3_ := zq3 (hbox)
                                  have n4_ := zq3 ((by rw [hg]; exact (below_size (by repeat (first | (with_reducible first | exact HB.out | apply zq9 | apply zq7 | apply zq8 | refine zq6 ?_ GE101.out) | exact HB.out))) : w.heap.size ≤ gb115))
                                  have n5_ := zq3 ((by rw [hg]; exact (below_size (by repeat (first | (with_reducible first | exact HB.out | apply zq9 | apply zq7 | apply zq8 | refine zq6 ?_ GE101.out) | exact HB.out))) : w.heap.size ≤ gb115))
                                  have n6_ := zq3 ((by rw [hg]; exact Nat.ne_of_lt (blk_lt (g := gb101) (o := .cells #[.int .u64 a2_0, .int .u64 a2_1] 42 (0, 0)) (by (with_reducible repeat (first | refine zq0 ?_ _ | refine zq2 ?_ | refine zq1 ?_ _)); exact BK101.out)) : gb101 ≠ gb115))
                                  have n7_ := zq3 ((by rw [hg]; exact Nat.ne_of_gt (blk_lt (g := gb101) (o := .cells #[.int .u64 a2_0, .int .u64 a2_1] 42 (0, 0)) (by (with_reducible repeat (first | refine zq0 ?_ _ | refine zq2 ?_ | refine zq1 ?_ _)); exact BK101.out)) : gb115 ≠ gb101))
                                  clear HO_11
                                  clear BK101
                                  clear HB
                                  have HO_11 := n0_
                                  have BK101 := n1_
                                  have HB := n2_
                                  have BK115 := n3_
                                  have GW115 := n4_
                                  have GE115 := n5_
                                  have NB101_115 := n6_
                                  have NB115_101 := n7_
                                  clear n0_ n1_ n2_ n3_ n4_ n5_ n6_ n7_
                                  clear hb hbox hg
                                  refine hK.out _ _ ⟨HS0_, HS1_⟩ (fun hHeld => ?_)
                                  clear hK K
                                  refine norm_ (a' := ?_) ?_ ?_
                                  rotate_left
                                  · show Act.put _ (some 15) _ = _
                                    simp only [Act.put, List.setIfInBounds_toArray, List.set_cons_zero, List.set_cons_succ, i64_w, i32_w]
                                    rfl
                                  exact norm_ (by simp only [putAll, Act.put, List.setIfInBounds_toArray, List.set_cons_zero, List.set_cons_succ]) (hCont (gb115) _ ⟨hHeld, (by (with_reducible repeat (first | apply Kd.R_alloc | apply Kd.R_drewN | apply Kd.R_drew)); exact HO_11.out), (by (with_reducible repeat (first | refine zq0 ?_ _ | refine zq2 ?_ | refine zq1 ?_ _)); exact BK101.out), (by (with_reducible repeat (first | refine zq0 ?_ _ | refine zq2 ?_ | refine zq1 ?_ _)); exact BK115.out), GW115.out, GE115.out, NB101_115.out, NB115_101.out, (by repeat (first | (with_reducible first | exact HB.out | apply zq9 | apply zq7 | apply zq8 | refine zq6 ?_ GE101.out | refine zq6 ?_ GE115.out) | exact HB.out))⟩)
                                · skip
                                  refine box_step ?hg (N := 15) ?hd (cs := #[.int .u64 0, .int .u64 0]) (t := 42) ?hr ?_; (case hd => rfl); (case hg => rfl); (case hr => first | (go_simp; done) | (go_simp; rfl))
                                  intro gb115 hg w46 hbox hb
                                  have HS0_ := (hb.cell (World.block_lt_of_cell? _ _ (hHeld.1))).trans (hHeld.1)
                                  have HS1_ := (hb.cell (World.block_lt_of_cell? _ _ (hHeld.2))).trans (hHeld.2)
                                  have n0_ := zq3 (Kd.R_below (by (with_reducible repeat (first | apply Kd.R_alloc | apply Kd.R_drewN | apply Kd.R_drew)); exact HO_11.out) hb)
                                  have n1_ := zq3 (zq10 (g := gb101) (o := .cells #[.int .u64 a2_0, .int .u64 a2_1] 42 (0, 0)) (by (with_reducible repeat (first | refine zq0 ?_ _ | refine zq2 ?_ | refine zq1 ?_ _)); exact BK101.out) hb)
                                  have n2_ := zq3 (below_step (by repeat (first | (with_reducible first | exact HB.out | apply zq9 | apply zq7 | apply zq8 | refine zq6 ?_ GE101.out) | exact HB.out)) hb)
                                  have n3_ := zq3 (hbox)
                                  have n4_ := zq3 ((by rw [hg]; exact (below_size (by repeat (first | (with_reducible first | exact HB.out | apply zq9 | apply zq7 | apply zq8 | refine zq6 ?_ GE101.out) | exact HB.out))) : w.heap.size ≤ gb115))
                                  have n5_ := zq3 ((by rw [hg]; exact (below_size (by repeat (first | (with_reducible first | exact HB.out | apply zq9 | apply zq7 | apply zq8 | refine zq6 ?_ GE101.out) | exact HB.out))) : w.heap.size ≤ gb115))
                                  have n6_ := zq3 ((by rw [hg]; exact Nat.ne_of_lt (blk_lt (g := gb101) (o := .cells #[.int .u64 a2_0, .int .u64 a2_1] 42 (0, 0)) (by (with_reducible repeat (first | refine zq0 ?_ _ | refine zq2 ?_ | refine zq1 ?_ _)); exact BK101.out)) : gb101 ≠ gb115))
                                  have n7_ := zq3 ((by rw [hg]; exact Nat.ne_of_gt (blk_lt (g := gb101) (o := .cells #[.int .u64 a2_0, .int .u64 a2_1] 42 (0, 0)) (by (with_reducible repeat (first | refine zq0 ?_ _ | refine zq2 ?_ | refine zq1 ?_ _)); exact BK101.out)) : gb115 ≠ gb101))
                                  clear HO_11
                                  clear BK101
                                  clear HB
                                  have HO_11 := n0_
                                  have BK101 := n1_
                                  have HB := n2_
                                  have BK115 := n3_
                                  have GW115 := n4_
                                  have GE115 := n5_
                                  have NB101_115 := n6_
                                  have NB115_101 := n7_
                                  clear n0_ n1_ n2_ n3_ n4_ n5_ n6_ n7_
                                  clear hb hbox hg
                                  refine hK.out _ _ ⟨HS0_, HS1_⟩ (fun hHeld => ?_)
                                  clear hK K
                                  refine norm_ (a' := ?_) ?_ ?_
                                  rotate_left
                                  · show Act.put _ (some 15) _ = _
                                    simp only [Act.put, List.setIfInBounds_toArray, List.set_cons_zero, List.set_cons_succ, i64_w, i32_w]
                                    rfl
                                  refine one_ (i := 10) (N := some 59) #[true, true, true, true, true, true, true, true, true, true, true, true, false] rfl rfl (one_of HT_.out (by kernel_rfl)) (by decide) (fun K hK => ?_)
                                  refine goes_ Try.func24 (by kernel_rfl) rfl #[.int .u64 a1, .int .u64 (IntKind.u64.wrap ((rd t107 a3) - (rd t107 x14_2)))] (by rfl) rfl rfl (by (try simp only [List.map_toArray, List.map_cons, List.map_nil]); first | done | rfl | (simp only [List.length_drop, List.length_take]; rfl)) ?_
                                  with_reducible refine (wide_Mul.calls a1 (IntKind.u64.wrap ((rd t107 a3) - (rd t107 x14_2))) t113 t114 _ A27.out).mono ?_
                                  rintro e w47 ⟨rfl, hb⟩
                                  have HS0_ := (hb.cell (World.block_lt_of_cell? _ _ (hHeld.1))).trans (hHeld.1)
                                  have HS1_ := (hb.cell (World.block_lt_of_cell? _ _ (hHeld.2))).trans (hHeld.2)
                                  refine ⟨_, rfl, ?_⟩
                                  have n0_ := zq3 (Kd.R_below (by (with_reducible repeat (first | apply Kd.R_alloc | apply Kd.R_drewN | apply Kd.R_drew)); exact HO_11.out) hb)
                                  have n1_ := zq3 (zq10 (g := gb101) (o := .cells #[.int .u64 a2_0, .int .u64 a2_1] 42 (0, 0)) (by (with_reducible repeat (first | refine zq0 ?_ _ | refine zq2 ?_ | refine zq1 ?_ _)); exact BK101.out) hb)
                                  have n2_ := zq3 (zq10 (g := gb115) (o := .cells #[.int .u64 0, .int .u64 0] 42 (0, 0)) (by (with_reducible repeat (first | refine zq0 ?_ _ | refine zq2 ?_ | refine zq1 ?_ _)); exact BK115.out) hb)
                                  have n3_ := zq3 (below_step (by repeat (first | (with_reducible first | exact HB.out | apply zq9 | apply zq7 | apply zq8 | refine zq6 ?_ GE101.out | refine zq6 ?_ GE115.out) | exact HB.out)) hb)
                                  clear HO_11
                                  clear BK101
                                  clear BK115
                                  clear HB
                                  have HO_11 := n0_
                                  have BK101 := n1_
                                  have BK115 := n2_
                                  have HB := n3_
                                  clear n0_ n1_ n2_ n3_
                                  (try clear hb)
                                  (try clear hb2)
                                  (try clear hk)
                                  (try clear hi)
                                  refine hK.out _ _ ⟨HS0_, HS1_⟩ (fun hHeld => ?_)
                                  clear hK K
                                  refine norm_ (a' := ?_) ?_ ?_
                                  rotate_left
                                  · show Act.put _ (some 59) _ = _
                                    simp only [Act.put, List.setIfInBounds_toArray, List.set_cons_zero, List.set_cons_succ, i64_w, i32_w]
                                    rfl
                                  exact norm_ (by simp only [putAll, Act.put, List.setIfInBounds_toArray, List.set_cons_zero, List.set_cons_succ]) (hCont (gb115) _ ⟨hHeld, (by (with_reducible repeat (first | apply Kd.R_alloc | apply Kd.R_drewN | apply Kd.R_drew)); exact HO_11.out), (by (with_reducible repeat (first | refine zq0 ?_ _ | refine zq2 ?_ | refine zq1 ?_ _)); exact BK101.out), (by (with_reducible repeat (first | refine zq0 ?_ _ | refine zq2 ?_ | refine zq1 ?_ _)); exact BK115.out), GW115.out, GE115.out, NB101_115.out, NB115_101.out, (by repeat (first | (with_reducible first | exact HB.out | apply zq9 | apply zq7 | apply zq8 | refine zq6 ?_ GE101.out | refine zq6 ?_ GE115.out) | exact HB.out))⟩)
                              rintro gb115 w48 ⟨hS_, h0_, h1_, h2_, h3_, h4_, h5_, h6_, h7_⟩
                              have n0_ : Aside0 (Kd.R (Kd.int .u64) 23 w48 w.heap.size (fun _ => True) (.slice (some ad111) t107.length co45) t107) := ⟨h0_⟩
                              have n1_ : Aside0 (w48.heap[gb101]? = some (.cells #[.int .u64 a2_0, .int .u64 a2_1] 42 (0, 0))) := ⟨h1_⟩
                              have n2_ : Aside0 (w48.heap[gb115]? = some (.cells #[.int .u64 0, .int .u64 0] 42 (0, 0))) := ⟨h2_⟩
                              have n3_ : Aside0 (w.heap.size ≤ gb115) := ⟨h3_⟩
                              have n4_ : Aside0 (w.heap.size ≤ gb115) := ⟨h4_⟩
                              have n5_ : Aside0 (gb101 ≠ gb115) := ⟨h5_⟩
                              have n6_ : Aside0 (gb115 ≠ gb101) := ⟨h6_⟩
                              have n7_ : Aside0 (Below w.heap.size w w48) := ⟨h7_⟩
                              clear HO_11
                              clear BK101
                              clear HB
                              clear h0_ h1_ h2_ h3_ h4_ h5_ h6_ h7_
                              have HO_11 := n0_
                              have BK101 := n1_
                              have BK115 := n2_
                              have GW115 := n3_
                              have GE115 := n4_
                              have NB101_115 := n5_
                              have NB115_101 := n6_
                              have HB := n7_
                              clear n0_ n1_ n2_ n3_ n4_ n5_ n6_ n7_
                              have hHeld : w48.cell? (ad111.add (a3).toNat) = some (.int .u64 (rd t107 a3)) ∧ w48.cell? (ad111.add (x14_2).toNat) = some (.int .u64 (rd t107 x14_2)) := hS_
                              refine norm_ (a' := ?_) ?_ ?_
                              rotate_left
                              · simp only [putAll, Act.put, List.setIfInBounds_toArray, List.set_cons_zero, List.set_cons_succ]
                                rfl
                              refine one_ (i := 12) (N := none) #[true, true, true, true, true, true, true, true, true, true, true, true, true] rfl rfl (one_of HT_.out (by kernel_rfl)) (by decide) (fun K hK => ?_)
                              have hs49 : w48.cell? ⟨gb115, 0, none⟩ = some (.int .u64 0) := (zq5 BK115.out 0).trans rfl
                              have hfs49 := zq4 BK115.out 0
                              have hns49_0 := NB101_115.out
                              have hms49_0 := NB115_101.out
                              have hs50 : w48.cell? ⟨gb115, 1, none⟩ = some (.int .u64 0) := (zq5 BK115.out 1).trans rfl
                              have hfs50 := zq4 BK115.out 1
                              have hns50_0 := NB101_115.out
                              have hms50_0 := NB115_101.out
                              refine skip_ (w1 := ?_) (by rfl) rfl ?_ ?_
                              rotate_left
                              · go_simp
                                rfl
                              refine hK.out _ _ ⟨((cell_far (p := ⟨gb115, _, none⟩) (by first | exact Kd.own_blk (Kd.R_ne HO_11.out BK115.out (by decide)) | (rw [add_block]; exact Kd.own_blk (Kd.R_ne HO_11.out BK115.out (by decide))) | (show (Addr.add _ _).block ≠ _; rw [add_block]; exact Kd.own_blk (Kd.R_ne HO_11.out BK115.out (by decide))) | (dsimp only; exact Kd.own_blk (Kd.R_ne HO_11.out BK115.out (by decide)))) _).trans (((cell_far (p := ⟨gb115, _, none⟩) (by first | exact Kd.own_blk (Kd.R_ne HO_11.out BK115.out (by decide)) | (rw [add_block]; exact Kd.own_blk (Kd.R_ne HO_11.out BK115.out (by decide))) | (show (Addr.add _ _).block ≠ _; rw [add_block]; exact Kd.own_blk (Kd.R_ne HO_11.out BK115.out (by decide))) | (dsimp only; exact Kd.own_blk (Kd.R_ne HO_11.out BK115.out (by decide)))) _).trans (hHeld.1)))), ((cell_far (p := ⟨gb115, _, none⟩) (by first | exact Kd.own_blk (Kd.R_ne HO_11.out BK115.out (by decide)) | (rw [add_block]; exact Kd.own_blk (Kd.R_ne HO_11.out BK115.out (by decide))) | (show (Addr.add _ _).block ≠ _; rw [add_block]; exact Kd.own_blk (Kd.R_ne HO_11.out BK115.out (by decide))) | (dsimp only; exact Kd.own_blk (Kd.R_ne HO_11.out BK115.out (by decide)))) _).trans (((cell_far (p := ⟨gb115, _, none⟩) (by first | exact Kd.own_blk (Kd.R_ne HO_11.out BK115.out (by decide)) | (rw [add_block]; exact Kd.own_blk (Kd.R_ne HO_11.out BK115.out (by decide))) | (show (Addr.add _ _).block ≠ _; rw [add_block]; exact Kd.own_blk (Kd.R_ne HO_11.out BK115.out (by decide))) | (dsimp only; exact Kd.own_blk (Kd.R_ne HO_11.out BK115.out (by decide)))) _).trans (hHeld.2))))⟩ (fun hHeld => ?_)
                              clear hK K
                              refine done_ (done_of HT_.out (by kernel_rfl)) ?_
                              try go_wp2
                              have n0_ : Aside0 (Kd.R (Kd.int .u64) 23 ((w48.setCell ⟨gb115, 0, none⟩ (.int .u64 t113)).setCell ⟨gb115, 1, none⟩ (.int .u64 t114)) w.heap.size (fun _ => True) (.slice (some ad111) t107.length co45) t107) := ⟨by (with_reducible repeat (first | apply Kd.R_alloc | apply Kd.R_drewN | apply Kd.R_drew)); exact Kd.R_mono (Kd.R_far (p := ⟨gb115, 1, none⟩) (Kd.R_far (p := ⟨gb115, 0, none⟩) (Kd.R_types HO_11.out BK115.out (by decide)) (fun _ hk => hk.2) (.int .u64 t113)) (fun _ hk => hk.2) (.int .u64 t114)) (fun _ hk => trivial)⟩
                              have n1_ : Aside0 (((w48.setCell ⟨gb115, 0, none⟩ (.int .u64 t113)).setCell ⟨gb115, 1, none⟩ (.int .u64 t114)).heap[gb101]? = some (.cells #[.int .u64 a2_0, .int .u64 a2_1] 42 (0, 0))) := ⟨by (with_reducible repeat (first | refine zq0 ?_ _ | refine zq2 ?_ | refine zq1 ?_ _)); refine zq11 ?_ NB101_115.out _; (with_reducible repeat (first | refine zq0 ?_ _ | refine zq2 ?_ | refine zq1 ?_ _)); refine zq11 ?_ NB101_115.out _; (with_reducible repeat (first | refine zq0 ?_ _ | refine zq2 ?_ | refine zq1 ?_ _)); exact BK101.out⟩
                              have n2_ : Aside0 (((w48.setCell ⟨gb115, 0, none⟩ (.int .u64 t113)).setCell ⟨gb115, 1, none⟩ (.int .u64 t114)).heap[gb115]? = some (.cells #[.int .u64 t113, .int .u64 t114] 42 (0, 0))) := ⟨by (with_reducible repeat (first | refine zq0 ?_ _ | refine zq2 ?_ | refine zq1 ?_ _)); refine blk_put (cs := #[.int .u64 t113, .int .u64 0]) ?_ 1 _ rfl; (with_reducible repeat (first | refine zq0 ?_ _ | refine zq2 ?_ | refine zq1 ?_ _)); refine blk_put (cs := #[.int .u64 0, .int .u64 0]) ?_ 0 _ rfl; (with_reducible repeat (first | refine zq0 ?_ _ | refine zq2 ?_ | refine zq1 ?_ _)); exact BK115.out⟩
                              have n3_ : Aside0 (Below w.heap.size w ((w48.setCell ⟨gb115, 0, none⟩ (.int .u64 t113)).setCell ⟨gb115, 1, none⟩ (.int .u64 t114))) := ⟨by repeat (first | (with_reducible first | exact HB.out | apply zq9 | apply zq7 | apply zq8 | refine zq6 ?_ GE101.out | refine zq6 ?_ GE115.out) | exact HB.out)⟩
                              (try clear HO_11)
                              (try clear BK101)
                              (try clear BK115)
                              (try clear HB)
                              generalize ((w48.setCell ⟨gb115, 0, none⟩ (.int .u64 t113)).setCell ⟨gb115, 1, none⟩ (.int .u64 t114)) = w51 at n0_ n1_ n2_ n3_ ⊢
                              have HO_11 := n0_
                              have BK101 := n1_
                              have BK115 := n2_
                              have HB := n3_
                              clear n0_ n1_ n2_ n3_
                              have n0_ := zq3 (Kd.R_drew HO_11.out)
                              have n1_ := zq3 (zq2 BK101.out)
                              have n2_ := zq3 (zq2 BK115.out)
                              have n3_ := zq3 (zq8 HB.out)
                              clear HO_11
                              clear BK101
                              clear BK115
                              clear HB
                              have HO_11 := n0_
                              have BK101 := n1_
                              have BK115 := n2_
                              have HB := n3_
                              clear n0_ n1_ n2_ n3_
                              refine start_ (n := 6) (S := fun w' => w'.cell? ⟨gb101, 0, none⟩ = some (.int .u64 a2_0) ∧ w'.cell? ⟨gb101, 1, none⟩ = some (.int .u64 a2_1) ∧ w'.cell? ⟨gb115, 0, none⟩ = some (.int .u64 t113) ∧ w'.cell? ⟨gb115, 1, none⟩ = some (.int .u64 t114)) (ds := []) #[false, false, false, false, false, false] (by kernel_rfl) rfl rfl ⟨(zq5 BK101.out 0).trans rfl, (zq5 BK101.out 1).trans rfl, (zq5 BK115.out 0).trans rfl, (zq5 BK115.out 1).trans rfl⟩ (fun hHeld => ?_)
                              generalize w51.drew = w52 at HO_11 BK101 BK115 HB hHeld ⊢
                              refine pure_ (i := 1) (N := some 61) (v := ?_) (a' := ?_) #[false, true, false, false, false, false] rfl rfl (by kernel_rfl) (fun _ _ _ h => h) (Or.inl ⟨by rfl, ?_⟩) ?_ ?_
                              rotate_left
                              · intro w'
                                go_simp
                                with_reducible rfl
                              rotate_left
                              · simp only [Act.put, List.setIfInBounds_toArray, List.set_cons_zero, List.set_cons_succ, i64_w, i32_w]
                                rfl
                              refine take_ (i := 0) (N := some 60) (v := ?_) (a' := ?_) #[true, true, false, false, false, false] rfl rfl (by kernel_rfl) (fun _ _ _ h => h) (Or.inl ⟨by rfl, ?_⟩) hHeld ?_ ?_
                              rotate_left
                              · rintro w' ⟨s0, s1, s2, s3⟩
                                go_simp
                                with_reducible rfl
                              rotate_left
                              · simp only [Act.put, List.setIfInBounds_toArray, List.set_cons_zero, List.set_cons_succ, i64_w, i32_w]
                                rfl
                              refine take_ (i := 3) (N := some 63) (v := ?_) (a' := ?_) #[true, true, false, true, false, false] rfl rfl (by kernel_rfl) (fun _ _ _ h => h) (Or.inl ⟨by rfl, ?_⟩) hHeld ?_ ?_
                              rotate_left
                              · rintro w' ⟨s0, s1, s2, s3⟩
                                go_simp
                                with_reducible rfl
                              rotate_left
                              · simp only [Act.put, List.setIfInBounds_toArray, List.set_cons_zero, List.set_cons_succ, i64_w, i32_w]
                                rfl
                              refine one_ (i := 2) (N := some 62) #[true, true, true, true, false, false] rfl rfl (by kernel_rfl) (by decide) (fun K hK => ?_)
                              refine goes_ Try.func24 (by kernel_rfl) rfl #[.int .u64 (IntKind.u64.wrap (x13_2 + (IntKind.u64.wrap ((rd_T68 l0 x14_2).f1)))), .int .u64 1000000000] (by rfl) rfl rfl (by (try simp only [List.map_toArray, List.map_cons, List.map_nil]); first | done | rfl | (simp only [List.length_drop, List.length_take]; rfl)) ?_
                              with_reducible refine (wide_Mul.calls (IntKind.u64.wrap (x13_2 + (IntKind.u64.wrap ((rd_T68 l0 x14_2).f1)))) 1000000000 t116 t117 _ A28.out).mono ?_
                              rintro e w53 ⟨rfl, hb⟩
                              refine ⟨_, rfl, ?_⟩
                              have n0_ := zq3 (Kd.R_below (by (with_reducible repeat (first | apply Kd.R_alloc | apply Kd.R_drewN | apply Kd.R_drew)); exact HO_11.out) hb)
                              have n1_ := zq3 (zq10 (g := gb101) (o := .cells #[.int .u64 a2_0, .int .u64 a2_1] 42 (0, 0)) (by (with_reducible repeat (first | refine zq0 ?_ _ | refine zq2 ?_ | refine zq1 ?_ _)); exact BK101.out) hb)
                              have n2_ := zq3 (zq10 (g := gb115) (o := .cells #[.int .u64 t113, .int .u64 t114] 42 (0, 0)) (by (with_reducible repeat (first | refine zq0 ?_ _ | refine zq2 ?_ | refine zq1 ?_ _)); exact BK115.out) hb)
                              have n3_ := zq3 (below_step (by repeat (first | (with_reducible first | exact HB.out | apply zq9 | apply zq7 | apply zq8 | refine zq6 ?_ GE101.out | refine zq6 ?_ GE115.out) | exact HB.out)) hb)
                              clear HO_11
                              clear BK101
                              clear BK115
                              clear HB
                              have HO_11 := n0_
                              have BK101 := n1_
                              have BK115 := n2_
                              have HB := n3_
                              clear n0_ n1_ n2_ n3_
                              (try clear hb)
                              (try clear hb2)
                              (try clear hk)
                              (try clear hi)
                              refine hK.out _ _ ⟨(zq5 BK101.out 0).trans rfl, (zq5 BK101.out 1).trans rfl, (zq5 BK115.out 0).trans rfl, (zq5 BK115.out 1).trans rfl⟩ (fun hHeld => ?_)
                              clear hK K
                              refine norm_ (a' := ?_) ?_ ?_
                              rotate_left
                              · show Act.put _ (some 62) _ = _
                                simp only [Act.put, List.setIfInBounds_toArray, List.set_cons_zero, List.set_cons_succ, i64_w, i32_w]
                                rfl
                              refine one_ (i := 4) (N := some 64) #[true, true, true, true, true, false] rfl rfl (by kernel_rfl) (by decide) (fun K hK => ?_)
                              refine goes_ Try.func69 (by kernel_rfl) rfl #[.agg #[.int .u64 t116, .int .u64 t117], .agg #[.int .u64 t113, .int .u64 t114]] (by rfl) rfl rfl (by (try simp only [List.map_toArray, List.map_cons, List.map_nil]); first | done | rfl | (simp only [List.length_drop, List.length_take]; rfl)) ?_
                              with_reducible refine (curve_less.calls t116 t117 t113 t114 t118 t119 _ A29.out).mono ?_
                              rintro e w54 ⟨rfl, hb⟩
                              refine ⟨_, rfl, ?_⟩
                              have n0_ := zq3 (Kd.R_below (by (with_reducible repeat (first | apply Kd.R_alloc | apply Kd.R_drewN | apply Kd.R_drew)); exact HO_11.out) hb)
                              have n1_ := zq3 (zq10 (g := gb101) (o := .cells #[.int .u64 a2_0, .int .u64 a2_1] 42 (0, 0)) (by (with_reducible repeat (first | refine zq0 ?_ _ | refine zq2 ?_ | refine zq1 ?_ _)); exact BK101.out) hb)
                              have n2_ := zq3 (zq10 (g := gb115) (o := .cells #[.int .u64 t113, .int .u64 t114] 42 (0, 0)) (by (with_reducible repeat (first | refine zq0 ?_ _ | refine zq2 ?_ | refine zq1 ?_ _)); exact BK115.out) hb)
                              have n3_ := zq3 (below_step (by repeat (first | (with_reducible first | exact HB.out | apply zq9 | apply zq7 | apply zq8 | refine zq6 ?_ GE101.out | refine zq6 ?_ GE115.out) | exact HB.out)) hb)
                              clear HO_11
                              clear BK101
                              clear BK115
                              clear HB
                              have HO_11 := n0_
                              have BK101 := n1_
                              have BK115 := n2_
                              have HB := n3_
                              clear n0_ n1_ n2_ n3_
                              (try clear hb)
                              (try clear hb2)
                              (try clear hk)
                              (try clear hi)
                              refine hK.out _ _ ⟨(zq5 BK101.out 0).trans rfl, (zq5 BK101.out 1).trans rfl, (zq5 BK115.out 0).trans rfl, (zq5 BK115.out 1).trans rfl⟩ (fun hHeld => ?_)
                              clear hK K
                              refine norm_ (a' := ?_) ?_ ?_
                              rotate_left
                              · show Act.put _ (some 64) _ = _
                                simp only [Act.put, List.setIfInBounds_toArray, List.set_cons_zero, List.set_cons_succ, i64_w, i32_w]
                                rfl
                              refine one_ (i := 5) (N := some 65) #[true, true, true, true, true, true] rfl rfl (by kernel_rfl) (by decide) (fun K hK => ?_)
                              refine goes_ Try.func25 (by kernel_rfl) rfl #[.agg #[.int .u64 a2_0, .int .u64 a2_1], .agg #[.int .u64 t118, .int .u64 t119]] (by rfl) rfl rfl (by (try simp only [List.map_toArray, List.map_cons, List.map_nil]); first | done | rfl | (simp only [List.length_drop, List.length_take]; rfl)) ?_
                              with_reducible refine (wide_Less.calls a2_0 a2_1 t118 t119 false _ A30.out).mono ?_
                              rintro e w55 ⟨rfl, hb⟩
                              refine ⟨_, rfl, ?_⟩
                              have n0_ := zq3 (Kd.R_below (by (with_reducible repeat (first | apply Kd.R_alloc | apply Kd.R_drewN | apply Kd.R_drew)); exact HO_11.out) hb)
                              have n1_ := zq3 (zq10 (g := gb101) (o := .cells #[.int .u64 a2_0, .int .u64 a2_1] 42 (0, 0)) (by (with_reducible repeat (first | refine zq0 ?_ _ | refine zq2 ?_ | refine zq1 ?_ _)); exact BK101.out) hb)
                              have n2_ := zq3 (zq10 (g := gb115) (o := .cells #[.int .u64 t113, .int .u64 t114] 42 (0, 0)) (by (with_reducible repeat (first | refine zq0 ?_ _ | refine zq2 ?_ | refine zq1 ?_ _)); exact BK115.out) hb)
                              have n3_ := zq3 (below_step (by repeat (first | (with_reducible first | exact HB.out | apply zq9 | apply zq7 | apply zq8 | refine zq6 ?_ GE101.out | refine zq6 ?_ GE115.out) | exact HB.out)) hb)
                              clear HO_11
                              clear BK101
                              clear BK115
                              clear HB
                              have HO_11 := n0_
                              have BK101 := n1_
                              have BK115 := n2_
                              have HB := n3_
                              clear n0_ n1_ n2_ n3_
                              (try clear hb)
                              (try clear hb2)
                              (try clear hk)
                              (try clear hi)
                              refine hK.out _ _ ⟨(zq5 BK101.out 0).trans rfl, (zq5 BK101.out 1).trans rfl, (zq5 BK115.out 0).trans rfl, (zq5 BK115.out 1).trans rfl⟩ (fun hHeld => ?_)
                              clear hK K
                              refine norm_ (a' := ?_) ?_ ?_
                              rotate_left
                              · show Act.put _ (some 65) _ = _
                                simp only [Act.put, List.setIfInBounds_toArray, List.set_cons_zero, List.set_cons_succ, i64_w, i32_w]
                                rfl
                              refine done_ (by kernel_rfl) ?_
                              try go_wp2
                              go_roundg k2
                              case measure => have := HK1.out; have := HK2.out; omega
                              case rel => exact ⟨(x12_2), (IntKind.u64.wrap (x13_2 + (IntKind.u64.wrap ((rd_T68 l0 x14_2).f1)))), (wrap64 (x14_2 - 1)), (by first | rfl | (simp; done) | (simp [*]; done)), (by first | rfl | (simp; done) | (simp [*]; done)), (by first | rfl | (simp; done) | (simp [*]; done)), H', ⟨by have := HK1.out; have := HK2.out; omega⟩, ⟨by (try simp only [hl9_1]); (with_reducible repeat (first | apply Kd.R_alloc | apply Kd.R_drewN | apply Kd.R_drew)); exact HO_11.out⟩, ⟨by (try simp only [hl9_1]); (with_reducible repeat (first | refine zq0 ?_ _ | refine zq2 ?_ | refine zq1 ?_ _)); exact BK101.out⟩, ⟨by repeat (first | (with_reducible first | exact HB.out | apply zq9 | apply zq7 | apply zq8 | refine zq6 ?_ GE101.out | refine zq6 ?_ GE115.out) | exact HB.out)⟩⟩
                          · rw [if_neg c26] at H
                            exact absurd H (by simp)
                        · rw [if_neg c25] at H
                          exact absurd H (by simp)
                      · rw [if_neg c24] at H
                        exact absurd H (by simp)
                    · rw [if_neg c23] at H
                      exact absurd H (by simp)
                  · rw [if_neg c22] at H
                    exact absurd H (by simp)
                · rw [if_neg c21] at H
                  have c21b0 : decide (0 ≤ x14_2) = false := decide_eq_false c21
                  clear c21
                  obtain rfl := Option.some.inj H
                  go_wp2
                  go_ret
                  exact ⟨by first | rfl | (simp [errW_none, errW_some] <;> rfl) | (simp only [← hji5]; first | rfl | (simp [errW_none, errW_some] <;> rfl)) | (simp [*, errW_none, errW_some] <;> rfl), by repeat (first | (with_reducible first | exact HB.out | apply zq9 | apply zq7 | apply zq8 | refine zq6 ?_ GE101.out) | exact HB.out)⟩
    · rw [if_neg c7] at H
      exact absurd H (by simp)
  · rw [if_neg c6] at H
    exact absurd H (by simp)

end Go.Proofs.Ytiaoaoebghnpkaa.P
