/- Part of the proof. -/
import Derived.Test.YtiaoaoebghnpkaaKA18
import Derived.Test.YtiaoaoebghnpkaaKA25
import Derived.Test.YtiaoaoebghnpkaaKA27
import Derived.Test.YtiaoaoebghnpkaaKA24
namespace Go.Proofs.Ytiaoaoebghnpkaa.P
open Go.RowKit Go.Proofs.YtiaoaoebghnpkaaW.PrintWords Go.Proofs.YtiaoaoebghnpkaaW.PrintLast Go.Proofs.YtiaoaoebghnpkaaW.PrintMore
attribute [local go_sem] max2_int min2_int max_two min_two max_three min_three max_four min_four   -- for this text's walks alone
set_option linter.unusedVariables false
set_option linter.unusedSimpArgs false

/-! ### curve_Peak: function 21 -/
mutual
def curve_Peak.l0 : Nat → List (S68) → Int → List Int → List (S68) → Int → Int → Option (Int × Int × Int)
 | 0, _, _, _, _, _, _ => none
 | k + 1, x0, x1, x7, x25, x26, x27 => if x27 < x26 then (if 0 ≤ x27 then (if x27 < (x25.length : Int) then (if x27 < (x7.length : Int) then (curve_Peak.l0 k x0 x1 (x7.set (x27 : Int).toNat ((rd_T68 x25 x27).f0)) x25 x26 (wrap64 (x27 + 1))) else (none)) else (none)) else (none)) else ((ratchet_Run.f x7).bind fun t111 => (curve_Peak.l1 k x0 x1 t111 0 0 0 x0 (x0.length : Int) 0))
def curve_Peak.l1 : Nat → List (S68) → Int → List Int → Int → Int → Int → List (S68) → Int → Int → Option (Int × Int × Int)
 | 0, _, _, _, _, _, _, _, _, _ => none
 | k + 1, x0, x1, x10, x11, x12, x13, x40, x41, x42 => if x42 < x41 then (if 0 ≤ x42 then (if x42 < (x40.length : Int) then (curve_Peak.l2 k x0 x1 x10 x11 (wrap64 (x12 + ((rd_T68 x40 x42).f1))) x13 x42 x40 x41 x42) else (none)) else (none)) else (some (x11, 0, 0))
def curve_Peak.l2 : Nat → List (S68) → Int → List Int → Int → Int → Int → Int → List (S68) → Int → Int → Option (Int × Int × Int)
 | 0, _, _, _, _, _, _, _, _, _, _ => none
 | k + 1, x0, x1, x10, x11, x12, x13, x14, x40, x41, x42 => if 0 ≤ x14 then (if x14 < (x10.length : Int) then (if 0 ≤ x13 then (if x13 < (x10.length : Int) then (if (IntKind.u64.wrap ((rd x10 x14) - (rd x10 x13))) > x1 then (if x13 < (x0.length : Int) then (curve_Peak.l2 k x0 x1 x10 x11 (wrap64 (x12 - ((rd_T68 x0 x13).f1))) (wrap64 (x13 + 1)) x14 x40 x41 x42) else (none)) else (curve_Peak.l1 k x0 x1 x10 (mx x11 x12) x12 x13 x40 x41 (wrap64 (x42 + 1)))) else (none)) else (none)) else (none)) else (none)
end
def curve_Peak.f (k : Nat) (l0 : List (S68)) (a1 : Int) : Option (Int × Int × Int) := (curve_check.f k l0).bind fun bt102 => (if bt102.1 = 0 then (if 0 ≤ (l0.length : Int) then (if ((l0.length : Int) : Int).toNat ≤ 35184372088832 then (curve_Peak.l0 k l0 a1 (List.replicate ((l0.length : Int) : Int).toNat 0) l0 (l0.length : Int) 0) else (none)) else (none)) else (some (0, bt102.1, bt102.2)))
def curve_Peak.T16 : Bool × List (List Nat × List Nat) := (true, [([], []), ([], []), ([0, 1], [0, 1]), ([2], [2]), ([], []), ([], []), ([4, 5], [4, 5]), ([6], [6]), ([3, 7], [3, 7]), ([], []), ([8, 9], [8, 9])])
def curve_Peak.B16 : List Nat := [0, 0, 3, 7, 0, 0, 48, 112, 255, 0, 1023]
theorem curve_Peak.tab16 : rtab .any (opsOf Try.f21 16) = curve_Peak.T16 := by kernel_rfl
theorem curve_Peak.bits16 : waitsOk curve_Peak.T16.2 curve_Peak.B16 = true := by kernel_rfl
set_option maxHeartbeats 8000000 in
set_option maxRecDepth 100000 in
theorem curve_Peak.calls (k : Nat) (A0 : Option Addr) (c0 : Nat) (l0 : List (S68)) (a1 : Int) (r1 : Int) (r2 : Int) (r3 : Int) (w : World) (hr0 : Kd.C k68 w A0 l0.length l0) (hc0 : l0.length ≤ c0) (h : curve_Peak.f k l0 a1 = some (r1, r2, r3)) :
  Calls Try.prog 21 #[.slice A0 l0.length c0, .int .u64 a1] w fun e w' => e = .returned (.tuple #[.int .i64 r1, .agg #[.int .i64 r2, .int .i64 r3]]) ∧ Below w.heap.size w w' := by
 have hu26 := Try.underlying26
 have hu68 := Try.underlying68
 have HR0 := zq3 hr0
 have HC0 := zq3 hc0
 clear hr0 hc0
 have HB := zq3 (Below.refl w.heap.size w)
 have H : ((curve_check.f k l0).bind fun bt102 => (if bt102.1 = 0 then (if 0 ≤ (l0.length : Int) then (if ((l0.length : Int) : Int).toNat ≤ 35184372088832 then (curve_Peak.l0 k l0 a1 (List.replicate ((l0.length : Int) : Int).toNat 0) l0 (l0.length : Int) 0) else (none)) else (none)) else (some (0, bt102.1, bt102.2)))) = some (r1, r2, r3) := h
 clear h
 replace H := Option.bind_eq_some_iff.mp H
 obtain ⟨⟨t102, t103⟩, A30, H⟩ := H
 replace H : (if t102 = 0 then (if 0 ≤ (l0.length : Int) then (if ((l0.length : Int) : Int).toNat ≤ 35184372088832 then (curve_Peak.l0 k l0 a1 (List.replicate ((l0.length : Int) : Int).toNat 0) l0 (l0.length : Int) 0) else (none)) else (none)) else (some (0, t102, t103))) = some (r1, r2, r3) := H
 have A3 := zq3 A30
 clear A30
 by_cases c4 : t102 = 0
 ·
  rw [if_pos c4] at H
  have c4b0 : (t102 == 0) = true := beq_iff_eq.mpr c4
  have c4b1 : (t102 != 0) = false := bne_eq_false_iff_eq.mpr c4
  clear c4
  by_cases c5 : 0 ≤ (l0.length : Int)
  ·
   rw [if_pos c5] at H
   have c5b0 := eq_true c5
   have c5b1 : decide (0 ≤ (l0.length : Int)) = true := decide_eq_true c5
   clear c5
   by_cases c6 : ((l0.length : Int) : Int).toNat ≤ 35184372088832
   ·
    rw [if_pos c6] at H
    have c6b0 := eq_true c6
    have c6b1 : decide (((l0.length : Int) : Int).toNat ≤ 35184372088832) = true := decide_eq_true c6
    clear c6
    obtain ⟨y105, hy105⟩ : ∃ y_ : List Int, y_ = (List.replicate ((l0.length : Int) : Int).toNat 0) := ⟨_, rfl⟩
    replace H : (curve_Peak.l0 k l0 a1 y105 l0 (l0.length : Int) 0) = some (r1, r2, r3) := by first | (rw [hy105]; with_reducible exact H) | (have H2_ := (Option.bind_some _ _).symm.trans H; rw [hy105]; with_reducible exact H2_) | (have H2_ := (Option.bind_some _ _).symm.trans H; with_reducible exact H2_) | with_reducible exact H | (rw [hy105]; exact H) | exact H
    have Ny105 := zq3 hy105
    clear hy105
    have H' := zq3 H
    clear H
    go_enter Try.func21, Try.ntmps21
    go_wp2_with (first | ((with_reducible refine zd 5 rfl ?_); refine zb 5 #[.int .i64 0, .int .i64 0] 26 ?_; intro gb101 hg w7 hbox hb; have BK101 := zq3 (hbox); have GW101 := ze hg HB; have GE101 := GW101; replace HB := zt HB hb; clear hb hbox hg) | ((with_reducible refine gate_callee (f := 37) rfl ?_); refine zgo (some 17) Try.func37 #[.slice A0 l0.length c0] ?_; (with_reducible refine (curve_check.calls k _ _ l0 t102 t103 _ ?side1 ?side2 A3.out).mono ?_); (case side1 => repeat (first | exact (Kd.C_below HR0.out HB.out) | (with_reducible refine Kd.C_alloc ?_ _) | (with_reducible refine Kd.C_drewN ?_ _) | (with_reducible refine Kd.C_drew ?_))); (case side2 => exact HC0.out); rintro e w8 ⟨rfl, hb⟩; refine ⟨_, rfl, ?_⟩; replace BK101 := zs BK101 hb; replace HB := zt HB hb; (try clear hb)) | ((with_reducible refine zd 6 rfl ?_); refine zb 6 #[.int .i64 0, .int .i64 0] 26 ?_; intro gb104 hg w9 hbox hb; have BK104 := zq3 (hbox); have GW104 := ze hg HB; have GE104 := GW104; have NB101_104 := zl hg BK101; have NB104_101 := zg hg BK101; replace BK101 := zs BK101 hb; replace HB := zt HB hb; clear hb hbox hg; have hnb10 := NB104_101.out; have hnc10 := NB101_104.out; obtain ⟨hc11_0, hc11_1⟩ := zc2 BK104; obtain ⟨hf11_0, hf11_1⟩ := zf2 BK104) | ((with_reducible refine gate_dst (N := 24) rfl ?_); refine Kd.R_make (Kd.int .u64) _ 23 rfl (N := 24) rfl 57 _ _ rfl (l0.length : Int) rfl rfl Try.underlying57 (.int .u64 0) 8 info23 rfl (by decide) (by omega) 0 (ok := fun _ => True) (okp := fun _ => True) rfl (fun _ hk => hk) trivial (of_decide_eq_true (by first | (with_reducible assumption) | assumption)) (Nat.le_trans (Nat.mul_le_mul_right _ (of_decide_eq_true (by first | (with_reducible assumption) | assumption) : (l0.length : Int).toNat ≤ 35184372088832)) (by omega)) (Below.refl _ _) (Nat.le_refl _) ?_; intro v106 w12 ho13 hb hg_ hnew_; clear hg_ hnew_; (first | rw [← Ny105.out] at ho13 | (simp only [Int.reduceToNat] at ho13; rw [← Ny105.out] at ho13)); have HO107 := zq3 (Kd.R_lower ho13 (below_size (zh HB))); replace BK101 := zsf BK101 hb; replace BK104 := zq3 (zq10 (o := .cells #[.int .i64 t102, .int .i64 t103] 26 (0, 0)) (zw2 BK104) hb); replace HB := zt HB hb; clear hb ho13))
    go_loopg [27] k (fun kq v27 w' => ∃ (x7_1 : List Int) (x27_1 : Int), v27 = .int .i64 x27_1 ∧ Aside0 (curve_Peak.l0 kq l0 a1 x7_1 l0 (l0.length : Int) x27_1 = some (r1, r2, r3)) ∧ Aside0 (kq ≤ k) ∧ Aside0 (Kd.R (Kd.int .u64) 23 w' w.heap.size (fun _ => True) v106 x7_1) ∧ Aside0 (w'.heap[gb101]? = some (.cells #[.int .i64 0, .int .i64 0] 26 (0, 0))) ∧ Aside0 (w'.heap[gb104]? = some (.cells #[.int .i64 t102, .int .i64 t103] 26 (0, 0))) ∧ Aside0 (Below w.heap.size w w'))
    case atStart => exact ⟨(y105), (0), (by first | rfl | (simp; done) | (simp [*]; done)), H', ⟨Nat.le_refl _⟩, ⟨by (with_reducible repeat (first | apply Kd.R_alloc | apply Kd.R_drewN | apply Kd.R_drew)); exact HO107.out⟩, ⟨zw BK101⟩, ⟨zw BK104⟩, ⟨zh HB⟩⟩
    case round =>
     clear H'
     (try clear c1); (try clear c2); (try clear p2); (try clear c3); (try clear c4); (try clear c4b0); (try clear c4b1); (try clear c5); (try clear c5b0); (try clear c5b1); (try clear c6); (try clear c6b0); (try clear c6b1); (try clear c10)
     try clear hc11_0 hc11_1 hf11_0 hf11_1
     obtain ⟨x7_1, x27_1, rfl, HA, HK1, HO_7, BK101, BK104, HB⟩ := hrel
     cases gk with
     | zero => exact absurd HA.out (by simp [curve_Peak.l0])
     | succ k1 =>
      have H := HA.out
      clear HA
      simp only [curve_Peak.l0] at H
      by_cases c14 : x27_1 < (l0.length : Int)
      ·
       rw [if_pos c14] at H
       have c14b0 : decide (x27_1 < (l0.length : Int)) = true := decide_eq_true c14
       clear c14
       by_cases c15 : 0 ≤ x27_1
       ·
        rw [if_pos c15] at H
        have c15b0 : decide (0 ≤ x27_1) = true := decide_eq_true c15
        clear c15
        by_cases c16 : x27_1 < (l0.length : Int)
        ·
         rw [if_pos c16] at H
         have c16b0 : decide (x27_1 < (l0.length : Int)) = true := decide_eq_true c16
         clear c16
         by_cases c17 : x27_1 < (x7_1.length : Int)
         ·
          rw [if_pos c17] at H
          have c17b0 : decide (x27_1 < (x7_1.length : Int)) = true := decide_eq_true c17
          clear c17
          obtain ⟨y110, hy110⟩ : ∃ y_ : List Int, y_ = (x7_1.set (x27_1 : Int).toNat ((rd_T68 l0 x27_1).f0)) := ⟨_, rfl⟩
          replace H : (curve_Peak.l0 k1 l0 a1 y110 l0 (l0.length : Int) (wrap64 (x27_1 + 1))) = some (r1, r2, r3) := by first | (rw [hy110]; with_reducible exact H) | (have H2_ := (Option.bind_some _ _).symm.trans H; rw [hy110]; with_reducible exact H2_) | (have H2_ := (Option.bind_some _ _).symm.trans H; with_reducible exact H2_) | with_reducible exact H | (rw [hy110]; exact H) | exact H
          have Ny110 := zq3 hy110
          clear hy110
          have H' := zq3 H
          clear H
          have p108 : 0 ≤ (x27_1 : Int) := of_decide_eq_true (by first | (with_reducible assumption) | assumption)
          have q108 : x27_1 < (l0.length : Int) := of_decide_eq_true (by first | (with_reducible assumption) | assumption)
          obtain ⟨ad108, e108, hx108_0, hx108_1⟩ := at_T68 HR0.out x27_1 p108 q108
          cases e108
          replace hx108_0 := (HB.out.cell (World.block_lt_of_cell? w _ hx108_0)).trans hx108_0
          replace hx108_1 := (HB.out.cell (World.block_lt_of_cell? w _ hx108_1)).trans hx108_1
          replace p108 := eq_true p108
          replace q108 := eq_true q108
          go_wp2_with (first | ((with_reducible refine zd 9 rfl ?_); refine zb 9 #[.int .u64 0, .int .i64 0] 68 ?_; intro gb109 hg w19 hbox hb; have BK109 := zq3 (hbox); have GW109 := ze hg HB; have GE109 := GW109; have NB101_109 := zl hg BK101; have NB109_101 := zg hg BK101; have NB104_109 := zl hg BK104; have NB109_104 := zg hg BK104; replace HO_7 := zr HO_7 hb; replace BK101 := zs BK101 hb; replace BK104 := zs BK104 hb; replace HB := zt HB hb; clear hb hbox hg; have hnb20 := NB109_101.out; have hnc20 := NB101_109.out; have hnb21 := NB109_104.out; have hnc21 := NB104_109.out; obtain ⟨hc22_0, hc22_1⟩ := zc2 BK109; obtain ⟨hf22_0, hf22_1⟩ := zf2 BK109) | ((with_reducible refine gate_store (t := 68) (p := 9) rfl ?_); refine store_event (t := 68) (p := 9) (v := ?vo_w23) (w1 := ((w19.setCell ⟨gb109, 0, none⟩ (.int .u64 ((rd_T68 l0 x27_1).f0))).setCell ⟨gb109, 1, none⟩ (.int .i64 ((rd_T68 l0 x27_1).f1)))) ?hg ?ho ?hn ?hr ?_; (case ho => rfl); (case hg => rfl); (case hn => rfl); (case hr => first | (go_simp; done) | (go_simp; rfl)); intro w23 hw; have n0_ : Aside0 (Kd.R (Kd.int .u64) 23 w23 w.heap.size (fun _ => True) v106 x7_1) := ⟨(by rw [hw]; exact (by (with_reducible repeat (first | apply Kd.R_alloc | apply Kd.R_drewN | apply Kd.R_drew)); exact Kd.R_mono (Kd.R_far (p := ⟨gb109, 1, none⟩) (Kd.R_far (p := ⟨gb109, 0, none⟩) (Kd.R_types HO_7.out BK109.out (by decide)) (fun _ hk => hk.2) (.int .u64 ((rd_T68 l0 x27_1).f0))) (fun _ hk => hk.2) (.int .i64 ((rd_T68 l0 x27_1).f1))) (fun _ hk => trivial)))⟩; have n1_ : Aside0 (w23.heap[gb101]? = some (.cells #[.int .i64 0, .int .i64 0] 26 (0, 0))) := ⟨(by rw [hw]; exact (zw BK101))⟩; have n2_ : Aside0 (w23.heap[gb104]? = some (.cells #[.int .i64 t102, .int .i64 t103] 26 (0, 0))) := ⟨(by rw [hw]; exact (zw BK104))⟩; have n3_ : Aside0 (w23.heap[gb109]? = some (.cells #[.int .u64 ((rd_T68 l0 x27_1).f0), .int .i64 ((rd_T68 l0 x27_1).f1)] 68 (0, 0))) := ⟨(by rw [hw]; exact (zw2 BK109))⟩; have n4_ : Aside0 (Below w.heap.size w w23) := ⟨(by rw [hw]; exact (zh HB))⟩; clear hw; clear HO_7; clear BK101; clear BK104; clear BK109; clear HB; have HO_7 := n0_; have BK101 := n1_; have BK104 := n2_; have BK109 := n3_; have HB := n4_; clear n0_ n1_ n2_ n3_ n4_; obtain ⟨hc24_0, hc24_1⟩ := zc2 BK109; obtain ⟨hf24_0, hf24_1⟩ := zf2 BK109; have p18 : 0 ≤ (x27_1 : Int) := of_decide_eq_true (by first | (with_reducible assumption) | assumption); have q18 : (x27_1 : Int) < ((x7_1.length : Int) : Int) := of_decide_eq_true (by first | (with_reducible assumption) | assumption); obtain ⟨go18, co18, eo18, gb18, gl18, cl18, HG18⟩ := Kd.R_form HO_7.out (by omega); (first | cases eo18 | (injection eo18 with ea_ en_ ec_; (first | subst ea_ | (injection ea_ with ea_; subst ea_)); subst ec_; clear en_)); have GB18 := zq3 gb18; have GG18 := zq3 HG18; clear gb18 gl18 HG18; obtain ⟨hx18_0, hf18_0⟩ := Kd.R_celln 0 HO_7.out (x27_1 : Int) p18 q18; replace p18 := eq_true p18; replace q18 := eq_true q18; obtain ⟨hy25_, hz25_⟩ := Kd.R_celln 0 HO_7.out (x27_1 : Int) (of_decide_eq_true (by first | (with_reducible assumption) | assumption)) (of_decide_eq_true (by first | (with_reducible assumption) | assumption)); have HP25 := Kd.R_putg HO_7.out (x27_1 : Int) ((rd_T68 l0 x27_1).f0)) | ((with_reducible refine gate_store (t := 23) (p := 36) rfl ?_); refine store_event (t := 23) (p := 36) (v := ?vo_w26) (w1 := (w23.setCell ⟨go18, (x27_1 : Int).toNat, none⟩ (.int .u64 ((rd_T68 l0 x27_1).f0)))) ?hg ?ho ?hn ?hr ?_; (case ho => rfl); (case hg => rfl); (case hn => rfl); (case hr => first | (go_simp; done) | (go_simp; rfl)); intro w26 hw; have hg : w23.grownBy w26 (some go18) := (by rw [hw]; exact HP25.2); have hp_ : Kd.R (Kd.int .u64) 23 w26 w.heap.size (fun _ => True) (.slice (some ⟨go18, 0, none⟩) x7_1.length co18) y110 := (by rw [hw, Ny110.out]; exact HP25.1); clear HP25; replace BK101 := zq3 (blk_grown (g := gb101) (o := .cells #[.int .i64 0, .int .i64 0] 26 (0, 0)) (zw BK101) hg (Kd.R_ne HO_7.out BK101.out (by decide))); replace BK104 := zq3 (blk_grown (g := gb104) (o := .cells #[.int .i64 t102, .int .i64 t103] 26 (0, 0)) (zw BK104) hg (Kd.R_ne HO_7.out BK104.out (by decide))); replace BK109 := zq3 (blk_grown (g := gb109) (o := .cells #[.int .u64 ((rd_T68 l0 x27_1).f0), .int .i64 ((rd_T68 l0 x27_1).f1)] 68 (0, 0)) (zw BK109) hg (Kd.R_ne HO_7.out BK109.out (by decide))); replace HO_7 := zq3 (hp_); replace HB := zq3 ((by rw [hw]; exact zq6 (HB.out) GB18.out : Below w.heap.size w w26)); clear hg hw hp_))
          go_roundg k1
          case measure => have := HK1.out; omega
          case rel => exact ⟨(y110), (wrap64 (x27_1 + 1)), (by first | rfl | (simp; done) | (simp [*]; done)), H', ⟨by have := HK1.out; omega⟩, ⟨zo HO_7⟩, ⟨zw BK101⟩, ⟨zw BK104⟩, ⟨zh HB⟩⟩
         ·
          rw [if_neg c17] at H
          exact absurd H (by simp)
        ·
         rw [if_neg c16] at H
         exact absurd H (by simp)
       ·
        rw [if_neg c15] at H
        exact absurd H (by simp)
      ·
       rw [if_neg c14] at H
       have c14b0 : decide (x27_1 < (l0.length : Int)) = false := decide_eq_false c14
       clear c14
       replace H := Option.bind_eq_some_iff.mp H
       obtain ⟨t111, A270, H⟩ := H
       replace H : (curve_Peak.l1 k1 l0 a1 t111 0 0 0 l0 (l0.length : Int) 0) = some (r1, r2, r3) := H
       have A27 := zq3 A270
       clear A270
       have H' := zq3 H
       clear H
       obtain ⟨Ao28, co28, eo28⟩ := Kd.R_slice HO_7.out
       subst eo28
       go_wp2_with (first | ((with_reducible refine gate_callee (f := 50) rfl ?_); refine zgo (some 39) Try.func50 #[.slice Ao28 x7_1.length co28] ?_; (with_reducible refine (ratchet_Run.calls _ _ x7_1 t111 _ ?side1 ?side2 A27.out).mono ?_); (case side1 => repeat (first | exact (Kd.R_reads' HO_7.out).2.2 | (with_reducible refine Kd.C_alloc ?_ _) | (with_reducible refine Kd.C_drewN ?_ _) | (with_reducible refine Kd.C_drew ?_))); (case side2 => exact (Kd.R_reads' HO_7.out).2.1); rintro e w29 ⟨v112, rfl, ho0, hb⟩; refine ⟨_, rfl, ?_⟩; have HO113 := zq3 (Kd.R_lower (Kd.R_new' ho0 (Kd.R_lt (zo HO_7))) (below_size (zh HB))); replace HO_7 := zq3 (Kd.R_elder' (zo HO_7) (Kd.R_base ho0) hb); replace BK101 := zs BK101 hb; replace BK104 := zs BK104 hb; replace HB := zt HB hb; (try clear hb); (try clear ho0)))
       go_loopg [11, 12, 13, 42] k1 (fun kq v11 v12 v13 v42 w' => ∃ (x11_2 : Int) (x12_2 : Int) (x13_2 : Int) (x42_2 : Int), v11 = .int .i64 x11_2 ∧ v12 = .int .i64 x12_2 ∧ v13 = .int .i64 x13_2 ∧ v42 = .int .i64 x42_2 ∧ Aside0 (curve_Peak.l1 kq l0 a1 t111 x11_2 x12_2 x13_2 l0 (l0.length : Int) x42_2 = some (r1, r2, r3)) ∧ Aside0 (kq ≤ k1) ∧ Aside0 (Kd.R (Kd.int .u64) 23 w' w.heap.size (fun _ => True) v112 t111) ∧ Aside0 (w'.heap[gb101]? = some (.cells #[.int .i64 0, .int .i64 0] 26 (0, 0))) ∧ Aside0 (w'.heap[gb104]? = some (.cells #[.int .i64 t102, .int .i64 t103] 26 (0, 0))) ∧ Aside0 (Below w.heap.size w w'))
       case atStart => exact ⟨(0), (0), (0), (0), (by first | rfl | (simp; done) | (simp [*]; done)), (by first | rfl | (simp; done) | (simp [*]; done)), (by first | rfl | (simp; done) | (simp [*]; done)), (by first | rfl | (simp; done) | (simp [*]; done)), H', ⟨Nat.le_refl _⟩, ⟨by (with_reducible repeat (first | apply Kd.R_alloc | apply Kd.R_drewN | apply Kd.R_drew)); exact Kd.R_mono HO113.out (fun _ hk => trivial)⟩, ⟨zw BK101⟩, ⟨zw BK104⟩, ⟨zh HB⟩⟩
       case round =>
        clear H'
        (try clear c1); (try clear p1); (try clear q1); (try clear hx1); (try clear c2); (try clear p2); (try clear c3); (try clear c4); (try clear c4b0); (try clear c4b1); (try clear c5); (try clear c5b0); (try clear c5b1); (try clear c6); (try clear c6b0); (try clear c6b1); (try clear p6); (try clear c10); (try clear p10); (try clear q10); (try clear hx10); (try clear c14); (try clear c14b0); (try clear c15); (try clear c15b0); (try clear c16); (try clear c16b0); (try clear c17); (try clear c17b0); (try clear p18); (try clear q18); (try clear hx18); (try clear hf18); (try clear c20); (try clear c21)
        try clear hc11_0 hc11_1 hc22_0 hc22_1 hc24_0 hc24_1 hf11_0 hf11_1 hf22_0 hf22_1 hf24_0 hf24_1
        (try clear hx108_0); (try clear hx108_1); (try clear hx18_0); (try clear p108); (try clear p18); (try clear p2); (try clear q108); (try clear q18)
        obtain ⟨x11_2, x12_2, x13_2, x42_2, rfl, rfl, rfl, rfl, HA, HK2, HO_10, BK101, BK104, HB⟩ := hrel
        cases gk with
        | zero => exact absurd HA.out (by simp [curve_Peak.l1])
        | succ k2 =>
         have H := HA.out
         clear HA
         simp only [curve_Peak.l1] at H
         by_cases c30 : x42_2 < (l0.length : Int)
         ·
          rw [if_pos c30] at H
          have c30b0 : decide (x42_2 < (l0.length : Int)) = true := decide_eq_true c30
          clear c30
          by_cases c31 : 0 ≤ x42_2
          ·
           rw [if_pos c31] at H
           have c31b0 : decide (0 ≤ x42_2) = true := decide_eq_true c31
           clear c31
           by_cases c32 : x42_2 < (l0.length : Int)
           ·
            rw [if_pos c32] at H
            have c32b0 : decide (x42_2 < (l0.length : Int)) = true := decide_eq_true c32
            clear c32
            have H' := zq3 H
            clear H
            have p114 : 0 ≤ (x42_2 : Int) := of_decide_eq_true (by first | (with_reducible assumption) | assumption)
            have q114 : x42_2 < (l0.length : Int) := of_decide_eq_true (by first | (with_reducible assumption) | assumption)
            obtain ⟨ad114, e114, hx114_0, hx114_1⟩ := at_T68 HR0.out x42_2 p114 q114
            cases e114
            replace hx114_0 := (HB.out.cell (World.block_lt_of_cell? w _ hx114_0)).trans hx114_0
            replace hx114_1 := (HB.out.cell (World.block_lt_of_cell? w _ hx114_1)).trans hx114_1
            replace p114 := eq_true p114
            replace q114 := eq_true q114
            go_wp2_with (first | ((with_reducible refine zd 15 rfl ?_); refine zb 15 #[.int .u64 0, .int .i64 0] 68 ?_; intro gb115 hg w33 hbox hb; have BK115 := zq3 (hbox); have GW115 := ze hg HB; have GE115 := GW115; have NB101_115 := zl hg BK101; have NB115_101 := zg hg BK101; have NB104_115 := zl hg BK104; have NB115_104 := zg hg BK104; replace HO_10 := zr HO_10 hb; replace BK101 := zs BK101 hb; replace BK104 := zs BK104 hb; replace HB := zt HB hb; clear hb hbox hg; have hnb34 := NB115_101.out; have hnc34 := NB101_115.out; have hnb35 := NB115_104.out; have hnc35 := NB104_115.out; obtain ⟨hc36_0, hc36_1⟩ := zc2 BK115; obtain ⟨hf36_0, hf36_1⟩ := zf2 BK115))
            go_loopg [12, 13] k2 (fun kq v12 v13 w' => ∃ (x12_3 : Int) (x13_3 : Int), v12 = .int .i64 x12_3 ∧ v13 = .int .i64 x13_3 ∧ Aside0 (curve_Peak.l2 kq l0 a1 t111 x11_2 x12_3 x13_3 x42_2 l0 (l0.length : Int) x42_2 = some (r1, r2, r3)) ∧ Aside0 (kq ≤ k2) ∧ Aside0 (Kd.R (Kd.int .u64) 23 w' w.heap.size (fun _ => True) v112 t111) ∧ Aside0 (w'.heap[gb101]? = some (.cells #[.int .i64 0, .int .i64 0] 26 (0, 0))) ∧ Aside0 (w'.heap[gb104]? = some (.cells #[.int .i64 t102, .int .i64 t103] 26 (0, 0))) ∧ Aside0 (w'.heap[gb115]? = some (.cells #[.int .u64 ((rd_T68 l0 x42_2).f0), .int .i64 ((rd_T68 l0 x42_2).f1)] 68 (0, 0))) ∧ Aside0 (Below w.heap.size w w'))
            case atStart => exact ⟨(wrap64 (x12_2 + ((rd_T68 l0 x42_2).f1))), (x13_2), (by first | rfl | (simp; done) | (simp [*]; done)), (by first | rfl | (simp; done) | (simp [*]; done)), H', ⟨Nat.le_refl _⟩, ⟨by (with_reducible repeat (first | apply Kd.R_alloc | apply Kd.R_drewN | apply Kd.R_drew)); exact Kd.R_mono (Kd.R_far (p := ⟨gb115, 1, none⟩) (Kd.R_far (p := ⟨gb115, 0, none⟩) (Kd.R_types HO_10.out BK115.out (by decide)) (fun _ hk => hk.2) (.int .u64 ((rd_T68 l0 x42_2).f0))) (fun _ hk => hk.2) (.int .i64 ((rd_T68 l0 x42_2).f1))) (fun _ hk => trivial)⟩, ⟨zw BK101⟩, ⟨zw BK104⟩, ⟨zw2 BK115⟩, ⟨zh HB⟩⟩
            case round =>
             clear H'
             (try clear c1); (try clear p1); (try clear q1); (try clear hx1); (try clear c2); (try clear p2); (try clear c3); (try clear c4); (try clear c4b0); (try clear c4b1); (try clear c5); (try clear c5b0); (try clear c5b1); (try clear c6); (try clear c6b0); (try clear c6b1); (try clear p6); (try clear c10); (try clear p10); (try clear q10); (try clear hx10); (try clear p11); (try clear q11); (try clear hx11); (try clear c14); (try clear c14b0); (try clear c15); (try clear c15b0); (try clear c16); (try clear c16b0); (try clear c17); (try clear c17b0); (try clear p18); (try clear q18); (try clear hx18); (try clear hf18); (try clear c20); (try clear c21); (try clear c30); (try clear c30b0); (try clear c31); (try clear c31b0); (try clear c32); (try clear c32b0); (try clear c34); (try clear c35)
             try clear hc11_0 hc11_1 hc22_0 hc22_1 hc24_0 hc24_1 hc36_0 hc36_1 hf11_0 hf11_1 hf22_0 hf22_1 hf24_0 hf24_1 hf36_0 hf36_1
             (try clear hx108_0); (try clear hx108_1); (try clear hx114_0); (try clear hx114_1); (try clear hx18_0); (try clear p1); (try clear p10); (try clear p108); (try clear p114); (try clear p18); (try clear p2); (try clear p6); (try clear q1); (try clear q10); (try clear q108); (try clear q114); (try clear q18)
             obtain ⟨x12_3, x13_3, rfl, rfl, HA, HK3, HO_10, BK101, BK104, BK115, HB⟩ := hrel
             cases gk with
             | zero => exact absurd HA.out (by simp [curve_Peak.l2])
             | succ k3 =>
              have H := HA.out
              clear HA
              simp only [curve_Peak.l2] at H
              by_cases c37 : 0 ≤ x42_2
              ·
               rw [if_pos c37] at H
               have c37b0 : decide (0 ≤ x42_2) = true := decide_eq_true c37
               clear c37
               by_cases c38 : x42_2 < (t111.length : Int)
               ·
                rw [if_pos c38] at H
                have c38b0 : decide (x42_2 < (t111.length : Int)) = true := decide_eq_true c38
                clear c38
                by_cases c39 : 0 ≤ x13_3
                ·
                 rw [if_pos c39] at H
                 have c39b0 : decide (0 ≤ x13_3) = true := decide_eq_true c39
                 clear c39
                 by_cases c40 : x13_3 < (t111.length : Int)
                 ·
                  rw [if_pos c40] at H
                  have c40b0 : decide (x13_3 < (t111.length : Int)) = true := decide_eq_true c40
                  clear c40
                  by_cases c41 : (IntKind.u64.wrap ((rd t111 x42_2) - (rd t111 x13_3))) > a1
                  ·
                   rw [if_pos c41] at H
                   have c41b0 : decide (a1 < (IntKind.u64.wrap ((rd t111 x42_2) - (rd t111 x13_3)))) = true := decide_eq_true c41
                   clear c41
                   by_cases c42 : x13_3 < (l0.length : Int)
                   ·
                    rw [if_pos c42] at H
                    have c42b0 : decide (x13_3 < (l0.length : Int)) = true := decide_eq_true c42
                    clear c42
                    have H' := zq3 H
                    clear H
                    try go_wp2
                    replace HO_10 := zq3 (Kd.R_drew HO_10.out); replace BK101 := zq3 (zq2 BK101.out); replace BK104 := zq3 (zq2 BK104.out); replace BK115 := zq3 (zq2 BK115.out); replace HB := zq3 (zq8 HB.out)
                    obtain ⟨Ao44, co44, eo44⟩ := Kd.R_slice HO_10.out
                    (first | subst eo44 | (injection eo44 with f1_ f2_ f3_; have f4_ := f1_.symm; have f5_ := f3_.symm; clear f1_ f2_ f3_; subst f4_; subst f5_))
                    have p116 : 0 ≤ (x42_2 : Int) := of_decide_eq_true (by first | (with_reducible assumption) | assumption)
                    have q116 : x42_2 < (t111.length : Int) := of_decide_eq_true (by first | (with_reducible assumption) | assumption)
                    obtain ⟨ad116, e116, hx116_0⟩ := Kd.at_int (Kd.R_reads' HO_10.out).2.2 x42_2 p116 q116
                    cases e116
                    replace p116 := eq_true p116
                    replace q116 := eq_true q116
                    have p117 : 0 ≤ (x13_3 : Int) := of_decide_eq_true (by first | (with_reducible assumption) | assumption)
                    have q117 : x13_3 < (t111.length : Int) := of_decide_eq_true (by first | (with_reducible assumption) | assumption)
                    obtain ⟨ad117, e117, hx117_0⟩ := Kd.at_int (Kd.R_reads' HO_10.out).2.2 x13_3 p117 q117
                    obtain rfl : ad116 = ad117 := (by injection e117)
                    replace p117 := eq_true p117
                    replace q117 := eq_true q117
                    refine start_ (n := 11) (S := fun w' => w'.cell? (ad116.add (x42_2).toNat) = some (.int .u64 (rd t111 x42_2)) ∧ w'.cell? (ad116.add (x13_3).toNat) = some (.int .u64 (rd t111 x13_3))) (ds := []) #[false, false, false, false, false, false, false, false, false, false, false] (by kernel_rfl) rfl rfl ⟨hx116_0, hx117_0⟩ (fun hHeld => ?_); refine with_tabW curve_Peak.tab16 curve_Peak.bits16 (fun HT_ HW_ => ?_)
                    generalize wr.drew = w43 at HO_10 BK101 BK104 BK115 HB hx116_0 hx117_0 hHeld ⊢
                    refine pure_ (i := 0) (N := some 51) (v := ?_) (a' := ?_) #[true, false, false, false, false, false, false, false, false, false, false] rfl rfl (any_of HT_.out (by kernel_rfl)) (fun _ _ _ h => h) (Or.inl ⟨by rfl, ?_⟩) ?_ ?_
                    rotate_left
                    ·
                     intro w'
                     go_simp
                     with_reducible rfl
                    rotate_left
                    ·
                     simp only [Act.put, List.setIfInBounds_toArray, List.set_cons_zero, List.set_cons_succ, i64_w, i32_w]
                     rfl
                    refine pure_ (i := 1) (N := some 52) (v := ?_) (a' := ?_) #[true, true, false, false, false, false, false, false, false, false, false] rfl rfl (any_of HT_.out (by kernel_rfl)) (fun _ _ _ h => h) (Or.inl ⟨by rfl, ?_⟩) ?_ ?_
                    rotate_left
                    ·
                     intro w'
                     go_simp
                     with_reducible rfl
                    rotate_left
                    ·
                     simp only [Act.put, List.setIfInBounds_toArray, List.set_cons_zero, List.set_cons_succ, i64_w, i32_w]
                     rfl
                    refine pure_ (i := 2) (N := some 53) (v := ?_) (a' := ?_) #[true, true, true, false, false, false, false, false, false, false, false] rfl rfl (any_of HT_.out (by kernel_rfl)) (fun _ _ _ h => h) (Or.inl ⟨by rfl, ?_⟩) ?_ ?_
                    rotate_left
                    ·
                     intro w'
                     go_simp
                     with_reducible rfl
                    rotate_left
                    ·
                     simp only [Act.put, List.setIfInBounds_toArray, List.set_cons_zero, List.set_cons_succ, i64_w, i32_w]
                     rfl
                    refine pure_ (i := 4) (N := some 55) (v := ?_) (a' := ?_) #[true, true, true, false, true, false, false, false, false, false, false] rfl rfl (any_of HT_.out (by kernel_rfl)) (fun _ _ _ h => h) (Or.inl ⟨by rfl, ?_⟩) ?_ ?_
                    rotate_left
                    ·
                     intro w'
                     go_simp
                     with_reducible rfl
                    rotate_left
                    ·
                     simp only [Act.put, List.setIfInBounds_toArray, List.set_cons_zero, List.set_cons_succ, i64_w, i32_w]
                     rfl
                    refine pure_ (i := 5) (N := some 56) (v := ?_) (a' := ?_) #[true, true, true, false, true, true, false, false, false, false, false] rfl rfl (any_of HT_.out (by kernel_rfl)) (fun _ _ _ h => h) (Or.inl ⟨by rfl, ?_⟩) ?_ ?_
                    rotate_left
                    ·
                     intro w'
                     go_simp
                     with_reducible rfl
                    rotate_left
                    ·
                     simp only [Act.put, List.setIfInBounds_toArray, List.set_cons_zero, List.set_cons_succ, i64_w, i32_w]
                     rfl
                    refine pure_ (i := 6) (N := some 57) (v := ?_) (a' := ?_) #[true, true, true, false, true, true, true, false, false, false, false] rfl rfl (any_of HT_.out (by kernel_rfl)) (fun _ _ _ h => h) (Or.inl ⟨by rfl, ?_⟩) ?_ ?_
                    rotate_left
                    ·
                     intro w'
                     go_simp
                     with_reducible rfl
                    rotate_left
                    ·
                     simp only [Act.put, List.setIfInBounds_toArray, List.set_cons_zero, List.set_cons_succ, i64_w, i32_w]
                     rfl
                    refine pure_ (i := 9) (N := some 60) (v := ?_) (a' := ?_) #[true, true, true, false, true, true, true, false, false, true, false] rfl rfl (any_of HT_.out (by kernel_rfl)) (fun _ _ _ h => h) (Or.inl ⟨by rfl, ?_⟩) ?_ ?_
                    rotate_left
                    ·
                     intro w'
                     go_simp
                     with_reducible rfl
                    rotate_left
                    ·
                     simp only [Act.put, List.setIfInBounds_toArray, List.set_cons_zero, List.set_cons_succ, i64_w, i32_w]
                     rfl
                    refine take_ (i := 3) (N := some 54) (v := ?_) (a' := ?_) #[true, true, true, true, true, true, true, false, false, true, false] rfl rfl (take_ofW HT_.out HW_.out (by kernel_rfl)) (fun _ _ _ h => h) (Or.inl ⟨by rfl, ?_⟩) hHeld ?_ ?_
                    rotate_left
                    ·
                     rintro w' ⟨s0, s1⟩
                     go_simp
                     with_reducible rfl
                    rotate_left
                    ·
                     simp only [Act.put, List.setIfInBounds_toArray, List.set_cons_zero, List.set_cons_succ, i64_w, i32_w]
                     rfl
                    refine take_ (i := 7) (N := some 58) (v := ?_) (a' := ?_) #[true, true, true, true, true, true, true, true, false, true, false] rfl rfl (take_ofW HT_.out HW_.out (by kernel_rfl)) (fun _ _ _ h => h) (Or.inl ⟨by rfl, ?_⟩) hHeld ?_ ?_
                    rotate_left
                    ·
                     rintro w' ⟨s0, s1⟩
                     go_simp
                     with_reducible rfl
                    rotate_left
                    ·
                     simp only [Act.put, List.setIfInBounds_toArray, List.set_cons_zero, List.set_cons_succ, i64_w, i32_w]
                     rfl
                    refine pure_ (i := 8) (N := some 59) (v := ?_) (a' := ?_) #[true, true, true, true, true, true, true, true, true, true, false] rfl rfl (any_of HT_.out (by kernel_rfl)) (fun _ _ _ h => h) (Or.inl ⟨by rfl, ?_⟩) ?_ ?_
                    rotate_left
                    ·
                     intro w'
                     go_simp
                     with_reducible rfl
                    rotate_left
                    ·
                     simp only [Act.put, List.setIfInBounds_toArray, List.set_cons_zero, List.set_cons_succ, i64_w, i32_w]
                     rfl
                    refine pure_ (i := 10) (N := some 61) (v := ?_) (a' := ?_) #[true, true, true, true, true, true, true, true, true, true, true] rfl rfl (any_of HT_.out (by kernel_rfl)) (fun _ _ _ h => h) (Or.inl ⟨by rfl, ?_⟩) ?_ ?_
                    rotate_left
                    ·
                     intro w'
                     go_simp
                     with_reducible rfl
                    rotate_left
                    ·
                     simp only [Act.put, List.setIfInBounds_toArray, List.set_cons_zero, List.set_cons_succ, i64_w, i32_w]
                     rfl
                    refine done_ (done_of HT_.out (by kernel_rfl)) ?_
                    have p118 : 0 ≤ (x13_3 : Int) := of_decide_eq_true (by first | (with_reducible assumption) | assumption)
                    have q118 : x13_3 < (l0.length : Int) := of_decide_eq_true (by first | (with_reducible assumption) | assumption)
                    obtain ⟨ad118, e118, hx118_0, hx118_1⟩ := at_T68 HR0.out x13_3 p118 q118
                    obtain rfl : ad114 = ad118 := (by injection e118)
                    replace hx118_0 := (HB.out.cell (World.block_lt_of_cell? w _ hx118_0)).trans hx118_0
                    replace hx118_1 := (HB.out.cell (World.block_lt_of_cell? w _ hx118_1)).trans hx118_1
                    replace p118 := eq_true p118
                    replace q118 := eq_true q118
                    try go_wp2
                    go_roundg k3
                    case measure => have := HK1.out; have := HK2.out; have := HK3.out; omega
                    case rel => exact ⟨(wrap64 (x12_3 - ((rd_T68 l0 x13_3).f1))), (wrap64 (x13_3 + 1)), (by first | rfl | (simp; done) | (simp [*]; done)), (by first | rfl | (simp; done) | (simp [*]; done)), H', ⟨by have := HK1.out; have := HK2.out; have := HK3.out; omega⟩, ⟨zo HO_10⟩, ⟨zw BK101⟩, ⟨zw BK104⟩, ⟨zw BK115⟩, ⟨zh HB⟩⟩
                   ·
                    rw [if_neg c42] at H
                    exact absurd H (by simp)
                  ·
                   rw [if_neg c41] at H
                   have c41b0 : decide (a1 < (IntKind.u64.wrap ((rd t111 x42_2) - (rd t111 x13_3)))) = false := decide_eq_false c41
                   clear c41
                   obtain ⟨ji45, hji45⟩ : ∃ j_ : Int, (mx x11_2 x12_3) = j_ := ⟨_, rfl⟩
                   replace H : (curve_Peak.l1 k3 l0 a1 t111 ji45 x12_3 x13_3 l0 (l0.length : Int) (wrap64 (x42_2 + 1))) = some (r1, r2, r3) := by first | (rw [hji45] at H; exact H) | (simp only [hji45] at H ⊢; exact H)
                   have hji45_ : (if x11_2 < x12_3 then x12_3 else x11_2) = ji45 := hji45
                   have H' := zq3 H
                   clear H
                   try go_wp2
                   replace HO_10 := zq3 (Kd.R_drew HO_10.out); replace BK101 := zq3 (zq2 BK101.out); replace BK104 := zq3 (zq2 BK104.out); replace BK115 := zq3 (zq2 BK115.out); replace HB := zq3 (zq8 HB.out)
                   obtain ⟨Ao47, co47, eo47⟩ := Kd.R_slice HO_10.out
                   (first | subst eo47 | (injection eo47 with f1_ f2_ f3_; have f4_ := f1_.symm; have f5_ := f3_.symm; clear f1_ f2_ f3_; subst f4_; subst f5_))
                   have p116 : 0 ≤ (x42_2 : Int) := of_decide_eq_true (by first | (with_reducible assumption) | assumption)
                   have q116 : x42_2 < (t111.length : Int) := of_decide_eq_true (by first | (with_reducible assumption) | assumption)
                   obtain ⟨ad116, e116, hx116_0⟩ := Kd.at_int (Kd.R_reads' HO_10.out).2.2 x42_2 p116 q116
                   cases e116
                   replace p116 := eq_true p116
                   replace q116 := eq_true q116
                   have p117 : 0 ≤ (x13_3 : Int) := of_decide_eq_true (by first | (with_reducible assumption) | assumption)
                   have q117 : x13_3 < (t111.length : Int) := of_decide_eq_true (by first | (with_reducible assumption) | assumption)
                   obtain ⟨ad117, e117, hx117_0⟩ := Kd.at_int (Kd.R_reads' HO_10.out).2.2 x13_3 p117 q117
                   obtain rfl : ad116 = ad117 := (by injection e117)
                   replace p117 := eq_true p117
                   replace q117 := eq_true q117
                   refine start_ (n := 11) (S := fun w' => w'.cell? (ad116.add (x42_2).toNat) = some (.int .u64 (rd t111 x42_2)) ∧ w'.cell? (ad116.add (x13_3).toNat) = some (.int .u64 (rd t111 x13_3))) (ds := []) #[false, false, false, false, false, false, false, false, false, false, false] (by kernel_rfl) rfl rfl ⟨hx116_0, hx117_0⟩ (fun hHeld => ?_); refine with_tabW curve_Peak.tab16 curve_Peak.bits16 (fun HT_ HW_ => ?_)
                   generalize wr.drew = w46 at HO_10 BK101 BK104 BK115 HB hx116_0 hx117_0 hHeld ⊢
                   refine pure_ (i := 0) (N := some 51) (v := ?_) (a' := ?_) #[true, false, false, false, false, false, false, false, false, false, false] rfl rfl (any_of HT_.out (by kernel_rfl)) (fun _ _ _ h => h) (Or.inl ⟨by rfl, ?_⟩) ?_ ?_
                   rotate_left
                   ·
                    intro w'
                    go_simp
                    with_reducible rfl
                   rotate_left
                   ·
                    simp only [Act.put, List.setIfInBounds_toArray, List.set_cons_zero, List.set_cons_succ, i64_w, i32_w]
                    rfl
                   refine pure_ (i := 1) (N := some 52) (v := ?_) (a' := ?_) #[true, true, false, false, false, false, false, false, false, false, false] rfl rfl (any_of HT_.out (by kernel_rfl)) (fun _ _ _ h => h) (Or.inl ⟨by rfl, ?_⟩) ?_ ?_
                   rotate_left
                   ·
                    intro w'
                    go_simp
                    with_reducible rfl
                   rotate_left
                   ·
                    simp only [Act.put, List.setIfInBounds_toArray, List.set_cons_zero, List.set_cons_succ, i64_w, i32_w]
                    rfl
                   refine pure_ (i := 2) (N := some 53) (v := ?_) (a' := ?_) #[true, true, true, false, false, false, false, false, false, false, false] rfl rfl (any_of HT_.out (by kernel_rfl)) (fun _ _ _ h => h) (Or.inl ⟨by rfl, ?_⟩) ?_ ?_
                   rotate_left
                   ·
                    intro w'
                    go_simp
                    with_reducible rfl
                   rotate_left
                   ·
                    simp only [Act.put, List.setIfInBounds_toArray, List.set_cons_zero, List.set_cons_succ, i64_w, i32_w]
                    rfl
                   refine pure_ (i := 4) (N := some 55) (v := ?_) (a' := ?_) #[true, true, true, false, true, false, false, false, false, false, false] rfl rfl (any_of HT_.out (by kernel_rfl)) (fun _ _ _ h => h) (Or.inl ⟨by rfl, ?_⟩) ?_ ?_
                   rotate_left
                   ·
                    intro w'
                    go_simp
                    with_reducible rfl
                   rotate_left
                   ·
                    simp only [Act.put, List.setIfInBounds_toArray, List.set_cons_zero, List.set_cons_succ, i64_w, i32_w]
                    rfl
                   refine pure_ (i := 5) (N := some 56) (v := ?_) (a' := ?_) #[true, true, true, false, true, true, false, false, false, false, false] rfl rfl (any_of HT_.out (by kernel_rfl)) (fun _ _ _ h => h) (Or.inl ⟨by rfl, ?_⟩) ?_ ?_
                   rotate_left
                   ·
                    intro w'
                    go_simp
                    with_reducible rfl
                   rotate_left
                   ·
                    simp only [Act.put, List.setIfInBounds_toArray, List.set_cons_zero, List.set_cons_succ, i64_w, i32_w]
                    rfl
                   refine pure_ (i := 6) (N := some 57) (v := ?_) (a' := ?_) #[true, true, true, false, true, true, true, false, false, false, false] rfl rfl (any_of HT_.out (by kernel_rfl)) (fun _ _ _ h => h) (Or.inl ⟨by rfl, ?_⟩) ?_ ?_
                   rotate_left
                   ·
                    intro w'
                    go_simp
                    with_reducible rfl
                   rotate_left
                   ·
                    simp only [Act.put, List.setIfInBounds_toArray, List.set_cons_zero, List.set_cons_succ, i64_w, i32_w]
                    rfl
                   refine pure_ (i := 9) (N := some 60) (v := ?_) (a' := ?_) #[true, true, true, false, true, true, true, false, false, true, false] rfl rfl (any_of HT_.out (by kernel_rfl)) (fun _ _ _ h => h) (Or.inl ⟨by rfl, ?_⟩) ?_ ?_
                   rotate_left
                   ·
                    intro w'
                    go_simp
                    with_reducible rfl
                   rotate_left
                   ·
                    simp only [Act.put, List.setIfInBounds_toArray, List.set_cons_zero, List.set_cons_succ, i64_w, i32_w]
                    rfl
                   refine take_ (i := 3) (N := some 54) (v := ?_) (a' := ?_) #[true, true, true, true, true, true, true, false, false, true, false] rfl rfl (take_ofW HT_.out HW_.out (by kernel_rfl)) (fun _ _ _ h => h) (Or.inl ⟨by rfl, ?_⟩) hHeld ?_ ?_
                   rotate_left
                   ·
                    rintro w' ⟨s0, s1⟩
                    go_simp
                    with_reducible rfl
                   rotate_left
                   ·
                    simp only [Act.put, List.setIfInBounds_toArray, List.set_cons_zero, List.set_cons_succ, i64_w, i32_w]
                    rfl
                   refine take_ (i := 7) (N := some 58) (v := ?_) (a' := ?_) #[true, true, true, true, true, true, true, true, false, true, false] rfl rfl (take_ofW HT_.out HW_.out (by kernel_rfl)) (fun _ _ _ h => h) (Or.inl ⟨by rfl, ?_⟩) hHeld ?_ ?_
                   rotate_left
                   ·
                    rintro w' ⟨s0, s1⟩
                    go_simp
                    with_reducible rfl
                   rotate_left
                   ·
                    simp only [Act.put, List.setIfInBounds_toArray, List.set_cons_zero, List.set_cons_succ, i64_w, i32_w]
                    rfl
                   refine pure_ (i := 8) (N := some 59) (v := ?_) (a' := ?_) #[true, true, true, true, true, true, true, true, true, true, false] rfl rfl (any_of HT_.out (by kernel_rfl)) (fun _ _ _ h => h) (Or.inl ⟨by rfl, ?_⟩) ?_ ?_
                   rotate_left
                   ·
                    intro w'
                    go_simp
                    with_reducible rfl
                   rotate_left
                   ·
                    simp only [Act.put, List.setIfInBounds_toArray, List.set_cons_zero, List.set_cons_succ, i64_w, i32_w]
                    rfl
                   refine pure_ (i := 10) (N := some 61) (v := ?_) (a' := ?_) #[true, true, true, true, true, true, true, true, true, true, true] rfl rfl (any_of HT_.out (by kernel_rfl)) (fun _ _ _ h => h) (Or.inl ⟨by rfl, ?_⟩) ?_ ?_
                   rotate_left
                   ·
                    intro w'
                    go_simp
                    with_reducible rfl
                   rotate_left
                   ·
                    simp only [Act.put, List.setIfInBounds_toArray, List.set_cons_zero, List.set_cons_succ, i64_w, i32_w]
                    rfl
                   refine done_ (done_of HT_.out (by kernel_rfl)) ?_
                   try go_wp2
                   go_roundg k3
                   case measure => have := HK1.out; have := HK2.out; have := HK3.out; omega
                   case rel => exact ⟨(ji45), (x12_3), (x13_3), (wrap64 (x42_2 + 1)), (by first | rfl | (simp; done) | (simp only [← hji45] <;> (first | rfl | simp)) | (simp [*]; done)), (by first | rfl | (simp; done) | (simp [*]; done)), (by first | rfl | (simp; done) | (simp [*]; done)), (by first | rfl | (simp; done) | (simp [*]; done)), H', ⟨by have := HK1.out; have := HK2.out; have := HK3.out; omega⟩, ⟨zo HO_10⟩, ⟨zw BK101⟩, ⟨zw BK104⟩, ⟨zh HB⟩⟩
                 ·
                  rw [if_neg c40] at H
                  exact absurd H (by simp)
                ·
                 rw [if_neg c39] at H
                 exact absurd H (by simp)
               ·
                rw [if_neg c38] at H
                exact absurd H (by simp)
              ·
               rw [if_neg c37] at H
               exact absurd H (by simp)
           ·
            rw [if_neg c32] at H
            exact absurd H (by simp)
          ·
           rw [if_neg c31] at H
           exact absurd H (by simp)
         ·
          rw [if_neg c30] at H
          have c30b0 : decide (x42_2 < (l0.length : Int)) = false := decide_eq_false c30
          clear c30
          simp only [Option.some.injEq, Prod.mk.injEq] at H
          obtain ⟨rfl, rfl, rfl⟩ := H
          have hnb48 := NB101_104.out
          have hnc48 := NB104_101.out
          obtain ⟨hc49_0, hc49_1⟩ := zc2 BK101
          obtain ⟨hf49_0, hf49_1⟩ := zf2 BK101
          go_wp2
          refine bodyPost_ret (results_tc rfl _ _ gb101 26 #[.int .i64 0, .int .i64 0] (0, 0) _ rfl (zw2 BK101) Try.underlying26 rfl (by kernel_rfl)) rfl ?_
          exact ⟨by first | rfl | (simp [errW_none, errW_some] <;> rfl) | (simp [*, errW_none, errW_some] <;> rfl), zh HB⟩
   ·
    rw [if_neg c6] at H
    exact absurd H (by simp)
  ·
   rw [if_neg c5] at H
   exact absurd H (by simp)
 ·
  rw [if_neg c4] at H
  have c4b0 : (t102 == 0) = false := beq_eq_false_iff_ne.mpr c4
  have c4b1 : (t102 != 0) = true := bne_iff_ne.mpr c4
  simp only [Option.some.injEq, Prod.mk.injEq] at H
  obtain ⟨rfl, rfl, rfl⟩ := H
  go_enter Try.func21, Try.ntmps21
  try go_wp2_with (first | ((with_reducible refine zd 5 rfl ?_); refine zb 5 #[.int .i64 0, .int .i64 0] 26 ?_; intro gb101 hg w50 hbox hb; have BK101 := zq3 (hbox); have GW101 := ze hg HB; have GE101 := GW101; replace HB := zt HB hb; clear hb hbox hg) | ((with_reducible refine gate_callee (f := 37) rfl ?_); refine zgo (some 17) Try.func37 #[.slice A0 l0.length c0] ?_; (with_reducible refine (curve_check.calls k _ _ l0 t102 t103 _ ?side1 ?side2 A3.out).mono ?_); (case side1 => repeat (first | exact (Kd.C_below HR0.out HB.out) | (with_reducible refine Kd.C_alloc ?_ _) | (with_reducible refine Kd.C_drewN ?_ _) | (with_reducible refine Kd.C_drew ?_))); (case side2 => exact HC0.out); rintro e w51 ⟨rfl, hb⟩; refine ⟨_, rfl, ?_⟩; replace BK101 := zs BK101 hb; replace HB := zt HB hb; (try clear hb)) | ((with_reducible refine zd 6 rfl ?_); refine zb 6 #[.int .i64 0, .int .i64 0] 26 ?_; intro gb104 hg w52 hbox hb; have BK104 := zq3 (hbox); have GW104 := ze hg HB; have GE104 := GW104; have NB101_104 := zl hg BK101; have NB104_101 := zg hg BK101; replace BK101 := zs BK101 hb; replace HB := zt HB hb; clear hb hbox hg; have hnb53 := NB104_101.out; have hnc53 := NB101_104.out; obtain ⟨hc54_0, hc54_1⟩ := zc2 BK104; obtain ⟨hf54_0, hf54_1⟩ := zf2 BK104))
  have n0_ : Aside0 (((w52.setCell ⟨gb104, 0, none⟩ (.int .i64 t102)).setCell ⟨gb104, 1, none⟩ (.int .i64 t103)).heap[gb101]? = some (.cells #[.int .i64 0, .int .i64 0] 26 (0, 0))) := ⟨zw BK101⟩
  have n1_ : Aside0 (((w52.setCell ⟨gb104, 0, none⟩ (.int .i64 t102)).setCell ⟨gb104, 1, none⟩ (.int .i64 t103)).heap[gb104]? = some (.cells #[.int .i64 t102, .int .i64 t103] 26 (0, 0))) := ⟨zw2 BK104⟩
  have n2_ : Aside0 (Below w.heap.size w ((w52.setCell ⟨gb104, 0, none⟩ (.int .i64 t102)).setCell ⟨gb104, 1, none⟩ (.int .i64 t103))) := ⟨zh HB⟩
  (try clear BK101)
  (try clear BK104)
  (try clear HB)
  generalize ((w52.setCell ⟨gb104, 0, none⟩ (.int .i64 t102)).setCell ⟨gb104, 1, none⟩ (.int .i64 t103)) = w55 at n0_ n1_ n2_ ⊢
  have BK101 := n0_
  have BK104 := n1_
  have HB := n2_
  clear n0_ n1_ n2_
  replace BK101 := zq3 (zq2 BK101.out); replace BK104 := zq3 (zq2 BK104.out); replace HB := zq3 (zq8 HB.out)
  refine start_ (n := 3) (S := fun w' => w'.cell? ⟨gb104, 0, none⟩ = some (.int .i64 t102) ∧ w'.cell? ⟨gb104, 1, none⟩ = some (.int .i64 t103)) (ds := []) #[false, false, false] (by kernel_rfl) rfl rfl ⟨(zq5 BK104.out 0).trans rfl, (zq5 BK104.out 1).trans rfl⟩ (fun hHeld => ?_)
  generalize w55.drew = w56 at BK101 BK104 HB hHeld ⊢
  refine pure_ (i := 1) (N := some 4) (v := ?_) (a' := ?_) #[false, true, false] rfl rfl (by kernel_rfl) (fun _ _ _ h => h) (Or.inl ⟨by rfl, ?_⟩) ?_ ?_
  rotate_left
  ·
   intro w'
   go_simp
   with_reducible rfl
  rotate_left
  ·
   simp only [Act.put, List.setIfInBounds_toArray, List.set_cons_zero, List.set_cons_succ, i64_w, i32_w]
   rfl
  refine take_ (i := 0) (N := some 21) (v := ?_) (a' := ?_) #[true, true, false] rfl rfl (by kernel_rfl) (fun _ _ _ h => h) (Or.inl ⟨by rfl, ?_⟩) hHeld ?_ ?_
  rotate_left
  ·
   rintro w' ⟨s0, s1⟩
   go_simp
   with_reducible rfl
  rotate_left
  ·
   simp only [Act.put, List.setIfInBounds_toArray, List.set_cons_zero, List.set_cons_succ, i64_w, i32_w]
   rfl
  refine one_ (i := 2) (N := none) #[true, true, true] rfl rfl (by kernel_rfl) (by decide) (fun K hK => ?_)
  have hs57 : w56.cell? ⟨gb101, 0, none⟩ = some (.int .i64 0) := (zq5 BK101.out 0).trans rfl
  have hfs57 := zq4 BK101.out 0
  have hns57_1 := NB104_101.out
  have hms57_1 := NB101_104.out
  have hs58 : w56.cell? ⟨gb101, 1, none⟩ = some (.int .i64 0) := (zq5 BK101.out 1).trans rfl
  have hfs58 := zq4 BK101.out 1
  have hns58_1 := NB104_101.out
  have hms58_1 := NB101_104.out
  refine skip_ (w1 := ?_) (by rfl) rfl ?_ ?_
  rotate_left
  ·
   go_simp
   rfl
  refine hK.out _ _ ⟨((cell_far (p := ⟨gb101, _, none⟩) NB104_101.out _).trans (((cell_far (p := ⟨gb101, _, none⟩) NB104_101.out _).trans (hHeld.1)))), ((cell_far (p := ⟨gb101, _, none⟩) NB104_101.out _).trans (((cell_far (p := ⟨gb101, _, none⟩) NB104_101.out _).trans (hHeld.2))))⟩ (fun hHeld => ?_)
  clear hK K
  refine done_ (by kernel_rfl) ?_
  try go_wp2
  refine bodyPost_ret (results_tc rfl _ _ gb101 26 #[.int .i64 t102, .int .i64 t103] (0, 0) _ rfl (zw2 BK101) Try.underlying26 rfl (by kernel_rfl)) rfl ?_
  exact ⟨by first | rfl | (simp [errW_none, errW_some] <;> rfl) | (simp [*, errW_none, errW_some] <;> rfl), zh HB⟩

end Go.Proofs.Ytiaoaoebghnpkaa.P
