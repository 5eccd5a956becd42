/- Printed out of the translation: what functions compute, and the proofs that the code computes just this. -/
import Derived.Test.YtgidglbkmklajaaP0
import Derived.Test.YtgidglbkmklajaaPF11
import Derived.Test.YtgidglbkmklajaaPF16
import Derived.Test.YtgidglbkmklajaaPF13
import Derived.Test.YtgidglbkmklajaaRatchet
namespace Go.Proofs.Ytgidglbkmklajaa.P
open Go.RowKit Go.Proofs.YtgidglbkmklajaaW.PrintWords Go.Proofs.YtgidglbkmklajaaW.PrintLast Go.Proofs.YtgidglbkmklajaaW.PrintMore
attribute [local go_sem] max2_int min2_int max_two min_two max_three min_three max_four min_four   -- for this text's walks alone
set_option linter.unusedVariables false
set_option linter.unusedSimpArgs false

/-! ### weighbridgelaw25_RatchetAgrees: function 5 -/
mutual
def weighbridgelaw25_RatchetAgrees.l0 : Nat → List Int → List Int → Int → Int → Int → Option (Bool)
  | 0, _, _, _, _, _ => none
  | k + 1, x0, x3, x4, x5, x6 => if x6 < (x0.length : Int) then (if 0 ≤ x6 then ((ratchet_Step.f x4 (decide (x6 > 0)) (rd x0 x6)).bind fun bt105 => (if x6 < (x3.length : Int) then (if bt105.1 = (rd x3 x6) then (if bt105.1 < (rd x0 x6) then (none) else (if x6 > 0 then (if (IntKind.u64.wrap (bt105.1 - x4)) = bt105.2 then (weighbridgelaw25_RatchetAgrees.l0 k x0 x3 bt105.1 (IntKind.u64.wrap (x5 + bt105.2)) (wrap64 (x6 + 1))) else (none)) else (weighbridgelaw25_RatchetAgrees.l0 k x0 x3 bt105.1 (IntKind.u64.wrap (x5 + bt105.2)) (wrap64 (x6 + 1))))) else (none)) else (none))) else (none)) else (if (x0.length : Int) > 0 then (if 0 ≤ (wrap64 ((x0.length : Int) - 1)) then (if (wrap64 ((x0.length : Int) - 1)) < (x3.length : Int) then (if 0 < (x3.length : Int) then (weighbridgelaw25_RatchetAgrees.j1 k x3 (x5 != (IntKind.u64.wrap ((rd x3 (wrap64 ((x0.length : Int) - 1))) - (rd x3 0))))) else (none)) else (none)) else (none)) else (weighbridgelaw25_RatchetAgrees.j1 k x3 false))
def weighbridgelaw25_RatchetAgrees.j1 : Nat → List Int → Bool → Option (Bool)
  | 0, _, _ => none
  | k + 1, x3, x78 => if x78 = true then (none) else ((weighbridgelaw25_live.f k).bind fun t111 => (if t111 = true then ((ratchet_Run.f x3).bind fun t112 => ((weighbridgeref25_Same.f k t112 x3).bind fun t115 => (if t115 = true then ((ratchet_Back.f x3).bind fun t116 => (some ((t116.length : Int) == 0))) else (none)))) else (none)))
end
def weighbridgelaw25_RatchetAgrees.f (k : Nat) (l0 : List Int) : Option (Bool) := (ratchet_Run.f l0).bind fun t101 => (if (t101.length : Int) = (l0.length : Int) then (weighbridgelaw25_RatchetAgrees.l0 k l0 t101 0 0 0) else (none))
set_option maxHeartbeats 8000000 in
set_option maxRecDepth 100000 in
theorem weighbridgelaw25_RatchetAgrees.calls (k : Nat) (A0 : Option Addr) (c0 : Nat) (l0 : List Int) (r : Bool) (w : World) (hr0 : Kd.C (Kd.int .u64) w A0 l0.length l0) (hc0 : l0.length ≤ c0) (h : weighbridgelaw25_RatchetAgrees.f k l0 = some r) :
    Calls Try.prog 5 #[.slice A0 l0.length c0] w fun e w' => e = .returned (.bool r) ∧ Below w.heap.size w w' := by
  have HR0 := zq3 hr0
  have HC0 := zq3 hc0
  clear hr0 hc0
  have HB := zq3 (Below.refl w.heap.size w)
  have H : ((ratchet_Run.f l0).bind fun t101 => (if (t101.length : Int) = (l0.length : Int) then (weighbridgelaw25_RatchetAgrees.l0 k l0 t101 0 0 0) else (none))) = some r := h
  clear h
  replace H := Option.bind_eq_some_iff.mp H
  obtain ⟨t101, A20, H⟩ := H
  replace H : (if (t101.length : Int) = (l0.length : Int) then (weighbridgelaw25_RatchetAgrees.l0 k l0 t101 0 0 0) else (none)) = some r := H
  have A2 := zq3 A20
  clear A20
  by_cases c3 : (t101.length : Int) = (l0.length : Int)
  · rw [if_pos c3] at H
    have c3b0 : ((t101.length : Int) == (l0.length : Int)) = true := beq_iff_eq.mpr c3
    have c3b1 : ((t101.length : Int) != (l0.length : Int)) = false := bne_eq_false_iff_eq.mpr c3
    have c3b2 : (t101.length == l0.length) = true := by first | simpa using c3 | (simp at c3 ⊢; omega)
    clear c3
    have H' := zq3 H
    clear H
    go_enter Try.func5, Try.ntmps5
    go_wp2_with (first | (go_at_call 17; (with_reducible refine (ratchet_Run.calls _ _ l0 t101 _ ?side1 ?side2 A2.out).mono ?_); (case side1 => repeat (first | exact HR0.out | (with_reducible refine Kd.C_alloc ?_ _) | (with_reducible refine Kd.C_drewN ?_ _) | (with_reducible refine Kd.C_drew ?_))); (case side2 => exact HC0.out); rintro e w4 ⟨v102, rfl, ho0, hb⟩; have n0_ := zq3 (Kd.R_lower ho0 (below_size (by repeat (first | (with_reducible first | exact HB.out | apply zq9 | apply zq7 | apply zq8) | exact HB.out)))); have n1_ := zq3 (below_step (by repeat (first | (with_reducible first | exact HB.out | apply zq9 | apply zq7 | apply zq8) | exact HB.out)) hb); clear HB; have HO103 := n0_; have HB := n1_; clear n0_ n1_; (try clear hb); (try clear hb2); (try clear hk); (try clear hi); (try clear ho0); obtain ⟨Ao5, co5, eo5⟩ := Kd.R_slice HO103.out; subst eo5))
    repeat (go_quiet (first | (go_at_call 17; (with_reducible refine (ratchet_Run.calls _ _ l0 t101 _ ?side1 ?side2 A2.out).mono ?_); (case side1 => repeat (first | exact HR0.out | (with_reducible refine Kd.C_alloc ?_ _) | (with_reducible refine Kd.C_drewN ?_ _) | (with_reducible refine Kd.C_drew ?_))); (case side2 => exact HC0.out); rintro e w4 ⟨v102, rfl, ho0, hb⟩; have n0_ := zq3 (Kd.R_lower ho0 (below_size (by repeat (first | (with_reducible first | exact HB.out | apply zq9 | apply zq7 | apply zq8) | exact HB.out)))); have n1_ := zq3 (below_step (by repeat (first | (with_reducible first | exact HB.out | apply zq9 | apply zq7 | apply zq8) | exact HB.out)) hb); clear HB; have HO103 := n0_; have HB := n1_; clear n0_ n1_; (try clear hb); (try clear hb2); (try clear hk); (try clear hi); (try clear ho0); obtain ⟨Ao5, co5, eo5⟩ := Kd.R_slice HO103.out; subst eo5)); try go_wp2_with (first | (go_at_call 17; (with_reducible refine (ratchet_Run.calls _ _ l0 t101 _ ?side1 ?side2 A2.out).mono ?_); (case side1 => repeat (first | exact HR0.out | (with_reducible refine Kd.C_alloc ?_ _) | (with_reducible refine Kd.C_drewN ?_ _) | (with_reducible refine Kd.C_drew ?_))); (case side2 => exact HC0.out); rintro e w4 ⟨v102, rfl, ho0, hb⟩; have n0_ := zq3 (Kd.R_lower ho0 (below_size (by repeat (first | (with_reducible first | exact HB.out | apply zq9 | apply zq7 | apply zq8) | exact HB.out)))); have n1_ := zq3 (below_step (by repeat (first | (with_reducible first | exact HB.out | apply zq9 | apply zq7 | apply zq8) | exact HB.out)) hb); clear HB; have HO103 := n0_; have HB := n1_; clear n0_ n1_; (try clear hb); (try clear hb2); (try clear hk); (try clear hi); (try clear ho0); obtain ⟨Ao5, co5, eo5⟩ := Kd.R_slice HO103.out; subst eo5)))
    go_loopg [4, 5, 6] k (fun kq v4 v5 v6 w' => ∃ (x4_1 : Int) (x5_1 : Int) (x6_1 : Int), v4 = .int .u64 x4_1 ∧ v5 = .int .u64 x5_1 ∧ v6 = .int .i64 x6_1 ∧ Aside0 (weighbridgelaw25_RatchetAgrees.l0 kq l0 t101 x4_1 x5_1 x6_1 = some r) ∧ Aside0 (kq ≤ k) ∧ Aside0 (Kd.R (Kd.int .u64) 22 w' w.heap.size (fun _ => True) (.slice Ao5 t101.length co5) t101) ∧ Aside0 (Below w.heap.size w w'))
    case atStart => exact ⟨(0), (0), (0), (by first | rfl | (simp; done) | (simp [*]; done)), (by first | rfl | (simp; done) | (simp [*]; done)), (by first | rfl | (simp; done) | (simp [*]; done)), H', ⟨Nat.le_refl _⟩, ⟨by (with_reducible repeat (first | apply Kd.R_alloc | apply Kd.R_drewN | apply Kd.R_drew)); exact HO103.out⟩, ⟨by repeat (first | (with_reducible first | exact HB.out | apply zq9 | apply zq7 | apply zq8) | exact HB.out)⟩⟩
    case round =>
      clear H'
      try clear p2
      try clear c3
      try clear c3b0
      try clear c3b1
      try clear c3b2
      try clear c5
      obtain ⟨x4_1, x5_1, x6_1, rfl, rfl, rfl, HA, HK1, HO_3, HB⟩ := hrel
      cases gk with
      | zero => exact absurd HA.out (by simp [weighbridgelaw25_RatchetAgrees.l0])
      | succ k1 =>
        have H := HA.out
        clear HA
        simp only [weighbridgelaw25_RatchetAgrees.l0] at H
        by_cases c6 : x6_1 < (l0.length : Int)
        · rw [if_pos c6] at H
          have c6b0 : decide (x6_1 < (l0.length : Int)) = true := decide_eq_true c6
          clear c6
          by_cases c7 : 0 ≤ x6_1
          · rw [if_pos c7] at H
            have c7b0 : decide (0 ≤ x6_1) = true := decide_eq_true c7
            clear c7
            replace H := Option.bind_eq_some_iff.mp H
            obtain ⟨⟨t105, t106⟩, A80, H⟩ := H
            replace H : (if x6_1 < (t101.length : Int) then (if t105 = (rd t101 x6_1) then (if t105 < (rd l0 x6_1) then (none) else (if x6_1 > 0 then (if (IntKind.u64.wrap (t105 - x4_1)) = t106 then (weighbridgelaw25_RatchetAgrees.l0 k1 l0 t101 t105 (IntKind.u64.wrap (x5_1 + t106)) (wrap64 (x6_1 + 1))) else (none)) else (weighbridgelaw25_RatchetAgrees.l0 k1 l0 t101 t105 (IntKind.u64.wrap (x5_1 + t106)) (wrap64 (x6_1 + 1))))) else (none)) else (none)) = some r := H
            have A8 := zq3 A80
            clear A80
            by_cases c9 : x6_1 < (t101.length : Int)
            · rw [if_pos c9] at H
              have c9b0 : decide (x6_1 < (t101.length : Int)) = true := decide_eq_true c9
              clear c9
              by_cases c10 : t105 = (rd t101 x6_1)
              · rw [if_pos c10] at H
                have c10b0 : (t105 == (rd t101 x6_1)) = true := beq_iff_eq.mpr c10
                have c10b1 : (t105 != (rd t101 x6_1)) = false := bne_eq_false_iff_eq.mpr c10
                clear c10
                by_cases c11 : t105 < (rd l0 x6_1)
                · rw [if_pos c11] at H
                  exact absurd H (by simp)
                · rw [if_neg c11] at H
                  have c11b0 : decide (t105 < (rd l0 x6_1)) = false := decide_eq_false c11
                  clear c11
                  by_cases c12 : x6_1 > 0
                  · rw [if_pos c12] at H
                    have c12b0 : decide (0 < x6_1) = true := decide_eq_true c12
                    clear c12
                    by_cases c13 : (IntKind.u64.wrap (t105 - x4_1)) = t106
                    · rw [if_pos c13] at H
                      have c13b0 : ((IntKind.u64.wrap (t105 - x4_1)) == t106) = true := beq_iff_eq.mpr c13
                      have c13b1 : ((IntKind.u64.wrap (t105 - x4_1)) != t106) = false := bne_eq_false_iff_eq.mpr c13
                      clear c13
                      have H' := zq3 H
                      clear H
                      have p104 : 0 ≤ (x6_1 : Int) := of_decide_eq_true (by first | (with_reducible assumption) | assumption)
                      have q104 : x6_1 < (l0.length : Int) := of_decide_eq_true (by first | (with_reducible assumption) | assumption)
                      obtain ⟨ad104, e104, hx104_0⟩ := Kd.at_int HR0.out x6_1 p104 q104
                      cases e104
                      replace hx104_0 := (HB.out.cell (World.block_lt_of_cell? w _ hx104_0)).trans hx104_0
                      replace p104 := eq_true p104
                      replace q104 := eq_true q104
                      go_wp2_with (first | (go_at_call 11; (first | (with_reducible refine (ratchet_Step.calls x4_1 (decide (x6_1 > 0)) (rd l0 x6_1) t105 t106 _ A8.out).mono ?_) | (with_reducible refine (ratchet_Step.calls x4_1 true (rd l0 x6_1) t105 t106 _ (by have h_ := A8.out; rw [show decide (x6_1 > 0) = true from (by assumption)] at h_; exact h_)).mono ?_) | (with_reducible refine (ratchet_Step.calls x4_1 false (rd l0 x6_1) t105 t106 _ (by have h_ := A8.out; rw [show decide (x6_1 > 0) = false from (by assumption)] at h_; exact h_)).mono ?_)); rintro e w14 ⟨rfl, hb⟩; have n0_ := zq3 (Kd.R_below (by (with_reducible repeat (first | apply Kd.R_alloc | apply Kd.R_drewN | apply Kd.R_drew)); exact HO_3.out) hb); have n1_ := zq3 (below_step (by repeat (first | (with_reducible first | exact HB.out | apply zq9 | apply zq7 | apply zq8) | exact HB.out)) hb); clear HO_3; clear HB; have HO_3 := n0_; have HB := n1_; clear n0_ n1_; (try clear hb); (try clear hb2); (try clear hk); (try clear hi); have p107 : 0 ≤ (x6_1 : Int) := of_decide_eq_true (by first | (with_reducible assumption) | assumption); have q107 : x6_1 < (t101.length : Int) := of_decide_eq_true (by first | (with_reducible assumption) | assumption); obtain ⟨ad107, e107, hx107_0⟩ := Kd.at_int (Kd.R_reads' HO_3.out).2.2 x6_1 p107 q107; cases e107; replace p107 := eq_true p107; replace q107 := eq_true q107; have p108 : 0 ≤ (x6_1 : Int) := of_decide_eq_true (by first | (with_reducible assumption) | assumption); have q108 : x6_1 < (l0.length : Int) := of_decide_eq_true (by first | (with_reducible assumption) | assumption); obtain ⟨ad108, e108, hx108_0⟩ := Kd.at_int HR0.out x6_1 p108 q108; obtain rfl : ad104 = ad108 := (by injection e108); replace hx108_0 := (HB.out.cell (World.block_lt_of_cell? w _ hx108_0)).trans hx108_0; replace p108 := eq_true p108; replace q108 := eq_true q108))
                      repeat (go_quiet (first | (go_at_call 11; (first | (with_reducible refine (ratchet_Step.calls x4_1 (decide (x6_1 > 0)) (rd l0 x6_1) t105 t106 _ A8.out).mono ?_) | (with_reducible refine (ratchet_Step.calls x4_1 true (rd l0 x6_1) t105 t106 _ (by have h_ := A8.out; rw [show decide (x6_1 > 0) = true from (by assumption)] at h_; exact h_)).mono ?_) | (with_reducible refine (ratchet_Step.calls x4_1 false (rd l0 x6_1) t105 t106 _ (by have h_ := A8.out; rw [show decide (x6_1 > 0) = false from (by assumption)] at h_; exact h_)).mono ?_)); rintro e w14 ⟨rfl, hb⟩; have n0_ := zq3 (Kd.R_below (by (with_reducible repeat (first | apply Kd.R_alloc | apply Kd.R_drewN | apply Kd.R_drew)); exact HO_3.out) hb); have n1_ := zq3 (below_step (by repeat (first | (with_reducible first | exact HB.out | apply zq9 | apply zq7 | apply zq8) | exact HB.out)) hb); clear HO_3; clear HB; have HO_3 := n0_; have HB := n1_; clear n0_ n1_; (try clear hb); (try clear hb2); (try clear hk); (try clear hi); have p107 : 0 ≤ (x6_1 : Int) := of_decide_eq_true (by first | (with_reducible assumption) | assumption); have q107 : x6_1 < (t101.length : Int) := of_decide_eq_true (by first | (with_reducible assumption) | assumption); obtain ⟨ad107, e107, hx107_0⟩ := Kd.at_int (Kd.R_reads' HO_3.out).2.2 x6_1 p107 q107; cases e107; replace p107 := eq_true p107; replace q107 := eq_true q107; have p108 : 0 ≤ (x6_1 : Int) := of_decide_eq_true (by first | (with_reducible assumption) | assumption); have q108 : x6_1 < (l0.length : Int) := of_decide_eq_true (by first | (with_reducible assumption) | assumption); obtain ⟨ad108, e108, hx108_0⟩ := Kd.at_int HR0.out x6_1 p108 q108; obtain rfl : ad104 = ad108 := (by injection e108); replace hx108_0 := (HB.out.cell (World.block_lt_of_cell? w _ hx108_0)).trans hx108_0; replace p108 := eq_true p108; replace q108 := eq_true q108)); try go_wp2_with (first | (go_at_call 11; (first | (with_reducible refine (ratchet_Step.calls x4_1 (decide (x6_1 > 0)) (rd l0 x6_1) t105 t106 _ A8.out).mono ?_) | (with_reducible refine (ratchet_Step.calls x4_1 true (rd l0 x6_1) t105 t106 _ (by have h_ := A8.out; rw [show decide (x6_1 > 0) = true from (by assumption)] at h_; exact h_)).mono ?_) | (with_reducible refine (ratchet_Step.calls x4_1 false (rd l0 x6_1) t105 t106 _ (by have h_ := A8.out; rw [show decide (x6_1 > 0) = false from (by assumption)] at h_; exact h_)).mono ?_)); rintro e w14 ⟨rfl, hb⟩; have n0_ := zq3 (Kd.R_below (by (with_reducible repeat (first | apply Kd.R_alloc | apply Kd.R_drewN | apply Kd.R_drew)); exact HO_3.out) hb); have n1_ := zq3 (below_step (by repeat (first | (with_reducible first | exact HB.out | apply zq9 | apply zq7 | apply zq8) | exact HB.out)) hb); clear HO_3; clear HB; have HO_3 := n0_; have HB := n1_; clear n0_ n1_; (try clear hb); (try clear hb2); (try clear hk); (try clear hi); have p107 : 0 ≤ (x6_1 : Int) := of_decide_eq_true (by first | (with_reducible assumption) | assumption); have q107 : x6_1 < (t101.length : Int) := of_decide_eq_true (by first | (with_reducible assumption) | assumption); obtain ⟨ad107, e107, hx107_0⟩ := Kd.at_int (Kd.R_reads' HO_3.out).2.2 x6_1 p107 q107; cases e107; replace p107 := eq_true p107; replace q107 := eq_true q107; have p108 : 0 ≤ (x6_1 : Int) := of_decide_eq_true (by first | (with_reducible assumption) | assumption); have q108 : x6_1 < (l0.length : Int) := of_decide_eq_true (by first | (with_reducible assumption) | assumption); obtain ⟨ad108, e108, hx108_0⟩ := Kd.at_int HR0.out x6_1 p108 q108; obtain rfl : ad104 = ad108 := (by injection e108); replace hx108_0 := (HB.out.cell (World.block_lt_of_cell? w _ hx108_0)).trans hx108_0; replace p108 := eq_true p108; replace q108 := eq_true q108)))
                      go_roundg k1
                      case measure => have := HK1.out; omega
                      case rel => exact ⟨(t105), (IntKind.u64.wrap (x5_1 + t106)), (wrap64 (x6_1 + 1)), (by first | rfl | (simp; done) | (simp [*]; done)), (by first | rfl | (simp; done) | (simp [*]; done)), (by first | rfl | (simp; done) | (simp [*]; done)), H', ⟨by have := HK1.out; omega⟩, ⟨by (with_reducible repeat (first | apply Kd.R_alloc | apply Kd.R_drewN | apply Kd.R_drew)); exact HO_3.out⟩, ⟨by repeat (first | (with_reducible first | exact HB.out | apply zq9 | apply zq7 | apply zq8) | exact HB.out)⟩⟩
                    · rw [if_neg c13] at H
                      exact absurd H (by simp)
                  · rw [if_neg c12] at H
                    have c12b0 : decide (0 < x6_1) = false := decide_eq_false c12
                    clear c12
                    have H' := zq3 H
                    clear H
                    have p104 : 0 ≤ (x6_1 : Int) := of_decide_eq_true (by first | (with_reducible assumption) | assumption)
                    have q104 : x6_1 < (l0.length : Int) := of_decide_eq_true (by first | (with_reducible assumption) | assumption)
                    obtain ⟨ad104, e104, hx104_0⟩ := Kd.at_int HR0.out x6_1 p104 q104
                    cases e104
                    replace hx104_0 := (HB.out.cell (World.block_lt_of_cell? w _ hx104_0)).trans hx104_0
                    replace p104 := eq_true p104
                    replace q104 := eq_true q104
                    go_wp2_with (first | (go_at_call 11; (first | (with_reducible refine (ratchet_Step.calls x4_1 (decide (x6_1 > 0)) (rd l0 x6_1) t105 t106 _ A8.out).mono ?_) | (with_reducible refine (ratchet_Step.calls x4_1 true (rd l0 x6_1) t105 t106 _ (by have h_ := A8.out; rw [show decide (x6_1 > 0) = true from (by assumption)] at h_; exact h_)).mono ?_) | (with_reducible refine (ratchet_Step.calls x4_1 false (rd l0 x6_1) t105 t106 _ (by have h_ := A8.out; rw [show decide (x6_1 > 0) = false from (by assumption)] at h_; exact h_)).mono ?_)); rintro e w15 ⟨rfl, hb⟩; have n0_ := zq3 (Kd.R_below (by (with_reducible repeat (first | apply Kd.R_alloc | apply Kd.R_drewN | apply Kd.R_drew)); exact HO_3.out) hb); have n1_ := zq3 (below_step (by repeat (first | (with_reducible first | exact HB.out | apply zq9 | apply zq7 | apply zq8) | exact HB.out)) hb); clear HO_3; clear HB; have HO_3 := n0_; have HB := n1_; clear n0_ n1_; (try clear hb); (try clear hb2); (try clear hk); (try clear hi); have p107 : 0 ≤ (x6_1 : Int) := of_decide_eq_true (by first | (with_reducible assumption) | assumption); have q107 : x6_1 < (t101.length : Int) := of_decide_eq_true (by first | (with_reducible assumption) | assumption); obtain ⟨ad107, e107, hx107_0⟩ := Kd.at_int (Kd.R_reads' HO_3.out).2.2 x6_1 p107 q107; cases e107; replace p107 := eq_true p107; replace q107 := eq_true q107; have p108 : 0 ≤ (x6_1 : Int) := of_decide_eq_true (by first | (with_reducible assumption) | assumption); have q108 : x6_1 < (l0.length : Int) := of_decide_eq_true (by first | (with_reducible assumption) | assumption); obtain ⟨ad108, e108, hx108_0⟩ := Kd.at_int HR0.out x6_1 p108 q108; obtain rfl : ad104 = ad108 := (by injection e108); replace hx108_0 := (HB.out.cell (World.block_lt_of_cell? w _ hx108_0)).trans hx108_0; replace p108 := eq_true p108; replace q108 := eq_true q108))
                    repeat (go_quiet (first | (go_at_call 11; (first | (with_reducible refine (ratchet_Step.calls x4_1 (decide (x6_1 > 0)) (rd l0 x6_1) t105 t106 _ A8.out).mono ?_) | (with_reducible refine (ratchet_Step.calls x4_1 true (rd l0 x6_1) t105 t106 _ (by have h_ := A8.out; rw [show decide (x6_1 > 0) = true from (by assumption)] at h_; exact h_)).mono ?_) | (with_reducible refine (ratchet_Step.calls x4_1 false (rd l0 x6_1) t105 t106 _ (by have h_ := A8.out; rw [show decide (x6_1 > 0) = false from (by assumption)] at h_; exact h_)).mono ?_)); rintro e w15 ⟨rfl, hb⟩; have n0_ := zq3 (Kd.R_below (by (with_reducible repeat (first | apply Kd.R_alloc | apply Kd.R_drewN | apply Kd.R_drew)); exact HO_3.out) hb); have n1_ := zq3 (below_step (by repeat (first | (with_reducible first | exact HB.out | apply zq9 | apply zq7 | apply zq8) | exact HB.out)) hb); clear HO_3; clear HB; have HO_3 := n0_; have HB := n1_; clear n0_ n1_; (try clear hb); (try clear hb2); (try clear hk); (try clear hi); have p107 : 0 ≤ (x6_1 : Int) := of_decide_eq_true (by first | (with_reducible assumption) | assumption); have q107 : x6_1 < (t101.length : Int) := of_decide_eq_true (by first | (with_reducible assumption) | assumption); obtain ⟨ad107, e107, hx107_0⟩ := Kd.at_int (Kd.R_reads' HO_3.out).2.2 x6_1 p107 q107; cases e107; replace p107 := eq_true p107; replace q107 := eq_true q107; have p108 : 0 ≤ (x6_1 : Int) := of_decide_eq_true (by first | (with_reducible assumption) | assumption); have q108 : x6_1 < (l0.length : Int) := of_decide_eq_true (by first | (with_reducible assumption) | assumption); obtain ⟨ad108, e108, hx108_0⟩ := Kd.at_int HR0.out x6_1 p108 q108; obtain rfl : ad104 = ad108 := (by injection e108); replace hx108_0 := (HB.out.cell (World.block_lt_of_cell? w _ hx108_0)).trans hx108_0; replace p108 := eq_true p108; replace q108 := eq_true q108)); try go_wp2_with (first | (go_at_call 11; (first | (with_reducible refine (ratchet_Step.calls x4_1 (decide (x6_1 > 0)) (rd l0 x6_1) t105 t106 _ A8.out).mono ?_) | (with_reducible refine (ratchet_Step.calls x4_1 true (rd l0 x6_1) t105 t106 _ (by have h_ := A8.out; rw [show decide (x6_1 > 0) = true from (by assumption)] at h_; exact h_)).mono ?_) | (with_reducible refine (ratchet_Step.calls x4_1 false (rd l0 x6_1) t105 t106 _ (by have h_ := A8.out; rw [show decide (x6_1 > 0) = false from (by assumption)] at h_; exact h_)).mono ?_)); rintro e w15 ⟨rfl, hb⟩; have n0_ := zq3 (Kd.R_below (by (with_reducible repeat (first | apply Kd.R_alloc | apply Kd.R_drewN | apply Kd.R_drew)); exact HO_3.out) hb); have n1_ := zq3 (below_step (by repeat (first | (with_reducible first | exact HB.out | apply zq9 | apply zq7 | apply zq8) | exact HB.out)) hb); clear HO_3; clear HB; have HO_3 := n0_; have HB := n1_; clear n0_ n1_; (try clear hb); (try clear hb2); (try clear hk); (try clear hi); have p107 : 0 ≤ (x6_1 : Int) := of_decide_eq_true (by first | (with_reducible assumption) | assumption); have q107 : x6_1 < (t101.length : Int) := of_decide_eq_true (by first | (with_reducible assumption) | assumption); obtain ⟨ad107, e107, hx107_0⟩ := Kd.at_int (Kd.R_reads' HO_3.out).2.2 x6_1 p107 q107; cases e107; replace p107 := eq_true p107; replace q107 := eq_true q107; have p108 : 0 ≤ (x6_1 : Int) := of_decide_eq_true (by first | (with_reducible assumption) | assumption); have q108 : x6_1 < (l0.length : Int) := of_decide_eq_true (by first | (with_reducible assumption) | assumption); obtain ⟨ad108, e108, hx108_0⟩ := Kd.at_int HR0.out x6_1 p108 q108; obtain rfl : ad104 = ad108 := (by injection e108); replace hx108_0 := (HB.out.cell (World.block_lt_of_cell? w _ hx108_0)).trans hx108_0; replace p108 := eq_true p108; replace q108 := eq_true q108)))
                    go_roundg k1
                    case measure => have := HK1.out; omega
                    case rel => exact ⟨(t105), (IntKind.u64.wrap (x5_1 + t106)), (wrap64 (x6_1 + 1)), (by first | rfl | (simp; done) | (simp [*]; done)), (by first | rfl | (simp; done) | (simp [*]; done)), (by first | rfl | (simp; done) | (simp [*]; done)), H', ⟨by have := HK1.out; omega⟩, ⟨by (with_reducible repeat (first | apply Kd.R_alloc | apply Kd.R_drewN | apply Kd.R_drew)); exact HO_3.out⟩, ⟨by repeat (first | (with_reducible first | exact HB.out | apply zq9 | apply zq7 | apply zq8) | exact HB.out)⟩⟩
              · rw [if_neg c10] at H
                exact absurd H (by simp)
            · rw [if_neg c9] at H
              exact absurd H (by simp)
          · rw [if_neg c7] at H
            exact absurd H (by simp)
        · rw [if_neg c6] at H
          have c6b0 : decide (x6_1 < (l0.length : Int)) = false := decide_eq_false c6
          clear c6
          have HC16 := zq3 H
          clear H
          go_upto_region 13 with (fail)
          repeat (go_quiet (fail); go_upto_region 13 with (fail))
          go_cut [78] (fun v78 wc => ∃ (kq : Nat) (x78_15 : Bool), v78 = .bool x78_15 ∧ Aside0 (weighbridgelaw25_RatchetAgrees.j1 kq t101 x78_15 = some r) ∧ Aside0 (kq ≤ k1) ∧ Aside0 (Kd.R (Kd.int .u64) 22 wc w.heap.size (fun _ => True) (.slice Ao5 t101.length co5) t101) ∧ Aside0 (Below w.heap.size w wc))
          case first =>
            have H := HC16.out
            clear HC16
            by_cases c17 : (l0.length : Int) > 0
            · rw [if_pos c17] at H
              have c17b0 : decide (0 < (l0.length : Int)) = true := decide_eq_true c17
              have c17b1 : decide (0 < l0.length) = true := decide_eq_true (by omega)
              clear c17
              (first | rw [c17b0] | (simp only [i64_w, i32_w]; rw [c17b0]) | skip)
              obtain ⟨ji18, hji18⟩ : ∃ j_ : Int, (wrap64 ((l0.length : Int) - 1)) = j_ := ⟨_, rfl⟩
              replace H : (if 0 ≤ (ji18) then (if (ji18) < (t101.length : Int) then (if 0 < (t101.length : Int) then (weighbridgelaw25_RatchetAgrees.j1 k1 t101 (x5_1 != (IntKind.u64.wrap ((rd t101 (ji18)) - (rd t101 0))))) else (none)) else (none)) else (none)) = some r := by first | (rw [hji18] at H; exact H) | (simp only [hji18] at H ⊢; exact H)
              have hji18w : (IntKind.i64.wrap ((l0.length : Int) - 1)) = ji18 := (i64_w _).trans hji18
              by_cases c19 : 0 ≤ (ji18)
              · rw [if_pos c19] at H
                have c19b0 : decide (0 ≤ (ji18)) = true := decide_eq_true c19
                clear c19
                by_cases c20 : (ji18) < (t101.length : Int)
                · rw [if_pos c20] at H
                  have c20b0 : decide ((ji18) < (t101.length : Int)) = true := decide_eq_true c20
                  clear c20
                  by_cases c21 : 0 < (t101.length : Int)
                  · rw [if_pos c21] at H
                    have c21b0 : decide (0 < (t101.length : Int)) = true := decide_eq_true c21
                    have c21b1 : decide (0 < t101.length) = true := decide_eq_true (by omega)
                    clear c21
                    have H' := zq3 H
                    clear H
                    have p109 : 0 ≤ ((ji18) : Int) := of_decide_eq_true (by first | (with_reducible assumption) | assumption)
                    have q109 : (ji18) < (t101.length : Int) := of_decide_eq_true (by first | (with_reducible assumption) | assumption)
                    obtain ⟨ad109, e109, hx109_0⟩ := Kd.at_int (Kd.R_reads' HO_3.out).2.2 (ji18) p109 q109
                    cases e109
                    replace p109 := eq_true p109
                    replace q109 := eq_true q109
                    have p110 : 0 ≤ (0 : Int) := (by omega)
                    have q110 : 0 < (t101.length : Int) := of_decide_eq_true (by first | (with_reducible assumption) | assumption)
                    obtain ⟨ad110, e110, hx110_0⟩ := Kd.at_int (Kd.R_reads' HO_3.out).2.2 0 p110 q110
                    obtain rfl : ad109 = ad110 := (by injection e110)
                    have qi110 : (0 < t101.length) = True := eq_true (by omega)
                    (try rw [show ((0 : Int)).toNat = 0 from rfl] at hx110_0)
                    (try rw [Addr.add_zero'] at hx110_0)
                    replace p110 := eq_true p110
                    replace q110 := eq_true q110
                    go_wp2
                    repeat (go_quiet (fail); try go_wp2)
                    go_meet
                    case rel => exact ⟨_, ((x5_1 != (IntKind.u64.wrap ((rd t101 (ji18)) - (rd t101 0))))), (by first | rfl | (simp; done) | (simp only [← hji18] <;> (first | rfl | simp)) | (simp [*]; done)), H', ⟨by have := HK1.out; first | omega | exact Nat.le_refl _⟩, ⟨by (with_reducible repeat (first | apply Kd.R_alloc | apply Kd.R_drewN | apply Kd.R_drew)); exact HO_3.out⟩, ⟨by repeat (first | (with_reducible first | exact HB.out | apply zq9 | apply zq7 | apply zq8) | exact HB.out)⟩⟩
                  · rw [if_neg c21] at H
                    exact absurd H (by simp)
                · rw [if_neg c20] at H
                  exact absurd H (by simp)
              · rw [if_neg c19] at H
                exact absurd H (by simp)
            · rw [if_neg c17] at H
              have c17b0 : decide (0 < (l0.length : Int)) = false := decide_eq_false c17
              have c17b1 : decide (0 < l0.length) = false := decide_eq_false (by omega)
              clear c17
              (first | rw [c17b0] | (simp only [i64_w, i32_w]; rw [c17b0]) | skip)
              have H' := zq3 H
              clear H
              go_wp2
              repeat (go_quiet (fail); try go_wp2)
              go_meet
              case rel => exact ⟨_, (false), (by first | rfl | (simp; done) | (simp [*]; done)), H', ⟨by have := HK1.out; first | omega | exact Nat.le_refl _⟩, ⟨by (with_reducible repeat (first | apply Kd.R_alloc | apply Kd.R_drewN | apply Kd.R_drew)); exact HO_3.out⟩, ⟨by repeat (first | (with_reducible first | exact HB.out | apply zq9 | apply zq7 | apply zq8) | exact HB.out)⟩⟩
          case rest =>
            clear HC16
            try clear c1
            try clear p1
            try clear q1
            try clear hx1
            try clear qi1
            try clear c2
            try clear p2
            try clear c3
            try clear c3b0
            try clear c3b1
            try clear c3b2
            try clear c5
            try clear c6
            try clear c6b0
            try clear p6
            try clear c7
            try clear c7b0
            try clear c9
            try clear c9b0
            try clear c10
            try clear c10b0
            try clear c10b1
            try clear p10
            try clear q10
            try clear hx10
            try clear c11
            try clear c11b0
            try clear p11
            try clear q11
            try clear hx11
            try clear qi11
            try clear c12
            try clear c12b0
            try clear c13
            try clear c13b0
            try clear c13b1
            try clear c17
            try clear c17b0
            try clear c17b1
            try clear c19
            try clear c19b0
            try clear c20
            try clear c20b0
            try clear c21
            try clear c21b0
            try clear c21b1
            try clear hx104_0
            try clear hx107_0
            try clear hx108_0
            try clear hx109_0
            try clear hx110_0
            try clear p104
            try clear p107
            try clear p108
            try clear p109
            try clear p110
            try clear p2
            try clear q104
            try clear q107
            try clear q108
            try clear q109
            try clear q110
            obtain ⟨kq, x78_15, rfl, HA, HJ15, HO_3, HB⟩ := hcut
            cases kq with
            | zero => exact absurd HA.out (by simp [weighbridgelaw25_RatchetAgrees.j1])
            | succ kj15 =>
              have H := HA.out
              clear HA
              simp only [weighbridgelaw25_RatchetAgrees.j1] at H
              by_cases c22 : x78_15 = true
              · subst c22
                have H1 : (none) = some r := by rw [if_pos rfl] at H; exact H
                clear H
                have H := H1
                clear H1
                exact absurd H (by simp)
              · replace c22 := Bool.eq_false_iff.mpr c22
                subst c22
                have H1 : ((weighbridgelaw25_live.f kj15).bind fun t111 => (if t111 = true then ((ratchet_Run.f t101).bind fun t112 => ((weighbridgeref25_Same.f kj15 t112 t101).bind fun t115 => (if t115 = true then ((ratchet_Back.f t101).bind fun t116 => (some ((t116.length : Int) == 0))) else (none)))) else (none))) = some r := by rw [if_neg (show ¬ (false = true) by decide)] at H; exact H
                clear H
                have H := H1
                clear H1
                replace H := Option.bind_eq_some_iff.mp H
                obtain ⟨t111, A230, H⟩ := H
                replace H : (if t111 = true then ((ratchet_Run.f t101).bind fun t112 => ((weighbridgeref25_Same.f kj15 t112 t101).bind fun t115 => (if t115 = true then ((ratchet_Back.f t101).bind fun t116 => (some ((t116.length : Int) == 0))) else (none)))) else (none)) = some r := H
                have A23 := zq3 A230
                clear A230
                by_cases c24 : t111 = true
                · subst c24
                  have H1 : ((ratchet_Run.f t101).bind fun t112 => ((weighbridgeref25_Same.f kj15 t112 t101).bind fun t115 => (if t115 = true then ((ratchet_Back.f t101).bind fun t116 => (some ((t116.length : Int) == 0))) else (none)))) = some r := by rw [if_pos rfl] at H; exact H
                  clear H
                  have H := H1
                  clear H1
                  replace H := Option.bind_eq_some_iff.mp H
                  obtain ⟨t112, A250, H⟩ := H
                  replace H : ((weighbridgeref25_Same.f kj15 t112 t101).bind fun t115 => (if t115 = true then ((ratchet_Back.f t101).bind fun t116 => (some ((t116.length : Int) == 0))) else (none))) = some r := H
                  have A25 := zq3 A250
                  clear A250
                  replace H := Option.bind_eq_some_iff.mp H
                  obtain ⟨t115, A260, H⟩ := H
                  replace H : (if t115 = true then ((ratchet_Back.f t101).bind fun t116 => (some ((t116.length : Int) == 0))) else (none)) = some r := H
                  have A26 := zq3 A260
                  clear A260
                  by_cases c27 : t115 = true
                  · subst c27
                    have H1 : ((ratchet_Back.f t101).bind fun t116 => (some ((t116.length : Int) == 0))) = some r := by rw [if_pos rfl] at H; exact H
                    clear H
                    have H := H1
                    clear H1
                    replace H := Option.bind_eq_some_iff.mp H
                    obtain ⟨t116, A280, H⟩ := H
                    replace H : (some ((t116.length : Int) == 0)) = some r := H
                    have A28 := zq3 A280
                    clear A280
                    obtain rfl := Option.some.inj H
                    go_wp2_with (first | (go_at_call 13; (with_reducible refine (weighbridgelaw25_live.calls kj15  true _ A23.out).mono ?_); rintro e w29 ⟨rfl, hb⟩; have n0_ := zq3 (Kd.R_below (by (with_reducible repeat (first | apply Kd.R_alloc | apply Kd.R_drewN | apply Kd.R_drew)); exact HO_3.out) hb); have n1_ := zq3 (below_step (by repeat (first | (with_reducible first | exact HB.out | apply zq9 | apply zq7 | apply zq8) | exact HB.out)) hb); clear HO_3; clear HB; have HO_3 := n0_; have HB := n1_; clear n0_ n1_; (try clear hb); (try clear hb2); (try clear hk); (try clear hi)) | (go_at_call 17; (with_reducible refine (ratchet_Run.calls _ _ t101 t112 _ ?side1 ?side2 A25.out).mono ?_); (case side1 => repeat (first | exact (Kd.R_reads' HO_3.out).2.2 | (with_reducible refine Kd.C_alloc ?_ _) | (with_reducible refine Kd.C_drewN ?_ _) | (with_reducible refine Kd.C_drew ?_))); (case side2 => exact (Kd.R_reads' HO_3.out).2.1); rintro e w30 ⟨v113, rfl, ho0, hb⟩; have n0_ := zq3 (Kd.R_elder' (by (with_reducible repeat (first | apply Kd.R_alloc | apply Kd.R_drewN | apply Kd.R_drew)); exact HO_3.out) (Kd.R_base ho0) hb); have n1_ := zq3 (Kd.R_lower (Kd.R_new' ho0 (Kd.R_lt (by (with_reducible repeat (first | apply Kd.R_alloc | apply Kd.R_drewN | apply Kd.R_drew)); exact HO_3.out))) (below_size (by repeat (first | (with_reducible first | exact HB.out | apply zq9 | apply zq7 | apply zq8) | exact HB.out)))); have n2_ := zq3 (below_step (by repeat (first | (with_reducible first | exact HB.out | apply zq9 | apply zq7 | apply zq8) | exact HB.out)) hb); clear HO_3; clear HB; have HO_3 := n0_; have HO114 := n1_; have HB := n2_; clear n0_ n1_ n2_; (try clear hb); (try clear hb2); (try clear hk); (try clear hi); (try clear ho0); obtain ⟨Ao31, co31, eo31⟩ := Kd.R_slice HO114.out; subst eo31) | (go_at_call 16; (with_reducible refine (weighbridgeref25_Same.calls kj15 _ _ t112 _ _ t101 true _ ?side1 ?side2 ?side3 ?side4 A26.out).mono ?_); (case side1 => repeat (first | exact (Kd.R_reads' HO114.out).2.2 | (with_reducible refine Kd.C_alloc ?_ _) | (with_reducible refine Kd.C_drewN ?_ _) | (with_reducible refine Kd.C_drew ?_))); (case side2 => exact (Kd.R_reads' HO114.out).2.1); (case side3 => repeat (first | exact (Kd.R_reads' HO_3.out).2.2 | (with_reducible refine Kd.C_alloc ?_ _) | (with_reducible refine Kd.C_drewN ?_ _) | (with_reducible refine Kd.C_drew ?_))); (case side4 => exact (Kd.R_reads' HO_3.out).2.1); rintro e w32 ⟨rfl, hb⟩; have n0_ := zq3 (Kd.R_below (by (with_reducible repeat (first | apply Kd.R_alloc | apply Kd.R_drewN | apply Kd.R_drew)); exact HO_3.out) hb); have n1_ := zq3 (Kd.R_below (by (with_reducible repeat (first | apply Kd.R_alloc | apply Kd.R_drewN | apply Kd.R_drew)); exact HO114.out) hb); have n2_ := zq3 (below_step (by repeat (first | (with_reducible first | exact HB.out | apply zq9 | apply zq7 | apply zq8) | exact HB.out)) hb); clear HO_3; clear HO114; clear HB; have HO_3 := n0_; have HO114 := n1_; have HB := n2_; clear n0_ n1_ n2_; (try clear hb); (try clear hb2); (try clear hk); (try clear hi)) | (go_at_call 20; (with_reducible refine (ratchet_Back.calls _ _ t101 t116 _ ?side1 ?side2 A28.out).mono ?_); (case side1 => repeat (first | exact (Kd.R_reads' HO_3.out).2.2 | (with_reducible refine Kd.C_alloc ?_ _) | (with_reducible refine Kd.C_drewN ?_ _) | (with_reducible refine Kd.C_drew ?_))); (case side2 => exact (Kd.R_reads' HO_3.out).2.1); rintro e w33 ⟨v117, rfl, ho0, hb⟩; have n0_ := zq3 (Kd.R_below (by (with_reducible repeat (first | apply Kd.R_alloc | apply Kd.R_drewN | apply Kd.R_drew)); exact HO_3.out) hb); have n1_ := zq3 (Kd.R_below (by (with_reducible repeat (first | apply Kd.R_alloc | apply Kd.R_drewN | apply Kd.R_drew)); exact HO114.out) hb); have n2_ := zq3 (Kd.R_lower ho0 (below_size (by repeat (first | (with_reducible first | exact HB.out | apply zq9 | apply zq7 | apply zq8) | exact HB.out)))); have n3_ := zq3 (below_step (by repeat (first | (with_reducible first | exact HB.out | apply zq9 | apply zq7 | apply zq8) | exact HB.out)) hb); clear HO_3; clear HO114; clear HB; have HO_3 := n0_; have HO114 := n1_; have HO118 := n2_; have HB := n3_; clear n0_ n1_ n2_ n3_; (try clear hb); (try clear hb2); (try clear hk); (try clear hi); (try clear ho0); obtain ⟨Ao34, co34, eo34⟩ := Kd.R_slice HO118.out; subst eo34))
                    repeat (go_quiet (first | (go_at_call 13; (with_reducible refine (weighbridgelaw25_live.calls kj15  true _ A23.out).mono ?_); rintro e w29 ⟨rfl, hb⟩; have n0_ := zq3 (Kd.R_below (by (with_reducible repeat (first | apply Kd.R_alloc | apply Kd.R_drewN | apply Kd.R_drew)); exact HO_3.out) hb); have n1_ := zq3 (below_step (by repeat (first | (with_reducible first | exact HB.out | apply zq9 | apply zq7 | apply zq8) | exact HB.out)) hb); clear HO_3; clear HB; have HO_3 := n0_; have HB := n1_; clear n0_ n1_; (try clear hb); (try clear hb2); (try clear hk); (try clear hi)) | (go_at_call 17; (with_reducible refine (ratchet_Run.calls _ _ t101 t112 _ ?side1 ?side2 A25.out).mono ?_); (case side1 => repeat (first | exact (Kd.R_reads' HO_3.out).2.2 | (with_reducible refine Kd.C_alloc ?_ _) | (with_reducible refine Kd.C_drewN ?_ _) | (with_reducible refine Kd.C_drew ?_))); (case side2 => exact (Kd.R_reads' HO_3.out).2.1); rintro e w30 ⟨v113, rfl, ho0, hb⟩; have n0_ := zq3 (Kd.R_elder' (by (with_reducible repeat (first | apply Kd.R_alloc | apply Kd.R_drewN | apply Kd.R_drew)); exact HO_3.out) (Kd.R_base ho0) hb); have n1_ := zq3 (Kd.R_lower (Kd.R_new' ho0 (Kd.R_lt (by (with_reducible repeat (first | apply Kd.R_alloc | apply Kd.R_drewN | apply Kd.R_drew)); exact HO_3.out))) (below_size (by repeat (first | (with_reducible first | exact HB.out | apply zq9 | apply zq7 | apply zq8) | exact HB.out)))); have n2_ := zq3 (below_step (by repeat (first | (with_reducible first | exact HB.out | apply zq9 | apply zq7 | apply zq8) | exact HB.out)) hb); clear HO_3; clear HB; have HO_3 := n0_; have HO114 := n1_; have HB := n2_; clear n0_ n1_ n2_; (try clear hb); (try clear hb2); (try clear hk); (try clear hi); (try clear ho0); obtain ⟨Ao31, co31, eo31⟩ := Kd.R_slice HO114.out; subst eo31) | (go_at_call 16; (with_reducible refine (weighbridgeref25_Same.calls kj15 _ _ t112 _ _ t101 true _ ?side1 ?side2 ?side3 ?side4 A26.out).mono ?_); (case side1 => repeat (first | exact (Kd.R_reads' HO114.out).2.2 | (with_reducible refine Kd.C_alloc ?_ _) | (with_reducible refine Kd.C_drewN ?_ _) | (with_reducible refine Kd.C_drew ?_))); (case side2 => exact (Kd.R_reads' HO114.out).2.1); (case side3 => repeat (first | exact (Kd.R_reads' HO_3.out).2.2 | (with_reducible refine Kd.C_alloc ?_ _) | (with_reducible refine Kd.C_drewN ?_ _) | (with_reducible refine Kd.C_drew ?_))); (case side4 => exact (Kd.R_reads' HO_3.out).2.1); rintro e w32 ⟨rfl, hb⟩; have n0_ := zq3 (Kd.R_below (by (with_reducible repeat (first | apply Kd.R_alloc | apply Kd.R_drewN | apply Kd.R_drew)); exact HO_3.out) hb); have n1_ := zq3 (Kd.R_below (by (with_reducible repeat (first | apply Kd.R_alloc | apply Kd.R_drewN | apply Kd.R_drew)); exact HO114.out) hb); have n2_ := zq3 (below_step (by repeat (first | (with_reducible first | exact HB.out | apply zq9 | apply zq7 | apply zq8) | exact HB.out)) hb); clear HO_3; clear HO114; clear HB; have HO_3 := n0_; have HO114 := n1_; have HB := n2_; clear n0_ n1_ n2_; (try clear hb); (try clear hb2); (try clear hk); (try clear hi)) | (go_at_call 20; (with_reducible refine (ratchet_Back.calls _ _ t101 t116 _ ?side1 ?side2 A28.out).mono ?_); (case side1 => repeat (first | exact (Kd.R_reads' HO_3.out).2.2 | (with_reducible refine Kd.C_alloc ?_ _) | (with_reducible refine Kd.C_drewN ?_ _) | (with_reducible refine Kd.C_drew ?_))); (case side2 => exact (Kd.R_reads' HO_3.out).2.1); rintro e w33 ⟨v117, rfl, ho0, hb⟩; have n0_ := zq3 (Kd.R_below (by (with_reducible repeat (first | apply Kd.R_alloc | apply Kd.R_drewN | apply Kd.R_drew)); exact HO_3.out) hb); have n1_ := zq3 (Kd.R_below (by (with_reducible repeat (first | apply Kd.R_alloc | apply Kd.R_drewN | apply Kd.R_drew)); exact HO114.out) hb); have n2_ := zq3 (Kd.R_lower ho0 (below_size (by repeat (first | (with_reducible first | exact HB.out | apply zq9 | apply zq7 | apply zq8) | exact HB.out)))); have n3_ := zq3 (below_step (by repeat (first | (with_reducible first | exact HB.out | apply zq9 | apply zq7 | apply zq8) | exact HB.out)) hb); clear HO_3; clear HO114; clear HB; have HO_3 := n0_; have HO114 := n1_; have HO118 := n2_; have HB := n3_; clear n0_ n1_ n2_ n3_; (try clear hb); (try clear hb2); (try clear hk); (try clear hi); (try clear ho0); obtain ⟨Ao34, co34, eo34⟩ := Kd.R_slice HO118.out; subst eo34)); try go_wp2_with (first | (go_at_call 13; (with_reducible refine (weighbridgelaw25_live.calls kj15  true _ A23.out).mono ?_); rintro e w29 ⟨rfl, hb⟩; have n0_ := zq3 (Kd.R_below (by (with_reducible repeat (first | apply Kd.R_alloc | apply Kd.R_drewN | apply Kd.R_drew)); exact HO_3.out) hb); have n1_ := zq3 (below_step (by repeat (first | (with_reducible first | exact HB.out | apply zq9 | apply zq7 | apply zq8) | exact HB.out)) hb); clear HO_3; clear HB; have HO_3 := n0_; have HB := n1_; clear n0_ n1_; (try clear hb); (try clear hb2); (try clear hk); (try clear hi)) | (go_at_call 17; (with_reducible refine (ratchet_Run.calls _ _ t101 t112 _ ?side1 ?side2 A25.out).mono ?_); (case side1 => repeat (first | exact (Kd.R_reads' HO_3.out).2.2 | (with_reducible refine Kd.C_alloc ?_ _) | (with_reducible refine Kd.C_drewN ?_ _) | (with_reducible refine Kd.C_drew ?_))); (case side2 => exact (Kd.R_reads' HO_3.out).2.1); rintro e w30 ⟨v113, rfl, ho0, hb⟩; have n0_ := zq3 (Kd.R_elder' (by (with_reducible repeat (first | apply Kd.R_alloc | apply Kd.R_drewN | apply Kd.R_drew)); exact HO_3.out) (Kd.R_base ho0) hb); have n1_ := zq3 (Kd.R_lower (Kd.R_new' ho0 (Kd.R_lt (by (with_reducible repeat (first | apply Kd.R_alloc | apply Kd.R_drewN | apply Kd.R_drew)); exact HO_3.out))) (below_size (by repeat (first | (with_reducible first | exact HB.out | apply zq9 | apply zq7 | apply zq8) | exact HB.out)))); have n2_ := zq3 (below_step (by repeat (first | (with_reducible first | exact HB.out | apply zq9 | apply zq7 | apply zq8) | exact HB.out)) hb); clear HO_3; clear HB; have HO_3 := n0_; have HO114 := n1_; have HB := n2_; clear n0_ n1_ n2_; (try clear hb); (try clear hb2); (try clear hk); (try clear hi); (try clear ho0); obtain ⟨Ao31, co31, eo31⟩ := Kd.R_slice HO114.out; subst eo31) | (go_at_call 16; (with_reducible refine (weighbridgeref25_Same.calls kj15 _ _ t112 _ _ t101 true _ ?side1 ?side2 ?side3 ?side4 A26.out).mono ?_); (case side1 => repeat (first | exact (Kd.R_reads' HO114.out).2.2 | (with_reducible refine Kd.C_alloc ?_ _) | (with_reducible refine Kd.C_drewN ?_ _) | (with_reducible refine Kd.C_drew ?_))); (case side2 => exact (Kd.R_reads' HO114.out).2.1); (case side3 => repeat (first | exact (Kd.R_reads' HO_3.out).2.2 | (with_reducible refine Kd.C_alloc ?_ _) | (with_reducible refine Kd.C_drewN ?_ _) | (with_reducible refine Kd.C_drew ?_))); (case side4 => exact (Kd.R_reads' HO_3.out).2.1); rintro e w32 ⟨rfl, hb⟩; have n0_ := zq3 (Kd.R_below (by (with_reducible repeat (first | apply Kd.R_alloc | apply Kd.R_drewN | apply Kd.R_drew)); exact HO_3.out) hb); have n1_ := zq3 (Kd.R_below (by (with_reducible repeat (first | apply Kd.R_alloc | apply Kd.R_drewN | apply Kd.R_drew)); exact HO114.out) hb); have n2_ := zq3 (below_step (by repeat (first | (with_reducible first | exact HB.out | apply zq9 | apply zq7 | apply zq8) | exact HB.out)) hb); clear HO_3; clear HO114; clear HB; have HO_3 := n0_; have HO114 := n1_; have HB := n2_; clear n0_ n1_ n2_; (try clear hb); (try clear hb2); (try clear hk); (try clear hi)) | (go_at_call 20; (with_reducible refine (ratchet_Back.calls _ _ t101 t116 _ ?side1 ?side2 A28.out).mono ?_); (case side1 => repeat (first | exact (Kd.R_reads' HO_3.out).2.2 | (with_reducible refine Kd.C_alloc ?_ _) | (with_reducible refine Kd.C_drewN ?_ _) | (with_reducible refine Kd.C_drew ?_))); (case side2 => exact (Kd.R_reads' HO_3.out).2.1); rintro e w33 ⟨v117, rfl, ho0, hb⟩; have n0_ := zq3 (Kd.R_below (by (with_reducible repeat (first | apply Kd.R_alloc | apply Kd.R_drewN | apply Kd.R_drew)); exact HO_3.out) hb); have n1_ := zq3 (Kd.R_below (by (with_reducible repeat (first | apply Kd.R_alloc | apply Kd.R_drewN | apply Kd.R_drew)); exact HO114.out) hb); have n2_ := zq3 (Kd.R_lower ho0 (below_size (by repeat (first | (with_reducible first | exact HB.out | apply zq9 | apply zq7 | apply zq8) | exact HB.out)))); have n3_ := zq3 (below_step (by repeat (first | (with_reducible first | exact HB.out | apply zq9 | apply zq7 | apply zq8) | exact HB.out)) hb); clear HO_3; clear HO114; clear HB; have HO_3 := n0_; have HO114 := n1_; have HO118 := n2_; have HB := n3_; clear n0_ n1_ n2_ n3_; (try clear hb); (try clear hb2); (try clear hk); (try clear hi); (try clear ho0); obtain ⟨Ao34, co34, eo34⟩ := Kd.R_slice HO118.out; subst eo34)))
                    go_ret
                    exact ⟨by first | rfl | (simp [errW_none, errW_some] <;> rfl) | (simp [*, errW_none, errW_some] <;> rfl), by repeat (first | (with_reducible first | exact HB.out | apply zq9 | apply zq7 | apply zq8) | exact HB.out)⟩
                  · replace c27 := Bool.eq_false_iff.mpr c27
                    subst c27
                    have H1 : (none) = some r := by rw [if_neg (show ¬ (false = true) by decide)] at H; exact H
                    clear H
                    have H := H1
                    clear H1
                    exact absurd H (by simp)
                · replace c24 := Bool.eq_false_iff.mpr c24
                  subst c24
                  have H1 : (none) = some r := by rw [if_neg (show ¬ (false = true) by decide)] at H; exact H
                  clear H
                  have H := H1
                  clear H1
                  exact absurd H (by simp)
  · rw [if_neg c3] at H
    exact absurd H (by simp)

/-- THE ONE PURE STATEMENT of weighbridgelaw25_RatchetAgrees: yours. -/
def weighbridgelaw25_RatchetAgrees.Pure : Prop := ∀ (l0 : List Int), l0.length ≤ maxLen → l0.length * 8 ≤ 140737488351232 → (∀ x ∈ l0, (Lit.int .u64 x).wf = true) → ∃ k, weighbridgelaw25_RatchetAgrees.f k l0 = some true
theorem weighbridgelaw25_RatchetAgrees.walk (P : weighbridgelaw25_RatchetAgrees.Pure) (a0 : Option Addr) (len0 cap0 : Nat) (z0 : List Int) (w : World) (w0 : (a0 = none ∧ len0 = 0 ∧ cap0 = 0 ∧ z0 = []) ∨ ∃ x, a0 = some x ∧ len0 ≤ cap0 ∧ cap0 ≤ maxLen ∧ z0.length = cap0 ∧ (∀ i, i < z0.length → w.cell? (x.add i) = some (.int .u64 (z0.getD i 0))) ∧ ∀ n ∈ z0, (Lit.int .u64 n).wf = true) (y0 : len0 * 8 ≤ 140737488351232) :
    Calls Try.prog 5 #[.slice a0 len0 cap0] w fun e w' => e = .returned (.bool true) ∧ Below w.heap.size w w' := by
  obtain ⟨l0, rfl, hr0, hm0, hw0, hc0⟩ := ReadsInt.ofRowC w0
  obtain ⟨k, h⟩ := P l0 hm0 y0 hw0
  refine (weighbridgelaw25_RatchetAgrees.calls k _ _ l0 true w (Kd.C_of_reads (d := (0 : Int)) (h1 := fun _ => rfl) hr0) hc0 h).mono ?_
  rintro e w' ⟨rfl, hd⟩
  exact ⟨rfl, hd⟩

end Go.Proofs.Ytgidglbkmklajaa.P
