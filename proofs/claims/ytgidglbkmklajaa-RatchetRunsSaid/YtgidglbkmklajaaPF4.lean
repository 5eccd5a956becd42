/- Printed out of the translation: what functions compute, and the proofs that the code computes just this. -/
import Derived.Test.YtgidglbkmklajaaP0
import Derived.Test.YtgidglbkmklajaaPF16
import Derived.Test.YtgidglbkmklajaaPF19
import Derived.Test.YtgidglbkmklajaaPF13
import Derived.Test.YtgidglbkmklajaaPF18
import Derived.Test.YtgidglbkmklajaaPF15
import Derived.Test.YtgidglbkmklajaaPF21
import Derived.Test.YtgidglbkmklajaaRatchet
namespace Go.Proofs.Ytgidglbkmklajaa.P
open Go.RowKit Go.Proofs.YtgidglbkmklajaaW.PrintWords Go.Proofs.YtgidglbkmklajaaW.PrintLast Go.Proofs.YtgidglbkmklajaaW.PrintMore
attribute [local go_sem] max2_int min2_int max_two min_two max_three min_three max_four min_four   -- for this text's walks alone
set_option linter.unusedVariables false
set_option linter.unusedSimpArgs false

/-! ### weighbridgelaw25_RatchetRuns: function 4 -/
def weighbridgelaw25_RatchetRuns.f (k : Nat) (l0 : List Int) : Option (Bool) := if (l0.length : Int) > 300 then ((weighbridgelaw25_live.f k).bind fun t101 => (some t101)) else ((ratchet_Longest.f l0).bind fun bt102 => ((weighbridgeref25_Longest.f k l0).bind fun bt104 => ((weighbridgelaw25_live.f k).bind fun t106 => (if t106 = true then ((ratchet_Run.f l0).bind fun t107 => ((weighbridgeref25_Run.f k l0).bind fun t110 => ((weighbridgeref25_Same.f k t107 t110).bind fun t113 => (if t113 = true then ((ratchet_Back.f l0).bind fun t114 => ((weighbridgeref25_Back.f k l0).bind fun t117 => ((weighbridgeref08_SameInts.f k t114 t117).bind fun t120 => (if t120 = true then (if bt102.1 = bt104.1 then (some (bt102.2 == bt104.2)) else (none)) else (none))))) else (none))))) else (none)))))
set_option maxHeartbeats 8000000 in
set_option maxRecDepth 100000 in
theorem weighbridgelaw25_RatchetRuns.calls (k : Nat) (A0 : Option Addr) (c0 : Nat) (l0 : List Int) (r : Bool) (w : World) (hr0 : Kd.C (Kd.int .u64) w A0 l0.length l0) (hc0 : l0.length ≤ c0) (h : weighbridgelaw25_RatchetRuns.f k l0 = some r) :
    Calls Try.prog 4 #[.slice A0 l0.length c0] w fun e w' => e = .returned (.bool r) ∧ Below w.heap.size w w' := by
  have HR0 := zq3 hr0
  have HC0 := zq3 hc0
  clear hr0 hc0
  have HB := zq3 (Below.refl w.heap.size w)
  have H : (if (l0.length : Int) > 300 then ((weighbridgelaw25_live.f k).bind fun t101 => (some t101)) else ((ratchet_Longest.f l0).bind fun bt102 => ((weighbridgeref25_Longest.f k l0).bind fun bt104 => ((weighbridgelaw25_live.f k).bind fun t106 => (if t106 = true then ((ratchet_Run.f l0).bind fun t107 => ((weighbridgeref25_Run.f k l0).bind fun t110 => ((weighbridgeref25_Same.f k t107 t110).bind fun t113 => (if t113 = true then ((ratchet_Back.f l0).bind fun t114 => ((weighbridgeref25_Back.f k l0).bind fun t117 => ((weighbridgeref08_SameInts.f k t114 t117).bind fun t120 => (if t120 = true then (if bt102.1 = bt104.1 then (some (bt102.2 == bt104.2)) else (none)) else (none))))) else (none))))) else (none)))))) = some r := h
  clear h
  by_cases c2 : (l0.length : Int) > 300
  · rw [if_pos c2] at H
    have c2b0 : decide (300 < (l0.length : Int)) = true := decide_eq_true c2
    have c2b1 : decide (300 < l0.length) = true := decide_eq_true (by omega)
    clear c2
    replace H := Option.bind_eq_some_iff.mp H
    obtain ⟨t101, A30, H⟩ := H
    replace H : (some t101) = some r := H
    have A3 := zq3 A30
    clear A30
    obtain rfl := Option.some.inj H
    go_enter Try.func4, Try.ntmps4
    go_wp2_with (first | ((with_reducible refine gate_callee (f := 13) rfl ?_); refine goesL_ (some 10) rfl rfl Try.func13 (by kernel_rfl) rfl #[] rfl (by (try simp only [List.map_toArray, List.map_cons, List.map_nil]); first | done | rfl | (simp only [List.length_drop, List.length_take]; rfl)) ?_; (with_reducible refine (weighbridgelaw25_live.calls k  t101 _ A3.out).mono ?_); rintro e w4 ⟨rfl, hb⟩; refine ⟨_, rfl, ?_⟩; have n0_ := zq3 (below_step (by repeat (first | (with_reducible first | exact HB.out | apply zq9 | apply zq7 | apply zq8) | exact HB.out)) hb); clear HB; have HB := n0_; clear n0_; (try clear hb); (try clear hb2); (try clear hk); (try clear hi)))
    go_ret
    exact ⟨by first | rfl | (simp [errW_none, errW_some] <;> rfl) | (simp [*, errW_none, errW_some] <;> rfl), by repeat (first | (with_reducible first | exact HB.out | apply zq9 | apply zq7 | apply zq8) | exact HB.out)⟩
  · rw [if_neg c2] at H
    have c2b0 : decide (300 < (l0.length : Int)) = false := decide_eq_false c2
    have c2b1 : decide (300 < l0.length) = false := decide_eq_false (by omega)
    clear c2
    replace H := Option.bind_eq_some_iff.mp H
    obtain ⟨⟨t102, t103⟩, A50, H⟩ := H
    replace H : ((weighbridgeref25_Longest.f k l0).bind fun bt104 => ((weighbridgelaw25_live.f k).bind fun t106 => (if t106 = true then ((ratchet_Run.f l0).bind fun t107 => ((weighbridgeref25_Run.f k l0).bind fun t110 => ((weighbridgeref25_Same.f k t107 t110).bind fun t113 => (if t113 = true then ((ratchet_Back.f l0).bind fun t114 => ((weighbridgeref25_Back.f k l0).bind fun t117 => ((weighbridgeref08_SameInts.f k t114 t117).bind fun t120 => (if t120 = true then (if t102 = bt104.1 then (some (t103 == bt104.2)) else (none)) else (none))))) else (none))))) else (none)))) = some r := H
    have A5 := zq3 A50
    clear A50
    replace H := Option.bind_eq_some_iff.mp H
    obtain ⟨⟨t104, t105⟩, A60, H⟩ := H
    replace H : ((weighbridgelaw25_live.f k).bind fun t106 => (if t106 = true then ((ratchet_Run.f l0).bind fun t107 => ((weighbridgeref25_Run.f k l0).bind fun t110 => ((weighbridgeref25_Same.f k t107 t110).bind fun t113 => (if t113 = true then ((ratchet_Back.f l0).bind fun t114 => ((weighbridgeref25_Back.f k l0).bind fun t117 => ((weighbridgeref08_SameInts.f k t114 t117).bind fun t120 => (if t120 = true then (if t102 = t104 then (some (t103 == t105)) else (none)) else (none))))) else (none))))) else (none))) = some r := H
    have A6 := zq3 A60
    clear A60
    replace H := Option.bind_eq_some_iff.mp H
    obtain ⟨t106, A70, H⟩ := H
    replace H : (if t106 = true then ((ratchet_Run.f l0).bind fun t107 => ((weighbridgeref25_Run.f k l0).bind fun t110 => ((weighbridgeref25_Same.f k t107 t110).bind fun t113 => (if t113 = true then ((ratchet_Back.f l0).bind fun t114 => ((weighbridgeref25_Back.f k l0).bind fun t117 => ((weighbridgeref08_SameInts.f k t114 t117).bind fun t120 => (if t120 = true then (if t102 = t104 then (some (t103 == t105)) else (none)) else (none))))) else (none))))) else (none)) = some r := H
    have A7 := zq3 A70
    clear A70
    by_cases c8 : t106 = true
    · subst c8
      have H1 : ((ratchet_Run.f l0).bind fun t107 => ((weighbridgeref25_Run.f k l0).bind fun t110 => ((weighbridgeref25_Same.f k t107 t110).bind fun t113 => (if t113 = true then ((ratchet_Back.f l0).bind fun t114 => ((weighbridgeref25_Back.f k l0).bind fun t117 => ((weighbridgeref08_SameInts.f k t114 t117).bind fun t120 => (if t120 = true then (if t102 = t104 then (some (t103 == t105)) else (none)) else (none))))) else (none))))) = some r := by rw [if_pos rfl] at H; exact H
      clear H
      have H := H1
      clear H1
      replace H := Option.bind_eq_some_iff.mp H
      obtain ⟨t107, A90, H⟩ := H
      replace H : ((weighbridgeref25_Run.f k l0).bind fun t110 => ((weighbridgeref25_Same.f k t107 t110).bind fun t113 => (if t113 = true then ((ratchet_Back.f l0).bind fun t114 => ((weighbridgeref25_Back.f k l0).bind fun t117 => ((weighbridgeref08_SameInts.f k t114 t117).bind fun t120 => (if t120 = true then (if t102 = t104 then (some (t103 == t105)) else (none)) else (none))))) else (none)))) = some r := H
      have A9 := zq3 A90
      clear A90
      replace H := Option.bind_eq_some_iff.mp H
      obtain ⟨t110, A100, H⟩ := H
      replace H : ((weighbridgeref25_Same.f k t107 t110).bind fun t113 => (if t113 = true then ((ratchet_Back.f l0).bind fun t114 => ((weighbridgeref25_Back.f k l0).bind fun t117 => ((weighbridgeref08_SameInts.f k t114 t117).bind fun t120 => (if t120 = true then (if t102 = t104 then (some (t103 == t105)) else (none)) else (none))))) else (none))) = some r := H
      have A10 := zq3 A100
      clear A100
      replace H := Option.bind_eq_some_iff.mp H
      obtain ⟨t113, A110, H⟩ := H
      replace H : (if t113 = true then ((ratchet_Back.f l0).bind fun t114 => ((weighbridgeref25_Back.f k l0).bind fun t117 => ((weighbridgeref08_SameInts.f k t114 t117).bind fun t120 => (if t120 = true then (if t102 = t104 then (some (t103 == t105)) else (none)) else (none))))) else (none)) = some r := H
      have A11 := zq3 A110
      clear A110
      by_cases c12 : t113 = true
      · subst c12
        have H1 : ((ratchet_Back.f l0).bind fun t114 => ((weighbridgeref25_Back.f k l0).bind fun t117 => ((weighbridgeref08_SameInts.f k t114 t117).bind fun t120 => (if t120 = true then (if t102 = t104 then (some (t103 == t105)) else (none)) else (none))))) = some r := by rw [if_pos rfl] at H; exact H
        clear H
        have H := H1
        clear H1
        replace H := Option.bind_eq_some_iff.mp H
        obtain ⟨t114, A130, H⟩ := H
        replace H : ((weighbridgeref25_Back.f k l0).bind fun t117 => ((weighbridgeref08_SameInts.f k t114 t117).bind fun t120 => (if t120 = true then (if t102 = t104 then (some (t103 == t105)) else (none)) else (none)))) = some r := H
        have A13 := zq3 A130
        clear A130
        replace H := Option.bind_eq_some_iff.mp H
        obtain ⟨t117, A140, H⟩ := H
        replace H : ((weighbridgeref08_SameInts.f k t114 t117).bind fun t120 => (if t120 = true then (if t102 = t104 then (some (t103 == t105)) else (none)) else (none))) = some r := H
        have A14 := zq3 A140
        clear A140
        replace H := Option.bind_eq_some_iff.mp H
        obtain ⟨t120, A150, H⟩ := H
        replace H : (if t120 = true then (if t102 = t104 then (some (t103 == t105)) else (none)) else (none)) = some r := H
        have A15 := zq3 A150
        clear A150
        by_cases c16 : t120 = true
        · subst c16
          have H1 : (if t102 = t104 then (some (t103 == t105)) else (none)) = some r := by rw [if_pos rfl] at H; exact H
          clear H
          have H := H1
          clear H1
          by_cases c17 : t102 = t104
          · rw [if_pos c17] at H
            have c17b0 : (t102 == t104) = true := beq_iff_eq.mpr c17
            have c17b1 : (t102 != t104) = false := bne_eq_false_iff_eq.mpr c17
            clear c17
            obtain rfl := Option.some.inj H
            go_enter Try.func4, Try.ntmps4
            go_wp2_with (first | ((with_reducible refine gate_callee (f := 14) rfl ?_); refine goesL_ (some 13) rfl rfl Try.func14 (by kernel_rfl) rfl #[.slice A0 l0.length c0] rfl (by (try simp only [List.map_toArray, List.map_cons, List.map_nil]); first | done | rfl | (simp only [List.length_drop, List.length_take]; rfl)) ?_; (with_reducible refine (ratchet_Longest.calls _ _ l0 t102 t103 _ ?side1 ?side2 A5.out).mono ?_); (case side1 => repeat (first | exact HR0.out | (with_reducible refine Kd.C_alloc ?_ _) | (with_reducible refine Kd.C_drewN ?_ _) | (with_reducible refine Kd.C_drew ?_))); (case side2 => exact HC0.out); rintro e w18 ⟨rfl, hb⟩; refine ⟨_, rfl, ?_⟩; have n0_ := zq3 (below_step (by repeat (first | (with_reducible first | exact HB.out | apply zq9 | apply zq7 | apply zq8) | exact HB.out)) hb); clear HB; have HB := n0_; clear n0_; (try clear hb); (try clear hb2); (try clear hk); (try clear hi)) | ((with_reducible refine gate_callee (f := 15) rfl ?_); refine goesL_ (some 18) rfl rfl Try.func15 (by kernel_rfl) rfl #[.slice A0 l0.length c0] rfl (by (try simp only [List.map_toArray, List.map_cons, List.map_nil]); first | done | rfl | (simp only [List.length_drop, List.length_take]; rfl)) ?_; (with_reducible refine (weighbridgeref25_Longest.calls k _ _ l0 t104 t105 _ ?side1 ?side2 A6.out).mono ?_); (case side1 => repeat (first | exact (Kd.C_below HR0.out HB.out) | (with_reducible refine Kd.C_alloc ?_ _) | (with_reducible refine Kd.C_drewN ?_ _) | (with_reducible refine Kd.C_drew ?_))); (case side2 => exact HC0.out); rintro e w19 ⟨rfl, hb⟩; refine ⟨_, rfl, ?_⟩; have n0_ := zq3 (below_step (by repeat (first | (with_reducible first | exact HB.out | apply zq9 | apply zq7 | apply zq8) | exact HB.out)) hb); clear HB; have HB := n0_; clear n0_; (try clear hb); (try clear hb2); (try clear hk); (try clear hi)) | ((with_reducible refine gate_callee (f := 13) rfl ?_); refine goesL_ (some 21) rfl rfl Try.func13 (by kernel_rfl) rfl #[] rfl (by (try simp only [List.map_toArray, List.map_cons, List.map_nil]); first | done | rfl | (simp only [List.length_drop, List.length_take]; rfl)) ?_; (with_reducible refine (weighbridgelaw25_live.calls k  true _ A7.out).mono ?_); rintro e w20 ⟨rfl, hb⟩; refine ⟨_, rfl, ?_⟩; have n0_ := zq3 (below_step (by repeat (first | (with_reducible first | exact HB.out | apply zq9 | apply zq7 | apply zq8) | exact HB.out)) hb); clear HB; have HB := n0_; clear n0_; (try clear hb); (try clear hb2); (try clear hk); (try clear hi)) | (go_at_call 17; (with_reducible refine (ratchet_Run.calls _ _ l0 t107 _ ?side1 ?side2 A9.out).mono ?_); (case side1 => repeat (first | exact (Kd.C_below HR0.out HB.out) | (with_reducible refine Kd.C_alloc ?_ _) | (with_reducible refine Kd.C_drewN ?_ _) | (with_reducible refine Kd.C_drew ?_))); (case side2 => exact HC0.out); rintro e w21 ⟨v108, rfl, ho0, hb⟩; have n0_ := zq3 (Kd.R_lower ho0 (below_size (by repeat (first | (with_reducible first | exact HB.out | apply zq9 | apply zq7 | apply zq8) | exact HB.out)))); have n1_ := zq3 (below_step (by repeat (first | (with_reducible first | exact HB.out | apply zq9 | apply zq7 | apply zq8) | exact HB.out)) hb); clear HB; have HO109 := n0_; have HB := n1_; clear n0_ n1_; (try clear hb); (try clear hb2); (try clear hk); (try clear hi); (try clear ho0)) | (go_at_call 18; (with_reducible refine (weighbridgeref25_Run.calls k _ _ l0 t110 _ ?side1 ?side2 A10.out).mono ?_); (case side1 => repeat (first | exact (Kd.C_below HR0.out HB.out) | (with_reducible refine Kd.C_alloc ?_ _) | (with_reducible refine Kd.C_drewN ?_ _) | (with_reducible refine Kd.C_drew ?_))); (case side2 => exact HC0.out); rintro e w22 ⟨v111, rfl, ho0, hb⟩; have n0_ := zq3 (Kd.R_elder' (by (with_reducible repeat (first | apply Kd.R_alloc | apply Kd.R_drewN | apply Kd.R_drew)); exact HO109.out) (Kd.R_base ho0) hb); have n1_ := zq3 (Kd.R_lower (Kd.R_new' ho0 (Kd.R_lt (by (with_reducible repeat (first | apply Kd.R_alloc | apply Kd.R_drewN | apply Kd.R_drew)); exact HO109.out))) (below_size (by repeat (first | (with_reducible first | exact HB.out | apply zq9 | apply zq7 | apply zq8) | exact HB.out)))); have n2_ := zq3 (below_step (by repeat (first | (with_reducible first | exact HB.out | apply zq9 | apply zq7 | apply zq8) | exact HB.out)) hb); clear HO109; clear HB; have HO109 := n0_; have HO112 := n1_; have HB := n2_; clear n0_ n1_ n2_; (try clear hb); (try clear hb2); (try clear hk); (try clear hi); (try clear ho0); obtain ⟨Ao23, co23, eo23⟩ := Kd.R_slice HO109.out; subst eo23; obtain ⟨Ao24, co24, eo24⟩ := Kd.R_slice HO112.out; subst eo24) | (go_at_call 16; (with_reducible refine (weighbridgeref25_Same.calls k _ _ t107 _ _ t110 true _ ?side1 ?side2 ?side3 ?side4 A11.out).mono ?_); (case side1 => repeat (first | exact (Kd.R_reads' HO109.out).2.2 | (with_reducible refine Kd.C_alloc ?_ _) | (with_reducible refine Kd.C_drewN ?_ _) | (with_reducible refine Kd.C_drew ?_))); (case side2 => exact (Kd.R_reads' HO109.out).2.1); (case side3 => repeat (first | exact (Kd.R_reads' HO112.out).2.2 | (with_reducible refine Kd.C_alloc ?_ _) | (with_reducible refine Kd.C_drewN ?_ _) | (with_reducible refine Kd.C_drew ?_))); (case side4 => exact (Kd.R_reads' HO112.out).2.1); rintro e w25 ⟨rfl, hb⟩; have n0_ := zq3 (Kd.R_below (by (with_reducible repeat (first | apply Kd.R_alloc | apply Kd.R_drewN | apply Kd.R_drew)); exact HO109.out) hb); have n1_ := zq3 (Kd.R_below (by (with_reducible repeat (first | apply Kd.R_alloc | apply Kd.R_drewN | apply Kd.R_drew)); exact HO112.out) hb); have n2_ := zq3 (below_step (by repeat (first | (with_reducible first | exact HB.out | apply zq9 | apply zq7 | apply zq8) | exact HB.out)) hb); clear HO109; clear HO112; clear HB; have HO109 := n0_; have HO112 := n1_; have HB := n2_; clear n0_ n1_ n2_; (try clear hb); (try clear hb2); (try clear hk); (try clear hi)) | (go_at_call 20; (with_reducible refine (ratchet_Back.calls _ _ l0 t114 _ ?side1 ?side2 A13.out).mono ?_); (case side1 => repeat (first | exact (Kd.C_below HR0.out HB.out) | (with_reducible refine Kd.C_alloc ?_ _) | (with_reducible refine Kd.C_drewN ?_ _) | (with_reducible refine Kd.C_drew ?_))); (case side2 => exact HC0.out); rintro e w26 ⟨v115, rfl, ho0, hb⟩; have n0_ := zq3 (Kd.R_below (by (with_reducible repeat (first | apply Kd.R_alloc | apply Kd.R_drewN | apply Kd.R_drew)); exact HO109.out) hb); have n1_ := zq3 (Kd.R_below (by (with_reducible repeat (first | apply Kd.R_alloc | apply Kd.R_drewN | apply Kd.R_drew)); exact HO112.out) hb); have n2_ := zq3 (Kd.R_lower ho0 (below_size (by repeat (first | (with_reducible first | exact HB.out | apply zq9 | apply zq7 | apply zq8) | exact HB.out)))); have n3_ := zq3 (below_step (by repeat (first | (with_reducible first | exact HB.out | apply zq9 | apply zq7 | apply zq8) | exact HB.out)) hb); clear HO109; clear HO112; clear HB; have HO109 := n0_; have HO112 := n1_; have HO116 := n2_; have HB := n3_; clear n0_ n1_ n2_ n3_; (try clear hb); (try clear hb2); (try clear hk); (try clear hi); (try clear ho0)) | (go_at_call 21; (with_reducible refine (weighbridgeref25_Back.calls k _ _ l0 t117 _ ?side1 ?side2 A14.out).mono ?_); (case side1 => repeat (first | exact (Kd.C_below HR0.out HB.out) | (with_reducible refine Kd.C_alloc ?_ _) | (with_reducible refine Kd.C_drewN ?_ _) | (with_reducible refine Kd.C_drew ?_))); (case side2 => exact HC0.out); rintro e w27 ⟨v118, rfl, ho0, hb⟩; have n0_ := zq3 (Kd.R_below (by (with_reducible repeat (first | apply Kd.R_alloc | apply Kd.R_drewN | apply Kd.R_drew)); exact HO109.out) hb); have n1_ := zq3 (Kd.R_below (by (with_reducible repeat (first | apply Kd.R_alloc | apply Kd.R_drewN | apply Kd.R_drew)); exact HO112.out) hb); have n2_ := zq3 (Kd.R_elder' (by (with_reducible repeat (first | apply Kd.R_alloc | apply Kd.R_drewN | apply Kd.R_drew)); exact HO116.out) (Kd.R_base ho0) hb); have n3_ := zq3 (Kd.R_lower (Kd.R_new' ho0 (Kd.R_lt (by (with_reducible repeat (first | apply Kd.R_alloc | apply Kd.R_drewN | apply Kd.R_drew)); exact HO116.out))) (below_size (by repeat (first | (with_reducible first | exact HB.out | apply zq9 | apply zq7 | apply zq8) | exact HB.out)))); have n4_ := zq3 (below_step (by repeat (first | (with_reducible first | exact HB.out | apply zq9 | apply zq7 | apply zq8) | exact HB.out)) hb); clear HO109; clear HO112; clear HO116; clear HB; have HO109 := n0_; have HO112 := n1_; have HO116 := n2_; have HO119 := n3_; have HB := n4_; clear n0_ n1_ n2_ n3_ n4_; (try clear hb); (try clear hb2); (try clear hk); (try clear hi); (try clear ho0); obtain ⟨Ao28, co28, eo28⟩ := Kd.R_slice HO116.out; subst eo28; obtain ⟨Ao29, co29, eo29⟩ := Kd.R_slice HO119.out; subst eo29) | (go_at_call 19; (with_reducible refine (weighbridgeref08_SameInts.calls k _ _ t114 _ _ t117 true _ ?side1 ?side2 ?side3 ?side4 A15.out).mono ?_); (case side1 => repeat (first | exact (Kd.R_reads' HO116.out).2.2 | (with_reducible refine Kd.C_alloc ?_ _) | (with_reducible refine Kd.C_drewN ?_ _) | (with_reducible refine Kd.C_drew ?_))); (case side2 => exact (Kd.R_reads' HO116.out).2.1); (case side3 => repeat (first | exact (Kd.R_reads' HO119.out).2.2 | (with_reducible refine Kd.C_alloc ?_ _) | (with_reducible refine Kd.C_drewN ?_ _) | (with_reducible refine Kd.C_drew ?_))); (case side4 => exact (Kd.R_reads' HO119.out).2.1); rintro e w30 ⟨rfl, hb⟩; have n0_ := zq3 (Kd.R_below (by (with_reducible repeat (first | apply Kd.R_alloc | apply Kd.R_drewN | apply Kd.R_drew)); exact HO109.out) hb); have n1_ := zq3 (Kd.R_below (by (with_reducible repeat (first | apply Kd.R_alloc | apply Kd.R_drewN | apply Kd.R_drew)); exact HO112.out) hb); have n2_ := zq3 (Kd.R_below (by (with_reducible repeat (first | apply Kd.R_alloc | apply Kd.R_drewN | apply Kd.R_drew)); exact HO116.out) hb); have n3_ := zq3 (Kd.R_below (by (with_reducible repeat (first | apply Kd.R_alloc | apply Kd.R_drewN | apply Kd.R_drew)); exact HO119.out) hb); have n4_ := zq3 (below_step (by repeat (first | (with_reducible first | exact HB.out | apply zq9 | apply zq7 | apply zq8) | exact HB.out)) hb); clear HO109; clear HO112; clear HO116; clear HO119; clear HB; have HO109 := n0_; have HO112 := n1_; have HO116 := n2_; have HO119 := n3_; have HB := n4_; clear n0_ n1_ n2_ n3_ n4_; (try clear hb); (try clear hb2); (try clear hk); (try clear hi)))
            go_ret
            exact ⟨by first | rfl | (simp [errW_none, errW_some] <;> rfl) | (simp [*, errW_none, errW_some] <;> rfl), by repeat (first | (with_reducible first | exact HB.out | apply zq9 | apply zq7 | apply zq8) | exact HB.out)⟩
          · rw [if_neg c17] at H
            exact absurd H (by simp)
        · replace c16 := Bool.eq_false_iff.mpr c16
          subst c16
          have H1 : (none) = some r := by rw [if_neg (show ¬ (false = true) by decide)] at H; exact H
          clear H
          have H := H1
          clear H1
          exact absurd H (by simp)
      · replace c12 := Bool.eq_false_iff.mpr c12
        subst c12
        have H1 : (none) = some r := by rw [if_neg (show ¬ (false = true) by decide)] at H; exact H
        clear H
        have H := H1
        clear H1
        exact absurd H (by simp)
    · replace c8 := Bool.eq_false_iff.mpr c8
      subst c8
      have H1 : (none) = some r := by rw [if_neg (show ¬ (false = true) by decide)] at H; exact H
      clear H
      have H := H1
      clear H1
      exact absurd H (by simp)

/-- THE ONE PURE STATEMENT of weighbridgelaw25_RatchetRuns: yours. -/
def weighbridgelaw25_RatchetRuns.Pure : Prop := ∀ (l0 : List Int), l0.length ≤ maxLen → l0.length * 8 ≤ 140737488351232 → (∀ x ∈ l0, (Lit.int .u64 x).wf = true) → ∃ k, weighbridgelaw25_RatchetRuns.f k l0 = some true
theorem weighbridgelaw25_RatchetRuns.walk (P : weighbridgelaw25_RatchetRuns.Pure) (a0 : Option Addr) (len0 cap0 : Nat) (z0 : List Int) (w : World) (w0 : (a0 = none ∧ len0 = 0 ∧ cap0 = 0 ∧ z0 = []) ∨ ∃ x, a0 = some x ∧ len0 ≤ cap0 ∧ cap0 ≤ maxLen ∧ z0.length = cap0 ∧ (∀ i, i < z0.length → w.cell? (x.add i) = some (.int .u64 (z0.getD i 0))) ∧ ∀ n ∈ z0, (Lit.int .u64 n).wf = true) (y0 : len0 * 8 ≤ 140737488351232) :
    Calls Try.prog 4 #[.slice a0 len0 cap0] w fun e w' => e = .returned (.bool true) ∧ Below w.heap.size w w' := by
  obtain ⟨l0, rfl, hr0, hm0, hw0, hc0⟩ := ReadsInt.ofRowC w0
  obtain ⟨k, h⟩ := P l0 hm0 y0 hw0
  refine (weighbridgelaw25_RatchetRuns.calls k _ _ l0 true w (Kd.C_of_reads (d := (0 : Int)) (h1 := fun _ => rfl) hr0) hc0 h).mono ?_
  rintro e w' ⟨rfl, hd⟩
  exact ⟨rfl, hd⟩

end Go.Proofs.Ytgidglbkmklajaa.P
