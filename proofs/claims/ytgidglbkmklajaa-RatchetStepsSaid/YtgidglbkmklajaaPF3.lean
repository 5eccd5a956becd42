/- Printed out of the translation: what functions compute, and the proofs that the code computes just this. -/
import Derived.Test.YtgidglbkmklajaaP0
import Derived.Test.YtgidglbkmklajaaPF11
import Derived.Test.YtgidglbkmklajaaPF12
import Derived.Test.YtgidglbkmklajaaPF13
namespace Go.Proofs.Ytgidglbkmklajaa.P
open Go.RowKit Go.Proofs.YtgidglbkmklajaaW.PrintWords Go.Proofs.YtgidglbkmklajaaW.PrintLast Go.Proofs.YtgidglbkmklajaaW.PrintMore
attribute [local go_sem] max2_int min2_int max_two min_two max_three min_three max_four min_four   -- for this text's walks alone
set_option linter.unusedVariables false
set_option linter.unusedSimpArgs false

/-! ### weighbridgelaw25_RatchetSteps: function 3 -/
def weighbridgelaw25_RatchetSteps.f (k : Nat) (a0 : Int) (a1 : Bool) (a2 : Int) : Option (Bool) := (ratchet_Step.f a0 a1 a2).bind fun bt101 => ((weighbridgeref25_Step.f a0 a1 a2).bind fun bt103 => ((weighbridgelaw25_live.f k).bind fun t105 => (if t105 = true then (if bt101.1 = bt103.1 then (some (bt101.2 == bt103.2)) else (none)) else (none))))
set_option maxHeartbeats 8000000 in
set_option maxRecDepth 100000 in
theorem weighbridgelaw25_RatchetSteps.calls (k : Nat) (a0 : Int) (a1 : Bool) (a2 : Int) (r : Bool) (w : World) (h : weighbridgelaw25_RatchetSteps.f k a0 a1 a2 = some r) :
    Calls Try.prog 3 #[.int .u64 a0, .bool a1, .int .u64 a2] w fun e w' => e = .returned (.bool r) ∧ Below w.heap.size w w' := by
  have HB := zq3 (Below.refl w.heap.size w)
  have H : ((ratchet_Step.f a0 a1 a2).bind fun bt101 => ((weighbridgeref25_Step.f a0 a1 a2).bind fun bt103 => ((weighbridgelaw25_live.f k).bind fun t105 => (if t105 = true then (if bt101.1 = bt103.1 then (some (bt101.2 == bt103.2)) else (none)) else (none))))) = some r := h
  clear h
  replace H := Option.bind_eq_some_iff.mp H
  obtain ⟨⟨t101, t102⟩, A40, H⟩ := H
  replace H : ((weighbridgeref25_Step.f a0 a1 a2).bind fun bt103 => ((weighbridgelaw25_live.f k).bind fun t105 => (if t105 = true then (if t101 = bt103.1 then (some (t102 == bt103.2)) else (none)) else (none)))) = some r := H
  have A4 := zq3 A40
  clear A40
  replace H := Option.bind_eq_some_iff.mp H
  obtain ⟨⟨t103, t104⟩, A50, H⟩ := H
  replace H : ((weighbridgelaw25_live.f k).bind fun t105 => (if t105 = true then (if t101 = t103 then (some (t102 == t104)) else (none)) else (none))) = some r := H
  have A5 := zq3 A50
  clear A50
  replace H := Option.bind_eq_some_iff.mp H
  obtain ⟨t105, A60, H⟩ := H
  replace H : (if t105 = true then (if t101 = t103 then (some (t102 == t104)) else (none)) else (none)) = some r := H
  have A6 := zq3 A60
  clear A60
  by_cases c7 : t105 = true
  · subst c7
    have H1 : (if t101 = t103 then (some (t102 == t104)) else (none)) = some r := by rw [if_pos rfl] at H; exact H
    clear H
    have H := H1
    clear H1
    by_cases c8 : t101 = t103
    · rw [if_pos c8] at H
      have c8b0 : (t101 == t103) = true := beq_iff_eq.mpr c8
      have c8b1 : (t101 != t103) = false := bne_eq_false_iff_eq.mpr c8
      clear c8
      obtain rfl := Option.some.inj H
      go_enter Try.func3, Try.ntmps3
      go_wp2_with (first | ((with_reducible refine gate_callee (f := 11) rfl ?_); refine goesL_ (some 15) rfl rfl Try.func11 (by kernel_rfl) rfl #[.int .u64 a0, .bool a1, .int .u64 a2] rfl (by (try simp only [List.map_toArray, List.map_cons, List.map_nil]); first | done | rfl | (simp only [List.length_drop, List.length_take]; rfl)) ?_; (with_reducible refine (ratchet_Step.calls a0 a1 a2 t101 t102 _ A4.out).mono ?_); rintro e w9 ⟨rfl, hb⟩; refine ⟨_, rfl, ?_⟩; have n0_ := zq3 (below_step (by repeat (first | (with_reducible first | exact HB.out | apply zq9 | apply zq7 | apply zq8) | exact HB.out)) hb); clear HB; have HB := n0_; clear n0_; (try clear hb); (try clear hb2); (try clear hk); (try clear hi)) | ((with_reducible refine gate_callee (f := 12) rfl ?_); refine goesL_ (some 22) rfl rfl Try.func12 (by kernel_rfl) rfl #[.int .u64 a0, .bool a1, .int .u64 a2] rfl (by (try simp only [List.map_toArray, List.map_cons, List.map_nil]); first | done | rfl | (simp only [List.length_drop, List.length_take]; rfl)) ?_; (with_reducible refine (weighbridgeref25_Step.calls a0 a1 a2 t103 t104 _ A5.out).mono ?_); rintro e w10 ⟨rfl, hb⟩; refine ⟨_, rfl, ?_⟩; have n0_ := zq3 (below_step (by repeat (first | (with_reducible first | exact HB.out | apply zq9 | apply zq7 | apply zq8) | exact HB.out)) hb); clear HB; have HB := n0_; clear n0_; (try clear hb); (try clear hb2); (try clear hk); (try clear hi)) | ((with_reducible refine gate_callee (f := 13) rfl ?_); refine goesL_ (some 25) rfl rfl Try.func13 (by kernel_rfl) rfl #[] rfl (by (try simp only [List.map_toArray, List.map_cons, List.map_nil]); first | done | rfl | (simp only [List.length_drop, List.length_take]; rfl)) ?_; (with_reducible refine (weighbridgelaw25_live.calls k  true _ A6.out).mono ?_); rintro e w11 ⟨rfl, hb⟩; refine ⟨_, rfl, ?_⟩; have n0_ := zq3 (below_step (by repeat (first | (with_reducible first | exact HB.out | apply zq9 | apply zq7 | apply zq8) | exact HB.out)) hb); clear HB; have HB := n0_; clear n0_; (try clear hb); (try clear hb2); (try clear hk); (try clear hi)))
      go_ret
      exact ⟨by first | rfl | (simp [errW_none, errW_some] <;> rfl) | (simp [*, errW_none, errW_some] <;> rfl), by repeat (first | (with_reducible first | exact HB.out | apply zq9 | apply zq7 | apply zq8) | exact HB.out)⟩
    · rw [if_neg c8] at H
      exact absurd H (by simp)
  · replace c7 := Bool.eq_false_iff.mpr c7
    subst c7
    have H1 : (none) = some r := by rw [if_neg (show ¬ (false = true) by decide)] at H; exact H
    clear H
    have H := H1
    clear H1
    exact absurd H (by simp)

/-- THE ONE PURE STATEMENT of weighbridgelaw25_RatchetSteps: yours. -/
def weighbridgelaw25_RatchetSteps.Pure : Prop := ∀ (a0 : Int) (a1 : Bool) (a2 : Int), (Lit.int .u64 a0).wf = true → (Lit.int .u64 a2).wf = true → ∃ k, weighbridgelaw25_RatchetSteps.f k a0 a1 a2 = some true
theorem weighbridgelaw25_RatchetSteps.walk (P : weighbridgelaw25_RatchetSteps.Pure) (a0 : Int) (a1 : Bool) (a2 : Int) (w : World) (w0 : (Lit.int .u64 a0).wf = true) (w2 : (Lit.int .u64 a2).wf = true) :
    Calls Try.prog 3 #[.int .u64 a0, .bool a1, .int .u64 a2] w fun e w' => e = .returned (.bool true) ∧ Below w.heap.size w w' := by
  obtain ⟨k, h⟩ := P a0 a1 a2 w0 w2
  refine (weighbridgelaw25_RatchetSteps.calls k a0 a1 a2 true w h).mono ?_
  rintro e w' ⟨rfl, hd⟩
  exact ⟨rfl, hd⟩

end Go.Proofs.Ytgidglbkmklajaa.P
