/- Part of the proof. -/
import Derived.Test.YtiaoaoebghnpkaaProg
import Derived.Handy
import Derived.Test.YtiaoaoebghnpkaaKB3
import Derived.Test.YtiaoaoebghnpkaaKB4
/- What the package wide's functions answer (low, Of, Less, Add, Sub, Mul, Cap): the contracts of the walks. Where structs come in or go out the call lays new blocks and turns nothing that was there. -/
namespace Go.Proofs.Ytiaoaoebghnpkaa
open Go.RowKit

theorem low_any (a : Int) (w : World) (ha : U a) : Calls Try.prog 52 #[.int .u64 a] w fun e w' => e = .returned (.int .u64 (a % 4294967296)) ∧ w = w' := by
  go_enter Try.func52, Try.ntmps52
  go_wp2
  go_ret
  exact ⟨ret_int (and_low32 a ha.1 ha.2), rfl⟩

theorem of_any (a : Int) (w : World) : Calls Try.prog 45 #[.int .u64 a] w fun e w' => e = .returned (.agg #[.int .u64 0, .int .u64 a]) ∧ Below w.heap.size w w' := by
  go_enter Try.func45, Try.ntmps45
  go_wp2
  go_returns
  exact ⟨rfl, by go_grown⟩

theorem less_any (a b c d : Int) (w : World) (hb : U b) (hd : U d) : Calls Try.prog 25 #[.agg #[.int .u64 a, .int .u64 b], .agg #[.int .u64 c, .int .u64 d]] w fun e w' => e = .returned (.bool (decide (wd a b < wd c d))) ∧ Below w.heap.size w w' := by
  go_enter Try.func25, Try.ntmps25
  go_wp2
  · have h : (a != c) = true := by assumption
    go_returns
    refine ⟨ret_bool ?_, by go_grown⟩
    rw [bne_iff_ne] at h
    unfold U at hb hd; unfold wd
    rw [Bool.eq_iff_iff]; simp only [decide_eq_true_eq]; omega
  · have h : (a != c) = false := by assumption
    go_returns
    refine ⟨ret_bool ?_, by go_grown⟩
    have h : a = c := by simpa using h
    unfold U at hb hd; unfold wd
    rw [Bool.eq_iff_iff]; simp only [decide_eq_true_eq]; omega

theorem add_any (a b c d : Int) (w : World) (ha : U a) (hb : U b) (hc : U c) (hd : U d) : Calls Try.prog 23 #[.agg #[.int .u64 a, .int .u64 b], .agg #[.int .u64 c, .int .u64 d]] w fun e w' => e = .returned (.tuple #[.agg #[.int .u64 (hi (wd a b + wd c d)), .int .u64 (lo (wd a b + wd c d))], .bool (ov (wd a b + wd c d))]) ∧ Below w.heap.size w w' := by
  go_enter Try.func23, Try.ntmps23
  go_wp2
  all_goals
    go_returns
    refine ⟨ret_wide_bool ?_ ?_ ?_, by go_grown⟩
    all_goals
      have e1 := IntKind.wrap_u64 (a + c)
      have e2 := IntKind.wrap_u64 (b + d)
      have e3 := IntKind.wrap_u64 (IntKind.u64.wrap (a + c) + 1)
      unfold U at ha hb hc hd
      first
        | (unfold hi wd; omega)
        | (unfold lo wd; omega)
        | (unfold ov wd; rw [Bool.eq_iff_iff]; simp only [Bool.or_eq_true, decide_eq_true_eq, beq_iff_eq, true_iff]; omega)
        | (unfold ov wd; rw [Bool.eq_iff_iff]; simp only [Bool.or_eq_true, decide_eq_true_eq, beq_iff_eq]; omega)
        | (unfold ov wd; rw [Bool.eq_iff_iff]; simp only [decide_eq_true_eq]; omega)

theorem sub_any (a b c d : Int) (w : World) (hb : U b) (hd : U d) : Calls Try.prog 73 #[.agg #[.int .u64 a, .int .u64 b], .agg #[.int .u64 c, .int .u64 d]] w fun e w' => e = .returned (.tuple #[.agg #[.int .u64 (hi (wd a b - wd c d)), .int .u64 (lo (wd a b - wd c d))], .bool (decide (wd a b < wd c d))]) ∧ Below w.heap.size w w' := by
  go_enter Try.func73, Try.ntmps73
  go_wp2_with fail
  all_goals
    refine wp_region_calls 4 (by kernel_rfl) (by kernel_rfl) ?_
    simp only [List.take_succ_cons, List.take_zero, List.drop_succ_cons, List.drop_zero]
    refine walk1_open fun K hK => ?_
    repeat
      apply walk1_value (by rfl)
      · intro W hcl hsz; go_simp; rfl
      simp only [Act.put, List.setIfInBounds_toArray, List.set_cons_zero, List.set_cons_succ]
    apply walk1_call (by rfl)
    · intro W hsz; go_simp; first | exact ⟨rfl, rfl⟩ | rfl
    · intro W hlW; exact less_any _ _ _ _ _ hb hd
    simp only [Act.put, List.setIfInBounds_toArray, List.set_cons_zero, List.set_cons_succ]
    refine walk1_nil (hK _ ?_); clear hK K
    intro W hW; obtain ⟨hcl, hfl, hzl⟩ := bcell hW; repeat (first | simp only [World.size_alloc] at hzl | simp only [World.size_drew] at hzl | simp only [World.size_setCell] at hzl)
    have hB : Below w.heap.size w W := below_of (by go_grown) hW
    go_wp2
    refine bodyPost_ret (by simp [results, Try.results73, go_sem, hcl]; exact ⟨rfl, rfl⟩) rfl ⟨ret_wide_bool ?_ ?_ rfl, ?_⟩
    all_goals
      have e1 := IntKind.wrap_u64 (a - c)
      have e2 := IntKind.wrap_u64 (b - d)
      have e3 := IntKind.wrap_u64 (IntKind.u64.wrap (a - c) - 1)
      unfold U at hb hd
      first
        | (unfold hi wd; omega)
        | (unfold lo wd; omega)
        | go_grown
set_option maxHeartbeats 1000000 in
theorem mul_any (a b : Int) (w : World) (ha : U a) (hb : U b) : Calls Try.prog 24 #[.int .u64 a, .int .u64 b] w fun e w' => e = .returned (.agg #[.int .u64 (hi (a * b)), .int .u64 (lo (a * b))]) ∧ Below w.heap.size w w' := by
  go_enter Try.func24, Try.ntmps24
  go_wp2_with (go_at_call 52; refine (low_any _ _ (by assumption)).mono ?_; rintro e w' ⟨rfl, rfl⟩)
  refine wp_loop_rounds 3 ?_; rw [rounds_succ]
  go_wp2_with fail
  refine (add_any _ _ _ _ _ (U_wrap _) (U_wrap _) (U_div (U_wrap _)) (U_wrap _)).mono ?_
  rintro e W1 ⟨rfl, hW1⟩; obtain ⟨hcl1, hfl1, hzl1⟩ := bcell hW1; repeat (first | simp only [World.size_alloc] at hzl1 | simp only [World.size_drew] at hzl1 | simp only [World.size_setCell] at hzl1)
  have hB1 : Below w.heap.size w W1 := below_of (by go_grown) hW1
  have hz1_w2 : w.heap.size + 1 + 1 < W1.heap.size := by omega
  have hz1_w1 : w.heap.size + 1 < W1.heap.size := by omega
  have hz1_w0 : w.heap.size < W1.heap.size := by omega
  have c1_w2_0 := hcl1 (w.heap.size + 1 + 1) 0 (by first | assumption | (simp; done) | (simp; omega)); simp [go_sem] at c1_w2_0
  have f1_w2_0 := hfl1 (w.heap.size + 1 + 1) 0 (by first | assumption | (simp; done) | (simp; omega)); simp [go_sem] at f1_w2_0
  have c1_w2_1 := hcl1 (w.heap.size + 1 + 1) 1 (by first | assumption | (simp; done) | (simp; omega)); simp [go_sem] at c1_w2_1
  have f1_w2_1 := hfl1 (w.heap.size + 1 + 1) 1 (by first | assumption | (simp; done) | (simp; omega)); simp [go_sem] at f1_w2_1
  have c1_w1_2 := hcl1 (w.heap.size + 1) 2 (by first | assumption | (simp; done) | (simp; omega)); simp [go_sem] at c1_w1_2
  have c1_w0_0 := hcl1 (w.heap.size) 0 (by first | assumption | (simp; done) | (simp; omega)); simp [go_sem] at c1_w0_0
  have f1_w0_0 := hfl1 (w.heap.size) 0 (by first | assumption | (simp; done) | (simp; omega)); simp [go_sem] at f1_w0_0
  have c1_w0_1 := hcl1 (w.heap.size) 1 (by first | assumption | (simp; done) | (simp; omega)); simp [go_sem] at c1_w0_1
  have f1_w0_1 := hfl1 (w.heap.size) 1 (by first | assumption | (simp; done) | (simp; omega)); simp [go_sem] at f1_w0_1
  clear hcl1 hfl1
  go_wp2_with fail
  rw [rounds_succ]
  go_wp2_with fail
  refine (add_any _ _ _ _ _ (U_hi _) (U_lo _) (U_div (U_wrap _)) (U_wrap _)).mono ?_
  rintro e W2 ⟨rfl, hW2⟩; obtain ⟨hcl2, hfl2, hzl2⟩ := bcell hW2; repeat (first | simp only [World.size_alloc] at hzl2 | simp only [World.size_drew] at hzl2 | simp only [World.size_setCell] at hzl2)
  have hB2 : Below w.heap.size w W2 := below_of (by go_grown) hW2
  have hz2_w2 : w.heap.size + 1 + 1 < W2.heap.size := by omega
  have hz2_w0 : w.heap.size < W2.heap.size := by omega
  have c2_w2_0 := hcl2 (w.heap.size + 1 + 1) 0 (by first | assumption | (simp; done) | (simp; omega)); simp [go_sem, c1_w2_0] at c2_w2_0
  have f2_w2_0 := hfl2 (w.heap.size + 1 + 1) 0 (by first | assumption | (simp; done) | (simp; omega)); simp [go_sem, f1_w2_0] at f2_w2_0
  have c2_w2_1 := hcl2 (w.heap.size + 1 + 1) 1 (by first | assumption | (simp; done) | (simp; omega)); simp [go_sem, c1_w2_1] at c2_w2_1
  have f2_w2_1 := hfl2 (w.heap.size + 1 + 1) 1 (by first | assumption | (simp; done) | (simp; omega)); simp [go_sem, f1_w2_1] at f2_w2_1
  have c2_w0_0 := hcl2 (w.heap.size) 0 (by first | assumption | (simp; done) | (simp; omega)); simp [go_sem, c1_w0_0] at c2_w0_0
  have f2_w0_0 := hfl2 (w.heap.size) 0 (by first | assumption | (simp; done) | (simp; omega)); simp [go_sem, f1_w0_0] at f2_w0_0
  have c2_w0_1 := hcl2 (w.heap.size) 1 (by first | assumption | (simp; done) | (simp; omega)); simp [go_sem, c1_w0_1] at c2_w0_1
  have f2_w0_1 := hfl2 (w.heap.size) 1 (by first | assumption | (simp; done) | (simp; omega)); simp [go_sem, f1_w0_1] at f2_w0_1
  clear hcl2 hfl2
  go_wp2_with fail
  rw [rounds_succ]
  go_wp2_with fail
  apply bodyPost_ret
  · simp [results, Try.results24, go_sem, c2_w0_0, c2_w0_1]; rfl
  · rfl
  have e := mul_parts ha hb
  dsimp only at e
  exact ⟨ret_wide (by rw [e]) (by rw [e]), by go_grown⟩

theorem cap_any (k l m : Int) (w : World) (hk : U k) (hl : U l) (hm : U m) : Calls Try.prog 123 #[.agg #[.int .u64 k, .int .u64 l], .int .u64 m] w fun e w' => e = .returned (.int .u64 (min (wd k l) m)) ∧ Below w.heap.size w w' := by
  go_enter Try.func123, Try.ntmps123
  go_wp2
  · have h : (k != 0) = true := by assumption
    go_returns
    refine ⟨ret_int ?_, by go_grown⟩
    rw [bne_iff_ne] at h
    unfold U at hk hl hm; unfold wd
    rw [Int.min_def]; split <;> omega
  all_goals
    have h : (k != 0) = false := by assumption
    go_returns
    refine ⟨ret_int ?_, by go_grown⟩
    have h : k = 0 := by simpa using h
    unfold U at hk hl hm; unfold wd
    rw [Int.min_def]; split <;> omega

end Go.Proofs.Ytiaoaoebghnpkaa
