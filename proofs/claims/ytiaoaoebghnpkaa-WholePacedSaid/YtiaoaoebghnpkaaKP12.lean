/- Part of the proof. -/
import Derived.Handy
import Derived.Deep.DeepCutAuto
import Derived.Test.YtiaoaoebghnpkaaKP8
import Derived.Test.YtiaoaoebghnpkaaKP10
/- outlook's inner functions: what they compute (the defs as the print tells them), walked by hand. -/
namespace Go.Proofs.Ytiaoaoebghnpkaa.P
open Go.RowKit Go.Proofs.YtiaoaoebghnpkaaW.PrintWords Go.Proofs.YtiaoaoebghnpkaaW.PrintLast Go.Proofs.YtiaoaoebghnpkaaW.PrintMore
set_option linter.unusedVariables false
theorem mx_max (a b : Int) : mx a b = max a b := by unfold mx; rw [Int.max_def]; split <;> split <;> omega
theorem ret_span {a b : Int} {x : Bool} (h : a = b) : Ending.returned (.agg #[.int .u64 a, .bool x]) = .returned (.agg #[.int .u64 b, .bool x]) := by rw [h]
theorem mn_min (a b : Int) : mn a b = min a b := by unfold mn; rw [Int.min_def]; split <;> split <;> omega

def outlook_is.f (a0 : Int) : Option (Bool) := if a0 ≥ 0 then (some (decide (a0 ≤ 2))) else (some false)

def outlook_when.f (a0_0 : Int) (a0_1 : Int) (a0_2 : Int) (a0_3 : Bool) (a1_0 : Int) (a1_1 : Bool) : Option (Int × Bool) := if a0_3 = true then (if a1_1 = true then (some (0, false)) else (if (IntKind.u64.wrap (a0_2 + a1_0)) < a0_2 then (some (0, false)) else (some (IntKind.u64.wrap (a0_2 + a1_0), true)))) else (if a1_1 = true then (some (0, false)) else (some (0, (a1_0 == 0))))

def outlook_rims.f (a0_0 : Int) (a0_1 : Bool) (a0_2 : Int) (a0_3 : Int) (a0_4 : Int) (a0_5 : Int) : Option (Int × Int) := (bucket_Full.f a0_4).bind fun bt102 => ((bucket_Full.f a0_5).bind fun bt104 => (some (bt102.1, bt104.1)))

def outlook_span_later.f (a0_0 : Int) (a0_1 : Bool) (a1_0 : Int) (a1_1 : Bool) : Option (Int × Bool) := if a0_1 = true then (some (mx a0_0 a1_0, true)) else (some (mx a0_0 a1_0, a1_1))

def outlook_span_sooner.f (a0_0 : Int) (a0_1 : Bool) (a1_0 : Int) (a1_1 : Bool) : Option (Int × Bool) := if a0_1 = true then (some (a1_0, a1_1)) else (if a1_1 = true then (some (a0_0, a0_1)) else (some (mn a0_0 a1_0, false)))

def outlook_until.f (a0 : Int) (a1 : Int) (a2 : Int) (a3 : Int) : Option (Int × Bool) := if a3 ≤ a0 then (some (0, false)) else (if a3 > a1 then (some (0, true)) else (if a2 = 0 then (some (0, true)) else (some (IntKind.u64.wrap ((IntKind.u64.wrap (Int.tdiv (IntKind.u64.wrap ((IntKind.u64.wrap (a3 - a0)) - 1)) a2)) + 1), false))))

def outlook_second.f (a0_0 : Int) (a0_1 : Bool) (a0_2 : Int) (a0_3 : Int) (a0_4 : Int) (a0_5 : Int) (a1_0 : Int) (a1_1 : Int) (a1_2 : Int) (a1_3 : Bool) (a2 : Int) : Option (Int × Bool) := (outlook_rims.f a0_0 a0_1 a0_2 a0_3 a0_4 a0_5).bind fun bt104 => (if a2 ≤ a1_1 then (some (0, false)) else (if a2 > bt104.2 then (some (0, true)) else (if a0_2 = 0 then (some (0, true)) else (some (IntKind.u64.wrap ((IntKind.u64.wrap (Int.tdiv (IntKind.u64.wrap ((IntKind.u64.wrap ((IntKind.u64.wrap ((IntKind.u64.wrap (bt104.1 - (mn bt104.1 a1_0))) + a2)) - a1_1)) - 1)) a0_2)) + 1), false)))))

def outlook_buckets.f (a0_0 : Int) (a0_1 : Bool) (a0_2 : Int) (a0_3 : Int) (a0_4 : Int) (a0_5 : Int) (a1_0 : Int) (a1_1 : Int) (a1_2 : Int) (a1_3 : Bool) (a2_0 : Int) (a2_1 : Int) : Option (Int × Bool × Int × Bool) := (outlook_rims.f a0_0 a0_1 a0_2 a0_3 a0_4 a0_5).bind fun bt105 => ((outlook_until.f a1_0 bt105.1 a0_2 a2_0).bind fun bt107 => (if a0_0 = 2 then ((outlook_until.f a1_1 bt105.2 a0_3 a2_1).bind fun bt110 => (some (bt107.1, bt107.2, bt110.1, bt110.2))) else ((outlook_second.f a0_0 a0_1 a0_2 a0_3 a0_4 a0_5 a1_0 a1_1 a1_2 a1_3 a2_1).bind fun bt112 => (some (bt107.1, bt107.2, bt112.1, bt112.2)))))

def outlook_wait.j0 : Nat → Int → Bool → Int → Bool → Int → Int → Int → Int → Int → Bool → Int → Bool → Option (Int × Bool)
  | 0, _, _, _, _, _, _, _, _, _, _, _, _ => none
  | k + 1, x3, x20, x102000, x102001, x102002, x102003, x102004, x102005, x109000, x109001, x109002, x109003 => if x20 = true then ((outlook_span_later.f x109000 x109001 x109002 x109003).bind fun bt109 => (some (bt109.1, bt109.2))) else (if x102000 = 2 then (some (x109002, x109003)) else (if x3 = 0 then (some (x109000, x109001)) else ((outlook_span_sooner.f x109000 x109001 x109002 x109003).bind fun bt111 => (some (bt111.1, bt111.2)))))
def outlook_wait.f (k : Nat) (a0_0 : Int) (a0_1 : Bool) (a0_2 : Int) (a0_3 : Int) (a0_4 : Int) (a0_5 : Int) (a1_0 : Int) (a1_1 : Int) (a1_2 : Int) (a1_3 : Bool) (a2 : Int) (a3 : Int) : Option (Int × Bool) := (outlook_buckets.f a0_0 a0_1 a0_2 a0_3 a0_4 a0_5 a1_0 a1_1 a1_2 a1_3 a2 a2).bind fun bt104 => (if a3 = 2 then (some (0, false)) else (if a0_0 = 2 then (outlook_wait.j0 k a3 (a3 == 0) a0_0 a0_1 a0_2 a0_3 a0_4 a0_5 bt104.1 bt104.2.1 bt104.2.2.1 bt104.2.2.2) else (outlook_wait.j0 k a3 false a0_0 a0_1 a0_2 a0_3 a0_4 a0_5 bt104.1 bt104.2.1 bt104.2.2.1 bt104.2.2.2)))

set_option maxRecDepth 100000 in
set_option maxHeartbeats 1000000 in
theorem outlook_is.calls (a0 : Int) (r : Bool) (w : World) (h : outlook_is.f a0 = some r) :
    Calls Try.prog 53 #[.int .i64 a0] w fun e w' => e = .returned (.bool r) ∧ Below w.heap.size w w' := by
  unfold outlook_is.f at h
  by_cases h1 : a0 ≥ 0
  · rw [if_pos h1] at h
    obtain rfl := Option.some.inj h
    go_enter Try.func53, Try.ntmps53
    go_wp2
    go_ret
    exact ⟨rfl, Below.refl _ _⟩
  · rw [if_neg h1] at h
    obtain rfl := Option.some.inj h
    go_enter Try.func53, Try.ntmps53
    go_wp2
    go_ret
    exact ⟨rfl, Below.refl _ _⟩

set_option maxRecDepth 100000 in
set_option maxHeartbeats 1000000 in
theorem outlook_when.calls (a0_0 : Int) (a0_1 : Int) (a0_2 : Int) (a0_3 : Bool) (a1_0 : Int) (a1_1 : Bool) (r1 : Int) (r2 : Bool) (w : World) (h : outlook_when.f a0_0 a0_1 a0_2 a0_3 a1_0 a1_1 = some (r1, r2)) :
    Calls Try.prog 55 #[.agg #[.int .u64 a0_0, .int .u64 a0_1, .int .u64 a0_2, .bool a0_3], .agg #[.int .u64 a1_0, .bool a1_1]] w fun e w' => e = .returned (.tuple #[.int .u64 r1, .bool r2]) ∧ Below w.heap.size w w' := by
  unfold outlook_when.f at h
  cases a0_3 with
  | true =>
    rw [if_pos rfl] at h
    cases a1_1 with
    | true =>
      simp only [if_true, Option.some.injEq, Prod.mk.injEq] at h
      obtain ⟨rfl, rfl⟩ := h
      go_enter Try.func55, Try.ntmps55
      go_wp2
      go_returns
      exact ⟨rfl, by go_grown⟩
    | false =>
      rw [if_neg (by simp)] at h
      by_cases hl : IntKind.u64.wrap (a0_2 + a1_0) < a0_2
      · rw [if_pos hl] at h
        simp only [Option.some.injEq, Prod.mk.injEq] at h
        obtain ⟨rfl, rfl⟩ := h
        go_enter Try.func55, Try.ntmps55
        go_wp2
        go_returns
        exact ⟨rfl, by go_grown⟩
      · rw [if_neg hl] at h
        simp only [Option.some.injEq, Prod.mk.injEq] at h
        obtain ⟨rfl, rfl⟩ := h
        go_enter Try.func55, Try.ntmps55
        go_wp2
        go_returns
        exact ⟨rfl, by go_grown⟩
  | false =>
    rw [if_neg (by simp)] at h
    cases a1_1 with
    | true =>
      simp only [if_true, Option.some.injEq, Prod.mk.injEq] at h
      obtain ⟨rfl, rfl⟩ := h
      go_enter Try.func55, Try.ntmps55
      go_wp2
      go_region
      all_goals go_wp2
      all_goals go_returns
      all_goals exact ⟨rfl, by go_grown⟩
    | false =>
      rw [if_neg (by simp)] at h
      simp only [Option.some.injEq, Prod.mk.injEq] at h
      obtain ⟨rfl, rfl⟩ := h
      go_enter Try.func55, Try.ntmps55
      go_wp2
      go_region
      all_goals go_wp2
      all_goals go_returns
      all_goals exact ⟨rfl, by go_grown⟩

set_option maxRecDepth 100000 in
set_option maxHeartbeats 1000000 in
theorem outlook_span_later.calls (a0_0 : Int) (a0_1 : Bool) (a1_0 : Int) (a1_1 : Bool) (r1 : Int) (r2 : Bool) (w : World) (h : outlook_span_later.f a0_0 a0_1 a1_0 a1_1 = some (r1, r2)) :
    Calls Try.prog 61 #[.agg #[.int .u64 a0_0, .bool a0_1], .agg #[.int .u64 a1_0, .bool a1_1]] w fun e w' => e = .returned (.agg #[.int .u64 r1, .bool r2]) ∧ Below w.heap.size w w' := by
  unfold outlook_span_later.f at h
  rw [mx_max] at h
  cases a0_1 with
  | true =>
    simp only [if_true, Option.some.injEq, Prod.mk.injEq] at h
    obtain ⟨rfl, rfl⟩ := h
    go_enter Try.func61, Try.ntmps61
    go_wp2
    all_goals
      go_returns
      exact ⟨ret_span (by rw [Int.max_def]; split <;> omega), by go_grown⟩
  | false =>
    rw [if_neg (by simp)] at h
    simp only [Option.some.injEq, Prod.mk.injEq] at h
    obtain ⟨rfl, rfl⟩ := h
    go_enter Try.func61, Try.ntmps61
    go_wp2
    all_goals
      go_returns
      exact ⟨ret_span (by rw [Int.max_def]; split <;> omega), by go_grown⟩

set_option maxRecDepth 100000 in
set_option maxHeartbeats 1000000 in
theorem outlook_span_sooner.calls (a0_0 : Int) (a0_1 : Bool) (a1_0 : Int) (a1_1 : Bool) (r1 : Int) (r2 : Bool) (w : World) (h : outlook_span_sooner.f a0_0 a0_1 a1_0 a1_1 = some (r1, r2)) :
    Calls Try.prog 76 #[.agg #[.int .u64 a0_0, .bool a0_1], .agg #[.int .u64 a1_0, .bool a1_1]] w fun e w' => e = .returned (.agg #[.int .u64 r1, .bool r2]) ∧ Below w.heap.size w w' := by
  unfold outlook_span_sooner.f at h
  rw [mn_min] at h
  cases a0_1 with
  | true =>
    simp only [if_true, Option.some.injEq, Prod.mk.injEq] at h
    obtain ⟨rfl, rfl⟩ := h
    go_enter Try.func76, Try.ntmps76
    go_wp2
    go_returns
    exact ⟨rfl, by go_grown⟩
  | false =>
    rw [if_neg (by simp)] at h
    cases a1_1 with
    | true =>
      simp only [if_true, Option.some.injEq, Prod.mk.injEq] at h
      obtain ⟨rfl, rfl⟩ := h
      go_enter Try.func76, Try.ntmps76
      go_wp2
      go_returns
      exact ⟨rfl, by go_grown⟩
    | false =>
      rw [if_neg (by simp)] at h
      simp only [Option.some.injEq, Prod.mk.injEq] at h
      obtain ⟨rfl, rfl⟩ := h
      go_enter Try.func76, Try.ntmps76
      go_wp2
      all_goals
        go_returns
        exact ⟨ret_span (by rw [Int.min_def]; split <;> omega), by go_grown⟩

theorem full_f {b v e : Int} (h : bucket_Full.f b = some (v, e)) : U b ∧ v = fullV b ∧ e = fullE b := by
  unfold bucket_Full.f at h
  split at h
  · simp only [Option.some.injEq, Prod.mk.injEq] at h
    exact ⟨by assumption, h.1.symm, h.2.symm⟩
  · cases h

set_option maxRecDepth 100000 in
set_option maxHeartbeats 1000000 in
theorem outlook_rims.exact (a0_0 : Int) (a0_1 : Bool) (a0_2 : Int) (a0_3 : Int) (a0_4 : Int) (a0_5 : Int) (r1 : Int) (r2 : Int) (w : World) (h : outlook_rims.f a0_0 a0_1 a0_2 a0_3 a0_4 a0_5 = some (r1, r2)) :
    Calls Try.prog 59 #[.agg #[.int .i64 a0_0, .bool a0_1, .int .u64 a0_2, .int .u64 a0_3, .int .u64 a0_4, .int .u64 a0_5]] w fun e w' => e = .returned (.tuple #[.int .u64 r1, .int .u64 r2]) ∧ w' = w.alloc (.cells #[.int .i64 a0_0, .bool a0_1, .int .u64 a0_2, .int .u64 a0_3, .int .u64 a0_4, .int .u64 a0_5] 49) := by
  unfold outlook_rims.f at h
  obtain ⟨⟨v1, e1⟩, g1, h⟩ := Option.bind_eq_some_iff.1 h
  obtain ⟨⟨v2, e2⟩, g2, h⟩ := Option.bind_eq_some_iff.1 h
  simp only [Option.some.injEq, Prod.mk.injEq] at h
  obtain ⟨rfl, rfl⟩ := h
  obtain ⟨u1, rfl, rfl⟩ := full_f g1
  obtain ⟨u2, rfl, rfl⟩ := full_f g2
  go_enter Try.func59, Try.ntmps59
  go_wp2_with (first | (go_at_call 80; refine (bfull_any a0_4 _ u1).mono ?_; rintro e w' ⟨rfl, rfl⟩) | (go_at_call 80; refine (bfull_any a0_5 _ u2).mono ?_; rintro e w' ⟨rfl, rfl⟩))
  go_returns
  exact ⟨rfl, rfl⟩

theorem outlook_rims.calls (a0_0 : Int) (a0_1 : Bool) (a0_2 : Int) (a0_3 : Int) (a0_4 : Int) (a0_5 : Int) (r1 : Int) (r2 : Int) (w : World) (h : outlook_rims.f a0_0 a0_1 a0_2 a0_3 a0_4 a0_5 = some (r1, r2)) :
    Calls Try.prog 59 #[.agg #[.int .i64 a0_0, .bool a0_1, .int .u64 a0_2, .int .u64 a0_3, .int .u64 a0_4, .int .u64 a0_5]] w fun e w' => e = .returned (.tuple #[.int .u64 r1, .int .u64 r2]) ∧ Below w.heap.size w w' := by
  exact (outlook_rims.exact _ _ _ _ _ _ _ _ w h).mono fun e w' h => ⟨h.1, h.2 ▸ (Below.refl _ _).alloc (Nat.le_refl _) _⟩

set_option maxRecDepth 100000 in
set_option maxHeartbeats 1000000 in
theorem outlook_until.exact (a0 : Int) (a1 : Int) (a2 : Int) (a3 : Int) (r1 : Int) (r2 : Bool) (w : World) (h : outlook_until.f a0 a1 a2 a3 = some (r1, r2)) :
    Calls Try.prog 81 #[.int .u64 a0, .int .u64 a1, .int .u64 a2, .int .u64 a3] w fun e w' => e = .returned (.agg #[.int .u64 r1, .bool r2]) ∧ w' = w.alloc (.cells #[.int .u64 r1, .bool r2] 92) := by
  unfold outlook_until.f at h
  by_cases h1 : a3 ≤ a0
  · rw [if_pos h1] at h
    simp only [Option.some.injEq, Prod.mk.injEq] at h
    obtain ⟨rfl, rfl⟩ := h
    go_enter Try.func81, Try.ntmps81
    go_wp2
    go_returns
    exact ⟨rfl, rfl⟩
  · rw [if_neg h1] at h
    by_cases h2 : a3 > a1
    · rw [if_pos h2] at h
      simp only [Option.some.injEq, Prod.mk.injEq] at h
      obtain ⟨rfl, rfl⟩ := h
      go_enter Try.func81, Try.ntmps81
      go_wp2
      go_returns
      exact ⟨rfl, rfl⟩
    · rw [if_neg h2] at h
      by_cases h3 : a2 = 0
      · rw [if_pos h3] at h
        simp only [Option.some.injEq, Prod.mk.injEq] at h
        obtain ⟨rfl, rfl⟩ := h
        have h3' : (a2 == 0) = true := by simp [h3]
        go_enter Try.func81, Try.ntmps81
        go_wp2
        go_returns
        exact ⟨rfl, rfl⟩
      · rw [if_neg h3] at h
        simp only [Option.some.injEq, Prod.mk.injEq] at h
        obtain ⟨rfl, rfl⟩ := h
        have h3' : (a2 == 0) = false := by simp [h3]
        go_enter Try.func81, Try.ntmps81
        go_wp2
        go_returns
        exact ⟨rfl, rfl⟩

theorem outlook_until.calls (a0 : Int) (a1 : Int) (a2 : Int) (a3 : Int) (r1 : Int) (r2 : Bool) (w : World) (h : outlook_until.f a0 a1 a2 a3 = some (r1, r2)) :
    Calls Try.prog 81 #[.int .u64 a0, .int .u64 a1, .int .u64 a2, .int .u64 a3] w fun e w' => e = .returned (.agg #[.int .u64 r1, .bool r2]) ∧ Below w.heap.size w w' := by
  exact (outlook_until.exact _ _ _ _ _ _ w h).mono fun e w' h => ⟨h.1, h.2 ▸ (Below.refl _ _).alloc (Nat.le_refl _) _⟩

set_option maxRecDepth 100000 in
set_option maxHeartbeats 1000000 in
theorem outlook_second.calls (a0_0 : Int) (a0_1 : Bool) (a0_2 : Int) (a0_3 : Int) (a0_4 : Int) (a0_5 : Int) (a1_0 : Int) (a1_1 : Int) (a1_2 : Int) (a1_3 : Bool) (a2 : Int) (r1 : Int) (r2 : Bool) (w : World) (h : outlook_second.f a0_0 a0_1 a0_2 a0_3 a0_4 a0_5 a1_0 a1_1 a1_2 a1_3 a2 = some (r1, r2)) :
    Calls Try.prog 82 #[.agg #[.int .i64 a0_0, .bool a0_1, .int .u64 a0_2, .int .u64 a0_3, .int .u64 a0_4, .int .u64 a0_5], .agg #[.int .u64 a1_0, .int .u64 a1_1, .int .u64 a1_2, .bool a1_3], .int .u64 a2] w fun e w' => e = .returned (.agg #[.int .u64 r1, .bool r2]) ∧ Below w.heap.size w w' := by
  unfold outlook_second.f at h
  obtain ⟨⟨v1, v2⟩, g1, h⟩ := Option.bind_eq_some_iff.1 h
  dsimp only at h
  rw [mn_min] at h
  have G := Lib.hid g1
  clear g1
  by_cases h1 : a2 ≤ a1_1
  · rw [if_pos h1] at h
    simp only [Option.some.injEq, Prod.mk.injEq] at h
    obtain ⟨rfl, rfl⟩ := h
    go_enter Try.func82, Try.ntmps82
    go_wp2_with (go_at_call 59; refine (outlook_rims.exact _ _ _ _ _ _ _ _ _ G.out).mono ?_; rintro e w' ⟨rfl, rfl⟩)
    go_returns
    exact ⟨rfl, by go_grown⟩
  · rw [if_neg h1] at h
    by_cases h2 : a2 > v2
    · rw [if_pos h2] at h
      simp only [Option.some.injEq, Prod.mk.injEq] at h
      obtain ⟨rfl, rfl⟩ := h
      go_enter Try.func82, Try.ntmps82
      go_wp2_with (go_at_call 59; refine (outlook_rims.exact _ _ _ _ _ _ _ _ _ G.out).mono ?_; rintro e w' ⟨rfl, rfl⟩)
      go_returns
      exact ⟨rfl, by go_grown⟩
    · rw [if_neg h2] at h
      by_cases h3 : a0_2 = 0
      · rw [if_pos h3] at h
        simp only [Option.some.injEq, Prod.mk.injEq] at h
        obtain ⟨rfl, rfl⟩ := h
        have h3' : (a0_2 == 0) = true := by simp [h3]
        clear h3
        go_enter Try.func82, Try.ntmps82
        go_wp2_with (go_at_call 59; refine (outlook_rims.exact _ _ _ _ _ _ _ _ _ G.out).mono ?_; rintro e w' ⟨rfl, rfl⟩)
        go_returns
        exact ⟨rfl, by go_grown⟩
      · rw [if_neg h3] at h
        simp only [Option.some.injEq, Prod.mk.injEq] at h
        obtain ⟨rfl, rfl⟩ := h
        have h3' : (a0_2 == 0) = false := by simp [h3]
        go_enter Try.func82, Try.ntmps82
        go_wp2_with (go_at_call 59; refine (outlook_rims.exact _ _ _ _ _ _ _ _ _ G.out).mono ?_; rintro e w' ⟨rfl, rfl⟩)
        all_goals
          go_returns
          refine ⟨ret_span ?_, by go_grown⟩
          by_cases hm : v1 ≤ a1_0
          · have e := Int.min_eq_left hm
            first | (rw [e]; done) | (rw [e, Int.sub_self]; done) | (exfalso; omega)
          · have e := Int.min_eq_right (show a1_0 ≤ v1 by omega)
            first | (rw [e]; done) | (exfalso; omega)

set_option maxRecDepth 100000 in
set_option maxHeartbeats 1000000 in
theorem outlook_buckets.calls (a0_0 : Int) (a0_1 : Bool) (a0_2 : Int) (a0_3 : Int) (a0_4 : Int) (a0_5 : Int) (a1_0 : Int) (a1_1 : Int) (a1_2 : Int) (a1_3 : Bool) (a2_0 : Int) (a2_1 : Int) (r1 : Int) (r2 : Bool) (r3 : Int) (r4 : Bool) (w : World) (h : outlook_buckets.f a0_0 a0_1 a0_2 a0_3 a0_4 a0_5 a1_0 a1_1 a1_2 a1_3 a2_0 a2_1 = some (r1, r2, r3, r4)) :
    Calls Try.prog 60 #[.agg #[.int .i64 a0_0, .bool a0_1, .int .u64 a0_2, .int .u64 a0_3, .int .u64 a0_4, .int .u64 a0_5], .agg #[.int .u64 a1_0, .int .u64 a1_1, .int .u64 a1_2, .bool a1_3], .agg #[.int .u64 a2_0, .int .u64 a2_1]] w fun e w' => e = .returned (.agg #[.int .u64 r1, .bool r2, .int .u64 r3, .bool r4]) ∧ Below w.heap.size w w' := by
  unfold outlook_buckets.f at h
  obtain ⟨⟨v1, v2⟩, g1, h⟩ := Option.bind_eq_some_iff.1 h
  obtain ⟨⟨v3, v4⟩, g2, h⟩ := Option.bind_eq_some_iff.1 h
  dsimp only at g2 h
  have G1 := Lib.hid g1
  have G2 := Lib.hid g2
  clear g1 g2
  by_cases hk : a0_0 = 2
  · rw [if_pos hk] at h
    obtain ⟨⟨v5, v6⟩, g3, h⟩ := Option.bind_eq_some_iff.1 h
    simp only [Option.some.injEq, Prod.mk.injEq] at h
    obtain ⟨rfl, rfl, rfl, rfl⟩ := h
    have G3 := Lib.hid g3
    have hk' : (a0_0 == 2) = true := by simp [hk]
    clear g3 hk
    go_enter Try.func60, Try.ntmps60
    go_upto_region 4 with (first | (go_at_call 59; refine (outlook_rims.exact _ _ _ _ _ _ _ _ _ G1.out).mono ?_; rintro e w' ⟨rfl, rfl⟩) | (go_at_call 81; refine (outlook_until.exact _ _ _ _ _ _ _ G2.out).mono ?_; rintro e w' ⟨rfl, rfl⟩))
    have nm : Blk (((((((w.alloc (.cells #[.int .i64 a0_0, .bool a0_1, .int .u64 a0_2, .int .u64 a0_3, .int .u64 a0_4, .int .u64 a0_5] 49)).alloc (.cells #[.int .u64 a1_0, .int .u64 a1_1, .int .u64 a1_2, .bool a1_3] 51)).alloc (.cells #[.int .u64 a2_0, .int .u64 a2_1] 39)).alloc (.cells #[.int .u64 0, .bool false, .int .u64 0, .bool false] 99)).alloc (.cells #[.int .i64 a0_0, .bool a0_1, .int .u64 a0_2, .int .u64 a0_3, .int .u64 a0_4, .int .u64 a0_5] 49)).alloc (.cells #[.int .u64 v3, .bool v4] 92)).alloc (.cells #[.int .u64 v3, .bool v4] 92)) (w.heap.size) 49 #[.int .i64 a0_0, .bool a0_1, .int .u64 a0_2, .int .u64 a0_3, .int .u64 a0_4, .int .u64 a0_5] := by
      have h := (((((((Blk.new w 49 #[.int .i64 a0_0, .bool a0_1, .int .u64 a0_2, .int .u64 a0_3, .int .u64 a0_4, .int .u64 a0_5]).alloc (.cells #[.int .u64 a1_0, .int .u64 a1_1, .int .u64 a1_2, .bool a1_3] 51)).alloc (.cells #[.int .u64 a2_0, .int .u64 a2_1] 39)).alloc (.cells #[.int .u64 0, .bool false, .int .u64 0, .bool false] 99)).alloc (.cells #[.int .i64 a0_0, .bool a0_1, .int .u64 a0_2, .int .u64 a0_3, .int .u64 a0_4, .int .u64 a0_5] 49)).alloc (.cells #[.int .u64 v3, .bool v4] 92)).alloc (.cells #[.int .u64 v3, .bool v4] 92))
      simpa only [World.size_alloc] using h
    have ns : Blk (((((((w.alloc (.cells #[.int .i64 a0_0, .bool a0_1, .int .u64 a0_2, .int .u64 a0_3, .int .u64 a0_4, .int .u64 a0_5] 49)).alloc (.cells #[.int .u64 a1_0, .int .u64 a1_1, .int .u64 a1_2, .bool a1_3] 51)).alloc (.cells #[.int .u64 a2_0, .int .u64 a2_1] 39)).alloc (.cells #[.int .u64 0, .bool false, .int .u64 0, .bool false] 99)).alloc (.cells #[.int .i64 a0_0, .bool a0_1, .int .u64 a0_2, .int .u64 a0_3, .int .u64 a0_4, .int .u64 a0_5] 49)).alloc (.cells #[.int .u64 v3, .bool v4] 92)).alloc (.cells #[.int .u64 v3, .bool v4] 92)) (w.heap.size + 1) 51 #[.int .u64 a1_0, .int .u64 a1_1, .int .u64 a1_2, .bool a1_3] := by
      have h := ((((((Blk.new (w.alloc (.cells #[.int .i64 a0_0, .bool a0_1, .int .u64 a0_2, .int .u64 a0_3, .int .u64 a0_4, .int .u64 a0_5] 49)) 51 #[.int .u64 a1_0, .int .u64 a1_1, .int .u64 a1_2, .bool a1_3]).alloc (.cells #[.int .u64 a2_0, .int .u64 a2_1] 39)).alloc (.cells #[.int .u64 0, .bool false, .int .u64 0, .bool false] 99)).alloc (.cells #[.int .i64 a0_0, .bool a0_1, .int .u64 a0_2, .int .u64 a0_3, .int .u64 a0_4, .int .u64 a0_5] 49)).alloc (.cells #[.int .u64 v3, .bool v4] 92)).alloc (.cells #[.int .u64 v3, .bool v4] 92))
      simpa only [World.size_alloc] using h
    have nd : Blk (((((((w.alloc (.cells #[.int .i64 a0_0, .bool a0_1, .int .u64 a0_2, .int .u64 a0_3, .int .u64 a0_4, .int .u64 a0_5] 49)).alloc (.cells #[.int .u64 a1_0, .int .u64 a1_1, .int .u64 a1_2, .bool a1_3] 51)).alloc (.cells #[.int .u64 a2_0, .int .u64 a2_1] 39)).alloc (.cells #[.int .u64 0, .bool false, .int .u64 0, .bool false] 99)).alloc (.cells #[.int .i64 a0_0, .bool a0_1, .int .u64 a0_2, .int .u64 a0_3, .int .u64 a0_4, .int .u64 a0_5] 49)).alloc (.cells #[.int .u64 v3, .bool v4] 92)).alloc (.cells #[.int .u64 v3, .bool v4] 92)) (w.heap.size + 1 + 1) 39 #[.int .u64 a2_0, .int .u64 a2_1] := by
      have h := (((((Blk.new ((w.alloc (.cells #[.int .i64 a0_0, .bool a0_1, .int .u64 a0_2, .int .u64 a0_3, .int .u64 a0_4, .int .u64 a0_5] 49)).alloc (.cells #[.int .u64 a1_0, .int .u64 a1_1, .int .u64 a1_2, .bool a1_3] 51)) 39 #[.int .u64 a2_0, .int .u64 a2_1]).alloc (.cells #[.int .u64 0, .bool false, .int .u64 0, .bool false] 99)).alloc (.cells #[.int .i64 a0_0, .bool a0_1, .int .u64 a0_2, .int .u64 a0_3, .int .u64 a0_4, .int .u64 a0_5] 49)).alloc (.cells #[.int .u64 v3, .bool v4] 92)).alloc (.cells #[.int .u64 v3, .bool v4] 92))
      simpa only [World.size_alloc] using h
    have nr : Blk (((((((w.alloc (.cells #[.int .i64 a0_0, .bool a0_1, .int .u64 a0_2, .int .u64 a0_3, .int .u64 a0_4, .int .u64 a0_5] 49)).alloc (.cells #[.int .u64 a1_0, .int .u64 a1_1, .int .u64 a1_2, .bool a1_3] 51)).alloc (.cells #[.int .u64 a2_0, .int .u64 a2_1] 39)).alloc (.cells #[.int .u64 0, .bool false, .int .u64 0, .bool false] 99)).alloc (.cells #[.int .i64 a0_0, .bool a0_1, .int .u64 a0_2, .int .u64 a0_3, .int .u64 a0_4, .int .u64 a0_5] 49)).alloc (.cells #[.int .u64 v3, .bool v4] 92)).alloc (.cells #[.int .u64 v3, .bool v4] 92)) (w.heap.size + 1 + 1 + 1) 99 #[.int .u64 0, .bool false, .int .u64 0, .bool false] := by
      have h := ((((Blk.new (((w.alloc (.cells #[.int .i64 a0_0, .bool a0_1, .int .u64 a0_2, .int .u64 a0_3, .int .u64 a0_4, .int .u64 a0_5] 49)).alloc (.cells #[.int .u64 a1_0, .int .u64 a1_1, .int .u64 a1_2, .bool a1_3] 51)).alloc (.cells #[.int .u64 a2_0, .int .u64 a2_1] 39)) 99 #[.int .u64 0, .bool false, .int .u64 0, .bool false]).alloc (.cells #[.int .i64 a0_0, .bool a0_1, .int .u64 a0_2, .int .u64 a0_3, .int .u64 a0_4, .int .u64 a0_5] 49)).alloc (.cells #[.int .u64 v3, .bool v4] 92)).alloc (.cells #[.int .u64 v3, .bool v4] 92))
      simpa only [World.size_alloc] using h
    have nt : Blk (((((((w.alloc (.cells #[.int .i64 a0_0, .bool a0_1, .int .u64 a0_2, .int .u64 a0_3, .int .u64 a0_4, .int .u64 a0_5] 49)).alloc (.cells #[.int .u64 a1_0, .int .u64 a1_1, .int .u64 a1_2, .bool a1_3] 51)).alloc (.cells #[.int .u64 a2_0, .int .u64 a2_1] 39)).alloc (.cells #[.int .u64 0, .bool false, .int .u64 0, .bool false] 99)).alloc (.cells #[.int .i64 a0_0, .bool a0_1, .int .u64 a0_2, .int .u64 a0_3, .int .u64 a0_4, .int .u64 a0_5] 49)).alloc (.cells #[.int .u64 v3, .bool v4] 92)).alloc (.cells #[.int .u64 v3, .bool v4] 92)) (w.heap.size + 1 + 1 + 1 + 1 + 1 + 1) 92 #[.int .u64 v3, .bool v4] := by
      have h := (Blk.new ((((((w.alloc (.cells #[.int .i64 a0_0, .bool a0_1, .int .u64 a0_2, .int .u64 a0_3, .int .u64 a0_4, .int .u64 a0_5] 49)).alloc (.cells #[.int .u64 a1_0, .int .u64 a1_1, .int .u64 a1_2, .bool a1_3] 51)).alloc (.cells #[.int .u64 a2_0, .int .u64 a2_1] 39)).alloc (.cells #[.int .u64 0, .bool false, .int .u64 0, .bool false] 99)).alloc (.cells #[.int .i64 a0_0, .bool a0_1, .int .u64 a0_2, .int .u64 a0_3, .int .u64 a0_4, .int .u64 a0_5] 49)).alloc (.cells #[.int .u64 v3, .bool v4] 92)) 92 #[.int .u64 v3, .bool v4])
      simpa only [World.size_alloc] using h
    have nB : Below w.heap.size w (((((((w.alloc (.cells #[.int .i64 a0_0, .bool a0_1, .int .u64 a0_2, .int .u64 a0_3, .int .u64 a0_4, .int .u64 a0_5] 49)).alloc (.cells #[.int .u64 a1_0, .int .u64 a1_1, .int .u64 a1_2, .bool a1_3] 51)).alloc (.cells #[.int .u64 a2_0, .int .u64 a2_1] 39)).alloc (.cells #[.int .u64 0, .bool false, .int .u64 0, .bool false] 99)).alloc (.cells #[.int .i64 a0_0, .bool a0_1, .int .u64 a0_2, .int .u64 a0_3, .int .u64 a0_4, .int .u64 a0_5] 49)).alloc (.cells #[.int .u64 v3, .bool v4] 92)).alloc (.cells #[.int .u64 v3, .bool v4] 92)) := by go_grown
    generalize (((((((w.alloc (.cells #[.int .i64 a0_0, .bool a0_1, .int .u64 a0_2, .int .u64 a0_3, .int .u64 a0_4, .int .u64 a0_5] 49)).alloc (.cells #[.int .u64 a1_0, .int .u64 a1_1, .int .u64 a1_2, .bool a1_3] 51)).alloc (.cells #[.int .u64 a2_0, .int .u64 a2_1] 39)).alloc (.cells #[.int .u64 0, .bool false, .int .u64 0, .bool false] 99)).alloc (.cells #[.int .i64 a0_0, .bool a0_1, .int .u64 a0_2, .int .u64 a0_3, .int .u64 a0_4, .int .u64 a0_5] 49)).alloc (.cells #[.int .u64 v3, .bool v4] 92)).alloc (.cells #[.int .u64 v3, .bool v4] 92)) = W0 at *
    have lm := nm.lt
    have ls := ns.lt
    have ld := nd.lt
    have lr := nr.lt
    have lt := nt.lt
    have p0 := nm.cell 0
    have p1 := nm.cell 1
    have p2 := nm.cell 2
    have p3 := nm.cell 3
    have p4 := nm.cell 4
    have p5 := nm.cell 5
    have pf0 := nm.frozen 0
    have pf1 := nm.frozen 1
    have pf2 := nm.frozen 2
    have pf3 := nm.frozen 3
    have pf4 := nm.frozen 4
    have pf5 := nm.frozen 5
    simp only [List.getElem?_toArray, List.getElem?_cons_zero, List.getElem?_cons_succ] at p0 p1 p2 p3 p4 p5
    have q0 := ns.cell 0
    have q1 := ns.cell 1
    have q2 := ns.cell 2
    have q3 := ns.cell 3
    have qf0 := ns.frozen 0
    have qf1 := ns.frozen 1
    have qf2 := ns.frozen 2
    have qf3 := ns.frozen 3
    simp only [List.getElem?_toArray, List.getElem?_cons_zero, List.getElem?_cons_succ] at q0 q1 q2 q3
    have o0 := nd.cell 0
    have o1 := nd.cell 1
    have of0 := nd.frozen 0
    have of1 := nd.frozen 1
    simp only [List.getElem?_toArray, List.getElem?_cons_zero, List.getElem?_cons_succ] at o0 o1
    have t0 := nt.cell 0
    have t1 := nt.cell 1
    have tf0 := nt.frozen 0
    have tf1 := nt.frozen 1
    simp only [List.getElem?_toArray, List.getElem?_cons_zero, List.getElem?_cons_succ] at t0 t1
    refine wp_region_calls 10 (by kernel_rfl) (by kernel_rfl) ?_
    simp only [List.take_succ_cons, List.take_zero, List.drop_succ_cons, List.drop_zero]
    refine walk1_open fun K hK => ?_
    iterate 8
      apply walk1_value (by rfl)
      · intro W hcl hsz; go_simp; rfl
      simp only [Act.put, List.setIfInBounds_toArray, List.set_cons_zero, List.set_cons_succ]
    apply walk1_call (by rfl)
    · intro W hsz; go_simp; first | exact ⟨rfl, rfl⟩ | rfl
    · intro W hlW; exact outlook_until.calls _ _ _ _ _ _ W G3.out
    simp only [Act.put, List.setIfInBounds_toArray, List.set_cons_zero, List.set_cons_succ]
    repeat
      apply walk1_value (by rfl)
      · intro W hcl hsz; go_simp; rfl
      simp only [Act.put, List.setIfInBounds_toArray, List.set_cons_zero, List.set_cons_succ]
    refine walk1_nil (hK _ ?_); clear hK K
    intro W1 hW1
    replace nr := nr.step hW1
    replace nB := below_of nB hW1
    clear hW1 p0 p1 p2 p3 p4 p5 pf0 pf1 pf2 pf3 pf4 pf5 q0 q1 q2 q3 qf0 qf1 qf2 qf3 o0 o1 of0 of1 t0 t1 tf0 tf1 nm ns nd nt lm ls ld lr lt
    have r0 := nr.cell 0
    have r1 := nr.cell 1
    have r2 := nr.cell 2
    have r3 := nr.cell 3
    have rf0 := nr.frozen 0
    have rf1 := nr.frozen 1
    have rf2 := nr.frozen 2
    have rf3 := nr.frozen 3
    simp only [List.getElem?_toArray, List.getElem?_cons_zero, List.getElem?_cons_succ] at r0 r1 r2 r3
    have lr := nr.lt
    go_wp2_with fail
    have R := (((nr.put 0 (.int .u64 v3)).put 1 (.bool v4)).put 2 (.int .u64 v5)).put 3 (.bool v6)
    simp only [List.setIfInBounds_toArray, List.set_cons_zero, List.set_cons_succ] at R
    have RB : Below w.heap.size w ((((W1.setCell ⟨w.heap.size + 1 + 1 + 1, 0, none⟩ (.int .u64 v3)).setCell ⟨w.heap.size + 1 + 1 + 1, 1, none⟩ (.bool v4)).setCell ⟨w.heap.size + 1 + 1 + 1, 2, none⟩ (.int .u64 v5)).setCell ⟨w.heap.size + 1 + 1 + 1, 3, none⟩ (.bool v6)) := (((nB.setCell (p := ⟨w.heap.size + 1 + 1 + 1, 0, none⟩) (by simp <;> omega) _).setCell (p := ⟨w.heap.size + 1 + 1 + 1, 1, none⟩) (by simp <;> omega) _).setCell (p := ⟨w.heap.size + 1 + 1 + 1, 2, none⟩) (by simp <;> omega) _).setCell (p := ⟨w.heap.size + 1 + 1 + 1, 3, none⟩) (by simp <;> omega) _
    generalize ((((W1.setCell ⟨w.heap.size + 1 + 1 + 1, 0, none⟩ (.int .u64 v3)).setCell ⟨w.heap.size + 1 + 1 + 1, 1, none⟩ (.bool v4)).setCell ⟨w.heap.size + 1 + 1 + 1, 2, none⟩ (.int .u64 v5)).setCell ⟨w.heap.size + 1 + 1 + 1, 3, none⟩ (.bool v6)) = W9 at R RB ⊢
    have y0 := R.cell 0
    have y1 := R.cell 1
    have y2 := R.cell 2
    have y3 := R.cell 3
    have yf0 := R.frozen 0
    have yf1 := R.frozen 1
    have yf2 := R.frozen 2
    have yf3 := R.frozen 3
    simp only [List.getElem?_toArray, List.getElem?_cons_zero, List.getElem?_cons_succ] at y0 y1 y2 y3
    refine bodyPost_ret (by simp [results, Try.results60, go_sem, y0, y1, y2, y3]) rfl ⟨rfl, RB⟩
  · rw [if_neg hk] at h
    obtain ⟨⟨v5, v6⟩, g3, h⟩ := Option.bind_eq_some_iff.1 h
    simp only [Option.some.injEq, Prod.mk.injEq] at h
    obtain ⟨rfl, rfl, rfl, rfl⟩ := h
    have G3 := Lib.hid g3
    have hk' : (a0_0 == 2) = false := by simp [hk]
    clear g3 hk
    go_enter Try.func60, Try.ntmps60
    go_upto_region 5 with (first | (go_at_call 59; refine (outlook_rims.exact _ _ _ _ _ _ _ _ _ G1.out).mono ?_; rintro e w' ⟨rfl, rfl⟩) | (go_at_call 81; refine (outlook_until.exact _ _ _ _ _ _ _ G2.out).mono ?_; rintro e w' ⟨rfl, rfl⟩))
    have nm : Blk (((((((w.alloc (.cells #[.int .i64 a0_0, .bool a0_1, .int .u64 a0_2, .int .u64 a0_3, .int .u64 a0_4, .int .u64 a0_5] 49)).alloc (.cells #[.int .u64 a1_0, .int .u64 a1_1, .int .u64 a1_2, .bool a1_3] 51)).alloc (.cells #[.int .u64 a2_0, .int .u64 a2_1] 39)).alloc (.cells #[.int .u64 0, .bool false, .int .u64 0, .bool false] 99)).alloc (.cells #[.int .i64 a0_0, .bool a0_1, .int .u64 a0_2, .int .u64 a0_3, .int .u64 a0_4, .int .u64 a0_5] 49)).alloc (.cells #[.int .u64 v3, .bool v4] 92)).alloc (.cells #[.int .u64 v3, .bool v4] 92)) (w.heap.size) 49 #[.int .i64 a0_0, .bool a0_1, .int .u64 a0_2, .int .u64 a0_3, .int .u64 a0_4, .int .u64 a0_5] := by
      have h := (((((((Blk.new w 49 #[.int .i64 a0_0, .bool a0_1, .int .u64 a0_2, .int .u64 a0_3, .int .u64 a0_4, .int .u64 a0_5]).alloc (.cells #[.int .u64 a1_0, .int .u64 a1_1, .int .u64 a1_2, .bool a1_3] 51)).alloc (.cells #[.int .u64 a2_0, .int .u64 a2_1] 39)).alloc (.cells #[.int .u64 0, .bool false, .int .u64 0, .bool false] 99)).alloc (.cells #[.int .i64 a0_0, .bool a0_1, .int .u64 a0_2, .int .u64 a0_3, .int .u64 a0_4, .int .u64 a0_5] 49)).alloc (.cells #[.int .u64 v3, .bool v4] 92)).alloc (.cells #[.int .u64 v3, .bool v4] 92))
      simpa only [World.size_alloc] using h
    have ns : Blk (((((((w.alloc (.cells #[.int .i64 a0_0, .bool a0_1, .int .u64 a0_2, .int .u64 a0_3, .int .u64 a0_4, .int .u64 a0_5] 49)).alloc (.cells #[.int .u64 a1_0, .int .u64 a1_1, .int .u64 a1_2, .bool a1_3] 51)).alloc (.cells #[.int .u64 a2_0, .int .u64 a2_1] 39)).alloc (.cells #[.int .u64 0, .bool false, .int .u64 0, .bool false] 99)).alloc (.cells #[.int .i64 a0_0, .bool a0_1, .int .u64 a0_2, .int .u64 a0_3, .int .u64 a0_4, .int .u64 a0_5] 49)).alloc (.cells #[.int .u64 v3, .bool v4] 92)).alloc (.cells #[.int .u64 v3, .bool v4] 92)) (w.heap.size + 1) 51 #[.int .u64 a1_0, .int .u64 a1_1, .int .u64 a1_2, .bool a1_3] := by
      have h := ((((((Blk.new (w.alloc (.cells #[.int .i64 a0_0, .bool a0_1, .int .u64 a0_2, .int .u64 a0_3, .int .u64 a0_4, .int .u64 a0_5] 49)) 51 #[.int .u64 a1_0, .int .u64 a1_1, .int .u64 a1_2, .bool a1_3]).alloc (.cells #[.int .u64 a2_0, .int .u64 a2_1] 39)).alloc (.cells #[.int .u64 0, .bool false, .int .u64 0, .bool false] 99)).alloc (.cells #[.int .i64 a0_0, .bool a0_1, .int .u64 a0_2, .int .u64 a0_3, .int .u64 a0_4, .int .u64 a0_5] 49)).alloc (.cells #[.int .u64 v3, .bool v4] 92)).alloc (.cells #[.int .u64 v3, .bool v4] 92))
      simpa only [World.size_alloc] using h
    have nd : Blk (((((((w.alloc (.cells #[.int .i64 a0_0, .bool a0_1, .int .u64 a0_2, .int .u64 a0_3, .int .u64 a0_4, .int .u64 a0_5] 49)).alloc (.cells #[.int .u64 a1_0, .int .u64 a1_1, .int .u64 a1_2, .bool a1_3] 51)).alloc (.cells #[.int .u64 a2_0, .int .u64 a2_1] 39)).alloc (.cells #[.int .u64 0, .bool false, .int .u64 0, .bool false] 99)).alloc (.cells #[.int .i64 a0_0, .bool a0_1, .int .u64 a0_2, .int .u64 a0_3, .int .u64 a0_4, .int .u64 a0_5] 49)).alloc (.cells #[.int .u64 v3, .bool v4] 92)).alloc (.cells #[.int .u64 v3, .bool v4] 92)) (w.heap.size + 1 + 1) 39 #[.int .u64 a2_0, .int .u64 a2_1] := by
      have h := (((((Blk.new ((w.alloc (.cells #[.int .i64 a0_0, .bool a0_1, .int .u64 a0_2, .int .u64 a0_3, .int .u64 a0_4, .int .u64 a0_5] 49)).alloc (.cells #[.int .u64 a1_0, .int .u64 a1_1, .int .u64 a1_2, .bool a1_3] 51)) 39 #[.int .u64 a2_0, .int .u64 a2_1]).alloc (.cells #[.int .u64 0, .bool false, .int .u64 0, .bool false] 99)).alloc (.cells #[.int .i64 a0_0, .bool a0_1, .int .u64 a0_2, .int .u64 a0_3, .int .u64 a0_4, .int .u64 a0_5] 49)).alloc (.cells #[.int .u64 v3, .bool v4] 92)).alloc (.cells #[.int .u64 v3, .bool v4] 92))
      simpa only [World.size_alloc] using h
    have nr : Blk (((((((w.alloc (.cells #[.int .i64 a0_0, .bool a0_1, .int .u64 a0_2, .int .u64 a0_3, .int .u64 a0_4, .int .u64 a0_5] 49)).alloc (.cells #[.int .u64 a1_0, .int .u64 a1_1, .int .u64 a1_2, .bool a1_3] 51)).alloc (.cells #[.int .u64 a2_0, .int .u64 a2_1] 39)).alloc (.cells #[.int .u64 0, .bool false, .int .u64 0, .bool false] 99)).alloc (.cells #[.int .i64 a0_0, .bool a0_1, .int .u64 a0_2, .int .u64 a0_3, .int .u64 a0_4, .int .u64 a0_5] 49)).alloc (.cells #[.int .u64 v3, .bool v4] 92)).alloc (.cells #[.int .u64 v3, .bool v4] 92)) (w.heap.size + 1 + 1 + 1) 99 #[.int .u64 0, .bool false, .int .u64 0, .bool false] := by
      have h := ((((Blk.new (((w.alloc (.cells #[.int .i64 a0_0, .bool a0_1, .int .u64 a0_2, .int .u64 a0_3, .int .u64 a0_4, .int .u64 a0_5] 49)).alloc (.cells #[.int .u64 a1_0, .int .u64 a1_1, .int .u64 a1_2, .bool a1_3] 51)).alloc (.cells #[.int .u64 a2_0, .int .u64 a2_1] 39)) 99 #[.int .u64 0, .bool false, .int .u64 0, .bool false]).alloc (.cells #[.int .i64 a0_0, .bool a0_1, .int .u64 a0_2, .int .u64 a0_3, .int .u64 a0_4, .int .u64 a0_5] 49)).alloc (.cells #[.int .u64 v3, .bool v4] 92)).alloc (.cells #[.int .u64 v3, .bool v4] 92))
      simpa only [World.size_alloc] using h
    have nt : Blk (((((((w.alloc (.cells #[.int .i64 a0_0, .bool a0_1, .int .u64 a0_2, .int .u64 a0_3, .int .u64 a0_4, .int .u64 a0_5] 49)).alloc (.cells #[.int .u64 a1_0, .int .u64 a1_1, .int .u64 a1_2, .bool a1_3] 51)).alloc (.cells #[.int .u64 a2_0, .int .u64 a2_1] 39)).alloc (.cells #[.int .u64 0, .bool false, .int .u64 0, .bool false] 99)).alloc (.cells #[.int .i64 a0_0, .bool a0_1, .int .u64 a0_2, .int .u64 a0_3, .int .u64 a0_4, .int .u64 a0_5] 49)).alloc (.cells #[.int .u64 v3, .bool v4] 92)).alloc (.cells #[.int .u64 v3, .bool v4] 92)) (w.heap.size + 1 + 1 + 1 + 1 + 1 + 1) 92 #[.int .u64 v3, .bool v4] := by
      have h := (Blk.new ((((((w.alloc (.cells #[.int .i64 a0_0, .bool a0_1, .int .u64 a0_2, .int .u64 a0_3, .int .u64 a0_4, .int .u64 a0_5] 49)).alloc (.cells #[.int .u64 a1_0, .int .u64 a1_1, .int .u64 a1_2, .bool a1_3] 51)).alloc (.cells #[.int .u64 a2_0, .int .u64 a2_1] 39)).alloc (.cells #[.int .u64 0, .bool false, .int .u64 0, .bool false] 99)).alloc (.cells #[.int .i64 a0_0, .bool a0_1, .int .u64 a0_2, .int .u64 a0_3, .int .u64 a0_4, .int .u64 a0_5] 49)).alloc (.cells #[.int .u64 v3, .bool v4] 92)) 92 #[.int .u64 v3, .bool v4])
      simpa only [World.size_alloc] using h
    have nB : Below w.heap.size w (((((((w.alloc (.cells #[.int .i64 a0_0, .bool a0_1, .int .u64 a0_2, .int .u64 a0_3, .int .u64 a0_4, .int .u64 a0_5] 49)).alloc (.cells #[.int .u64 a1_0, .int .u64 a1_1, .int .u64 a1_2, .bool a1_3] 51)).alloc (.cells #[.int .u64 a2_0, .int .u64 a2_1] 39)).alloc (.cells #[.int .u64 0, .bool false, .int .u64 0, .bool false] 99)).alloc (.cells #[.int .i64 a0_0, .bool a0_1, .int .u64 a0_2, .int .u64 a0_3, .int .u64 a0_4, .int .u64 a0_5] 49)).alloc (.cells #[.int .u64 v3, .bool v4] 92)).alloc (.cells #[.int .u64 v3, .bool v4] 92)) := by go_grown
    generalize (((((((w.alloc (.cells #[.int .i64 a0_0, .bool a0_1, .int .u64 a0_2, .int .u64 a0_3, .int .u64 a0_4, .int .u64 a0_5] 49)).alloc (.cells #[.int .u64 a1_0, .int .u64 a1_1, .int .u64 a1_2, .bool a1_3] 51)).alloc (.cells #[.int .u64 a2_0, .int .u64 a2_1] 39)).alloc (.cells #[.int .u64 0, .bool false, .int .u64 0, .bool false] 99)).alloc (.cells #[.int .i64 a0_0, .bool a0_1, .int .u64 a0_2, .int .u64 a0_3, .int .u64 a0_4, .int .u64 a0_5] 49)).alloc (.cells #[.int .u64 v3, .bool v4] 92)).alloc (.cells #[.int .u64 v3, .bool v4] 92)) = W0 at *
    have lm := nm.lt
    have ls := ns.lt
    have ld := nd.lt
    have lr := nr.lt
    have lt := nt.lt
    have p0 := nm.cell 0
    have p1 := nm.cell 1
    have p2 := nm.cell 2
    have p3 := nm.cell 3
    have p4 := nm.cell 4
    have p5 := nm.cell 5
    have pf0 := nm.frozen 0
    have pf1 := nm.frozen 1
    have pf2 := nm.frozen 2
    have pf3 := nm.frozen 3
    have pf4 := nm.frozen 4
    have pf5 := nm.frozen 5
    simp only [List.getElem?_toArray, List.getElem?_cons_zero, List.getElem?_cons_succ] at p0 p1 p2 p3 p4 p5
    have q0 := ns.cell 0
    have q1 := ns.cell 1
    have q2 := ns.cell 2
    have q3 := ns.cell 3
    have qf0 := ns.frozen 0
    have qf1 := ns.frozen 1
    have qf2 := ns.frozen 2
    have qf3 := ns.frozen 3
    simp only [List.getElem?_toArray, List.getElem?_cons_zero, List.getElem?_cons_succ] at q0 q1 q2 q3
    have o0 := nd.cell 0
    have o1 := nd.cell 1
    have of0 := nd.frozen 0
    have of1 := nd.frozen 1
    simp only [List.getElem?_toArray, List.getElem?_cons_zero, List.getElem?_cons_succ] at o0 o1
    have t0 := nt.cell 0
    have t1 := nt.cell 1
    have tf0 := nt.frozen 0
    have tf1 := nt.frozen 1
    simp only [List.getElem?_toArray, List.getElem?_cons_zero, List.getElem?_cons_succ] at t0 t1
    refine wp_region_calls 7 (by kernel_rfl) (by kernel_rfl) ?_
    simp only [List.take_succ_cons, List.take_zero, List.drop_succ_cons, List.drop_zero]
    refine walk1_open fun K hK => ?_
    iterate 5
      apply walk1_value (by rfl)
      · intro W hcl hsz; go_simp; rfl
      simp only [Act.put, List.setIfInBounds_toArray, List.set_cons_zero, List.set_cons_succ]
    apply walk1_call (by rfl)
    · intro W hsz; go_simp; first | exact ⟨rfl, rfl⟩ | rfl
    · intro W hlW; exact outlook_second.calls _ _ _ _ _ _ _ _ _ _ _ _ _ W G3.out
    simp only [Act.put, List.setIfInBounds_toArray, List.set_cons_zero, List.set_cons_succ]
    repeat
      apply walk1_value (by rfl)
      · intro W hcl hsz; go_simp; rfl
      simp only [Act.put, List.setIfInBounds_toArray, List.set_cons_zero, List.set_cons_succ]
    refine walk1_nil (hK _ ?_); clear hK K
    intro W1 hW1
    replace nr := nr.step hW1
    replace nB := below_of nB hW1
    clear hW1 p0 p1 p2 p3 p4 p5 pf0 pf1 pf2 pf3 pf4 pf5 q0 q1 q2 q3 qf0 qf1 qf2 qf3 o0 o1 of0 of1 t0 t1 tf0 tf1 nm ns nd nt lm ls ld lr lt
    have r0 := nr.cell 0
    have r1 := nr.cell 1
    have r2 := nr.cell 2
    have r3 := nr.cell 3
    have rf0 := nr.frozen 0
    have rf1 := nr.frozen 1
    have rf2 := nr.frozen 2
    have rf3 := nr.frozen 3
    simp only [List.getElem?_toArray, List.getElem?_cons_zero, List.getElem?_cons_succ] at r0 r1 r2 r3
    have lr := nr.lt
    go_wp2_with fail
    have R := (((nr.put 0 (.int .u64 v3)).put 1 (.bool v4)).put 2 (.int .u64 v5)).put 3 (.bool v6)
    simp only [List.setIfInBounds_toArray, List.set_cons_zero, List.set_cons_succ] at R
    have RB : Below w.heap.size w ((((W1.setCell ⟨w.heap.size + 1 + 1 + 1, 0, none⟩ (.int .u64 v3)).setCell ⟨w.heap.size + 1 + 1 + 1, 1, none⟩ (.bool v4)).setCell ⟨w.heap.size + 1 + 1 + 1, 2, none⟩ (.int .u64 v5)).setCell ⟨w.heap.size + 1 + 1 + 1, 3, none⟩ (.bool v6)) := (((nB.setCell (p := ⟨w.heap.size + 1 + 1 + 1, 0, none⟩) (by simp <;> omega) _).setCell (p := ⟨w.heap.size + 1 + 1 + 1, 1, none⟩) (by simp <;> omega) _).setCell (p := ⟨w.heap.size + 1 + 1 + 1, 2, none⟩) (by simp <;> omega) _).setCell (p := ⟨w.heap.size + 1 + 1 + 1, 3, none⟩) (by simp <;> omega) _
    generalize ((((W1.setCell ⟨w.heap.size + 1 + 1 + 1, 0, none⟩ (.int .u64 v3)).setCell ⟨w.heap.size + 1 + 1 + 1, 1, none⟩ (.bool v4)).setCell ⟨w.heap.size + 1 + 1 + 1, 2, none⟩ (.int .u64 v5)).setCell ⟨w.heap.size + 1 + 1 + 1, 3, none⟩ (.bool v6)) = W9 at R RB ⊢
    have y0 := R.cell 0
    have y1 := R.cell 1
    have y2 := R.cell 2
    have y3 := R.cell 3
    have yf0 := R.frozen 0
    have yf1 := R.frozen 1
    have yf2 := R.frozen 2
    have yf3 := R.frozen 3
    simp only [List.getElem?_toArray, List.getElem?_cons_zero, List.getElem?_cons_succ] at y0 y1 y2 y3
    refine bodyPost_ret (by simp [results, Try.results60, go_sem, y0, y1, y2, y3]) rfl ⟨rfl, RB⟩

set_option maxRecDepth 100000 in
set_option maxHeartbeats 1000000 in
theorem outlook_wait.calls (k : Nat) (a0_0 : Int) (a0_1 : Bool) (a0_2 : Int) (a0_3 : Int) (a0_4 : Int) (a0_5 : Int) (a1_0 : Int) (a1_1 : Int) (a1_2 : Int) (a1_3 : Bool) (a2 : Int) (a3 : Int) (r1 : Int) (r2 : Bool) (w : World) (h : outlook_wait.f k a0_0 a0_1 a0_2 a0_3 a0_4 a0_5 a1_0 a1_1 a1_2 a1_3 a2 a3 = some (r1, r2)) :
    Calls Try.prog 56 #[.agg #[.int .i64 a0_0, .bool a0_1, .int .u64 a0_2, .int .u64 a0_3, .int .u64 a0_4, .int .u64 a0_5], .agg #[.int .u64 a1_0, .int .u64 a1_1, .int .u64 a1_2, .bool a1_3], .int .u64 a2, .int .i64 a3] w fun e w' => e = .returned (.agg #[.int .u64 r1, .bool r2]) ∧ Below w.heap.size w w' := by
  unfold outlook_wait.f at h
  obtain ⟨⟨v1, v2, v3, v4⟩, g1, h⟩ := Option.bind_eq_some_iff.1 h
  dsimp only at h
  have G1 := Lib.hid g1
  clear g1
  by_cases w2 : a3 = 2
  · rw [if_pos w2] at h
    simp only [Option.some.injEq, Prod.mk.injEq] at h
    obtain ⟨rfl, rfl⟩ := h
    have w2' : (a3 == 2) = true := by simp [w2]
    clear w2
    go_enter Try.func56, Try.ntmps56
    go_wp2_with fail
    have nm : Blk (((w.alloc (.cells #[.int .i64 a0_0, .bool a0_1, .int .u64 a0_2, .int .u64 a0_3, .int .u64 a0_4, .int .u64 a0_5] 49)).alloc (.cells #[.int .u64 a1_0, .int .u64 a1_1, .int .u64 a1_2, .bool a1_3] 51)).alloc (.cells #[.int .u64 0, .bool false] 92)) (w.heap.size) 49 #[.int .i64 a0_0, .bool a0_1, .int .u64 a0_2, .int .u64 a0_3, .int .u64 a0_4, .int .u64 a0_5] := by
      have h := (((Blk.new w 49 #[.int .i64 a0_0, .bool a0_1, .int .u64 a0_2, .int .u64 a0_3, .int .u64 a0_4, .int .u64 a0_5]).alloc (.cells #[.int .u64 a1_0, .int .u64 a1_1, .int .u64 a1_2, .bool a1_3] 51)).alloc (.cells #[.int .u64 0, .bool false] 92))
      simpa only [World.size_alloc] using h
    have nr : Blk (((w.alloc (.cells #[.int .i64 a0_0, .bool a0_1, .int .u64 a0_2, .int .u64 a0_3, .int .u64 a0_4, .int .u64 a0_5] 49)).alloc (.cells #[.int .u64 a1_0, .int .u64 a1_1, .int .u64 a1_2, .bool a1_3] 51)).alloc (.cells #[.int .u64 0, .bool false] 92)) (w.heap.size + 1 + 1) 92 #[.int .u64 0, .bool false] := by
      have h := (Blk.new ((w.alloc (.cells #[.int .i64 a0_0, .bool a0_1, .int .u64 a0_2, .int .u64 a0_3, .int .u64 a0_4, .int .u64 a0_5] 49)).alloc (.cells #[.int .u64 a1_0, .int .u64 a1_1, .int .u64 a1_2, .bool a1_3] 51)) 92 #[.int .u64 0, .bool false])
      simpa only [World.size_alloc] using h
    have nB : Below w.heap.size w (((w.alloc (.cells #[.int .i64 a0_0, .bool a0_1, .int .u64 a0_2, .int .u64 a0_3, .int .u64 a0_4, .int .u64 a0_5] 49)).alloc (.cells #[.int .u64 a1_0, .int .u64 a1_1, .int .u64 a1_2, .bool a1_3] 51)).alloc (.cells #[.int .u64 0, .bool false] 92)) := by go_grown
    generalize (((w.alloc (.cells #[.int .i64 a0_0, .bool a0_1, .int .u64 a0_2, .int .u64 a0_3, .int .u64 a0_4, .int .u64 a0_5] 49)).alloc (.cells #[.int .u64 a1_0, .int .u64 a1_1, .int .u64 a1_2, .bool a1_3] 51)).alloc (.cells #[.int .u64 0, .bool false] 92)) = W0 at *
    have k_r : w.heap.size + 1 < W0.heap.size := by have := nr.lt; omega
    refine (outlook_buckets.calls _ _ _ _ _ _ _ _ _ _ _ _ _ _ _ _ _ G1.out).mono ?_
    rintro e W1 ⟨rfl, hW1⟩
    have k_b := hW1.size
    replace nm := nm.step hW1
    replace nr := nr.step hW1
    replace nB := below_of nB hW1
    clear hW1
    go_upto_if 16 with fail
    have lr1 := nr.lt
    have lm1 := nm.lt
    replace nm := nm.alloc (.cells #[.int .u64 v1, .bool v2, .int .u64 v3, .bool v4] 99)
    replace nr := nr.alloc (.cells #[.int .u64 v1, .bool v2, .int .u64 v3, .bool v4] 99)
    have ns := Blk.new W1 99 #[.int .u64 v1, .bool v2, .int .u64 v3, .bool v4]
    replace nB := nB.alloc nB.size (.cells #[.int .u64 v1, .bool v2, .int .u64 v3, .bool v4] 99)
    generalize W1.alloc (.cells #[.int .u64 v1, .bool v2, .int .u64 v3, .bool v4] 99) = W2 at *
    generalize W1.heap.size = gs at *
    have p0 := nm.cell 0
    have p1 := nm.cell 1
    have p2 := nm.cell 2
    have p3 := nm.cell 3
    have p4 := nm.cell 4
    have p5 := nm.cell 5
    have pf0 := nm.frozen 0
    have pf1 := nm.frozen 1
    have pf2 := nm.frozen 2
    have pf3 := nm.frozen 3
    have pf4 := nm.frozen 4
    have pf5 := nm.frozen 5
    simp only [List.getElem?_toArray, List.getElem?_cons_zero, List.getElem?_cons_succ] at p0 p1 p2 p3 p4 p5
    have q0 := ns.cell 0
    have q1 := ns.cell 1
    have q2 := ns.cell 2
    have q3 := ns.cell 3
    have qf0 := ns.frozen 0
    have qf1 := ns.frozen 1
    have qf2 := ns.frozen 2
    have qf3 := ns.frozen 3
    simp only [List.getElem?_toArray, List.getElem?_cons_zero, List.getElem?_cons_succ] at q0 q1 q2 q3
    have r0 := nr.cell 0
    have r1 := nr.cell 1
    have rf0 := nr.frozen 0
    have rf1 := nr.frozen 1
    simp only [List.getElem?_toArray, List.getElem?_cons_zero, List.getElem?_cons_succ] at r0 r1
    go_wp2_with fail
    have R := (nr.put 0 (.int .u64 0)).put 1 (.bool false)
    simp only [List.setIfInBounds_toArray, List.set_cons_zero, List.set_cons_succ] at R
    have RB : Below w.heap.size w ((W2.setCell ⟨w.heap.size + 1 + 1, 0, none⟩ (.int .u64 0)).setCell ⟨w.heap.size + 1 + 1, 1, none⟩ (.bool false)) := (nB.setCell (p := ⟨w.heap.size + 1 + 1, 0, none⟩) (by simp <;> omega) _).setCell (p := ⟨w.heap.size + 1 + 1, 1, none⟩) (by simp <;> omega) _
    clear p0 p1 p2 p3 p4 p5 pf0 pf1 pf2 pf3 pf4 pf5 q0 q1 q2 q3 qf0 qf1 qf2 qf3 r0 r1 rf0 rf1
    generalize ((W2.setCell ⟨w.heap.size + 1 + 1, 0, none⟩ (.int .u64 0)).setCell ⟨w.heap.size + 1 + 1, 1, none⟩ (.bool false)) = W9 at R RB ⊢
    have y0 := R.cell 0
    have y1 := R.cell 1
    have yf0 := R.frozen 0
    have yf1 := R.frozen 1
    simp only [List.getElem?_toArray, List.getElem?_cons_zero, List.getElem?_cons_succ] at y0 y1
    refine bodyPost_ret (by simp [results, Try.results56, go_sem, y0, y1]) rfl ⟨rfl, RB⟩

  · rw [if_neg w2] at h
    have w2' : (a3 == 2) = false := by simp [w2]
    clear w2
    cases k with
    | zero => simp [outlook_wait.j0] at h
    | succ k =>
      simp only [outlook_wait.j0] at h
      by_cases hk : a0_0 = 2
      · rw [if_pos hk] at h
        have hk' : (a0_0 == 2) = true := by simp [hk]
        by_cases w0 : a3 = 0
        · rw [if_pos (by simp [w0])] at h
          have w0' : (a3 == 0) = true := by simp [w0]
          obtain ⟨⟨v5, v6⟩, g3, h⟩ := Option.bind_eq_some_iff.1 h
          simp only [Option.some.injEq, Prod.mk.injEq] at h
          obtain ⟨rfl, rfl⟩ := h
          have G3 := Lib.hid g3
          clear g3 hk w0
          go_enter Try.func56, Try.ntmps56
          go_wp2_with fail
          have nm : Blk (((w.alloc (.cells #[.int .i64 a0_0, .bool a0_1, .int .u64 a0_2, .int .u64 a0_3, .int .u64 a0_4, .int .u64 a0_5] 49)).alloc (.cells #[.int .u64 a1_0, .int .u64 a1_1, .int .u64 a1_2, .bool a1_3] 51)).alloc (.cells #[.int .u64 0, .bool false] 92)) (w.heap.size) 49 #[.int .i64 a0_0, .bool a0_1, .int .u64 a0_2, .int .u64 a0_3, .int .u64 a0_4, .int .u64 a0_5] := by
            have h := (((Blk.new w 49 #[.int .i64 a0_0, .bool a0_1, .int .u64 a0_2, .int .u64 a0_3, .int .u64 a0_4, .int .u64 a0_5]).alloc (.cells #[.int .u64 a1_0, .int .u64 a1_1, .int .u64 a1_2, .bool a1_3] 51)).alloc (.cells #[.int .u64 0, .bool false] 92))
            simpa only [World.size_alloc] using h
          have nr : Blk (((w.alloc (.cells #[.int .i64 a0_0, .bool a0_1, .int .u64 a0_2, .int .u64 a0_3, .int .u64 a0_4, .int .u64 a0_5] 49)).alloc (.cells #[.int .u64 a1_0, .int .u64 a1_1, .int .u64 a1_2, .bool a1_3] 51)).alloc (.cells #[.int .u64 0, .bool false] 92)) (w.heap.size + 1 + 1) 92 #[.int .u64 0, .bool false] := by
            have h := (Blk.new ((w.alloc (.cells #[.int .i64 a0_0, .bool a0_1, .int .u64 a0_2, .int .u64 a0_3, .int .u64 a0_4, .int .u64 a0_5] 49)).alloc (.cells #[.int .u64 a1_0, .int .u64 a1_1, .int .u64 a1_2, .bool a1_3] 51)) 92 #[.int .u64 0, .bool false])
            simpa only [World.size_alloc] using h
          have nB : Below w.heap.size w (((w.alloc (.cells #[.int .i64 a0_0, .bool a0_1, .int .u64 a0_2, .int .u64 a0_3, .int .u64 a0_4, .int .u64 a0_5] 49)).alloc (.cells #[.int .u64 a1_0, .int .u64 a1_1, .int .u64 a1_2, .bool a1_3] 51)).alloc (.cells #[.int .u64 0, .bool false] 92)) := by go_grown
          generalize (((w.alloc (.cells #[.int .i64 a0_0, .bool a0_1, .int .u64 a0_2, .int .u64 a0_3, .int .u64 a0_4, .int .u64 a0_5] 49)).alloc (.cells #[.int .u64 a1_0, .int .u64 a1_1, .int .u64 a1_2, .bool a1_3] 51)).alloc (.cells #[.int .u64 0, .bool false] 92)) = W0 at *
          have k_r : w.heap.size + 1 < W0.heap.size := by have := nr.lt; omega
          refine (outlook_buckets.calls _ _ _ _ _ _ _ _ _ _ _ _ _ _ _ _ _ G1.out).mono ?_
          rintro e W1 ⟨rfl, hW1⟩
          have k_b := hW1.size
          replace nm := nm.step hW1
          replace nr := nr.step hW1
          replace nB := below_of nB hW1
          clear hW1
          go_upto_if 16 with fail
          have lr1 := nr.lt
          have lm1 := nm.lt
          replace nm := nm.alloc (.cells #[.int .u64 v1, .bool v2, .int .u64 v3, .bool v4] 99)
          replace nr := nr.alloc (.cells #[.int .u64 v1, .bool v2, .int .u64 v3, .bool v4] 99)
          have ns := Blk.new W1 99 #[.int .u64 v1, .bool v2, .int .u64 v3, .bool v4]
          replace nB := nB.alloc nB.size (.cells #[.int .u64 v1, .bool v2, .int .u64 v3, .bool v4] 99)
          generalize W1.alloc (.cells #[.int .u64 v1, .bool v2, .int .u64 v3, .bool v4] 99) = W2 at *
          generalize W1.heap.size = gs at *
          have p0 := nm.cell 0
          have p1 := nm.cell 1
          have p2 := nm.cell 2
          have p3 := nm.cell 3
          have p4 := nm.cell 4
          have p5 := nm.cell 5
          have pf0 := nm.frozen 0
          have pf1 := nm.frozen 1
          have pf2 := nm.frozen 2
          have pf3 := nm.frozen 3
          have pf4 := nm.frozen 4
          have pf5 := nm.frozen 5
          simp only [List.getElem?_toArray, List.getElem?_cons_zero, List.getElem?_cons_succ] at p0 p1 p2 p3 p4 p5
          have q0 := ns.cell 0
          have q1 := ns.cell 1
          have q2 := ns.cell 2
          have q3 := ns.cell 3
          have qf0 := ns.frozen 0
          have qf1 := ns.frozen 1
          have qf2 := ns.frozen 2
          have qf3 := ns.frozen 3
          simp only [List.getElem?_toArray, List.getElem?_cons_zero, List.getElem?_cons_succ] at q0 q1 q2 q3
          have r0 := nr.cell 0
          have r1 := nr.cell 1
          have rf0 := nr.frozen 0
          have rf1 := nr.frozen 1
          simp only [List.getElem?_toArray, List.getElem?_cons_zero, List.getElem?_cons_succ] at r0 r1
          go_wp2_with fail
          refine (outlook_span_later.calls _ _ _ _ _ _ _ G3.out).mono ?_
          rintro e W3 ⟨rfl, hW3⟩
          clear p0 p1 p2 p3 p4 p5 pf0 pf1 pf2 pf3 pf4 pf5 q0 q1 q2 q3 qf0 qf1 qf2 qf3 r0 r1 rf0 rf1
          replace nr := nr.step hW3
          replace nB := below_of nB hW3
          clear hW3
          have r0 := nr.cell 0
          have r1 := nr.cell 1
          have rf0 := nr.frozen 0
          have rf1 := nr.frozen 1
          simp only [List.getElem?_toArray, List.getElem?_cons_zero, List.getElem?_cons_succ] at r0 r1
          go_wp2_with fail
          have R := (nr.put 0 (.int .u64 v5)).put 1 (.bool v6)
          simp only [List.setIfInBounds_toArray, List.set_cons_zero, List.set_cons_succ] at R
          have RB : Below w.heap.size w ((W3.setCell ⟨w.heap.size + 1 + 1, 0, none⟩ (.int .u64 v5)).setCell ⟨w.heap.size + 1 + 1, 1, none⟩ (.bool v6)) := (nB.setCell (p := ⟨w.heap.size + 1 + 1, 0, none⟩) (by simp <;> omega) _).setCell (p := ⟨w.heap.size + 1 + 1, 1, none⟩) (by simp <;> omega) _
          clear r0 r1 rf0 rf1
          generalize ((W3.setCell ⟨w.heap.size + 1 + 1, 0, none⟩ (.int .u64 v5)).setCell ⟨w.heap.size + 1 + 1, 1, none⟩ (.bool v6)) = W9 at R RB ⊢
          have y0 := R.cell 0
          have y1 := R.cell 1
          have yf0 := R.frozen 0
          have yf1 := R.frozen 1
          simp only [List.getElem?_toArray, List.getElem?_cons_zero, List.getElem?_cons_succ] at y0 y1
          refine bodyPost_ret (by simp [results, Try.results56, go_sem, y0, y1]) rfl ⟨rfl, RB⟩

        · rw [if_neg (by simp [w0]), if_pos hk] at h
          have w0' : (a3 == 0) = false := by simp [w0]
          simp only [Option.some.injEq, Prod.mk.injEq] at h
          obtain ⟨rfl, rfl⟩ := h
          clear hk w0
          go_enter Try.func56, Try.ntmps56
          go_wp2_with fail
          have nm : Blk (((w.alloc (.cells #[.int .i64 a0_0, .bool a0_1, .int .u64 a0_2, .int .u64 a0_3, .int .u64 a0_4, .int .u64 a0_5] 49)).alloc (.cells #[.int .u64 a1_0, .int .u64 a1_1, .int .u64 a1_2, .bool a1_3] 51)).alloc (.cells #[.int .u64 0, .bool false] 92)) (w.heap.size) 49 #[.int .i64 a0_0, .bool a0_1, .int .u64 a0_2, .int .u64 a0_3, .int .u64 a0_4, .int .u64 a0_5] := by
            have h := (((Blk.new w 49 #[.int .i64 a0_0, .bool a0_1, .int .u64 a0_2, .int .u64 a0_3, .int .u64 a0_4, .int .u64 a0_5]).alloc (.cells #[.int .u64 a1_0, .int .u64 a1_1, .int .u64 a1_2, .bool a1_3] 51)).alloc (.cells #[.int .u64 0, .bool false] 92))
            simpa only [World.size_alloc] using h
          have nr : Blk (((w.alloc (.cells #[.int .i64 a0_0, .bool a0_1, .int .u64 a0_2, .int .u64 a0_3, .int .u64 a0_4, .int .u64 a0_5] 49)).alloc (.cells #[.int .u64 a1_0, .int .u64 a1_1, .int .u64 a1_2, .bool a1_3] 51)).alloc (.cells #[.int .u64 0, .bool false] 92)) (w.heap.size + 1 + 1) 92 #[.int .u64 0, .bool false] := by
            have h := (Blk.new ((w.alloc (.cells #[.int .i64 a0_0, .bool a0_1, .int .u64 a0_2, .int .u64 a0_3, .int .u64 a0_4, .int .u64 a0_5] 49)).alloc (.cells #[.int .u64 a1_0, .int .u64 a1_1, .int .u64 a1_2, .bool a1_3] 51)) 92 #[.int .u64 0, .bool false])
            simpa only [World.size_alloc] using h
          have nB : Below w.heap.size w (((w.alloc (.cells #[.int .i64 a0_0, .bool a0_1, .int .u64 a0_2, .int .u64 a0_3, .int .u64 a0_4, .int .u64 a0_5] 49)).alloc (.cells #[.int .u64 a1_0, .int .u64 a1_1, .int .u64 a1_2, .bool a1_3] 51)).alloc (.cells #[.int .u64 0, .bool false] 92)) := by go_grown
          generalize (((w.alloc (.cells #[.int .i64 a0_0, .bool a0_1, .int .u64 a0_2, .int .u64 a0_3, .int .u64 a0_4, .int .u64 a0_5] 49)).alloc (.cells #[.int .u64 a1_0, .int .u64 a1_1, .int .u64 a1_2, .bool a1_3] 51)).alloc (.cells #[.int .u64 0, .bool false] 92)) = W0 at *
          have k_r : w.heap.size + 1 < W0.heap.size := by have := nr.lt; omega
          refine (outlook_buckets.calls _ _ _ _ _ _ _ _ _ _ _ _ _ _ _ _ _ G1.out).mono ?_
          rintro e W1 ⟨rfl, hW1⟩
          have k_b := hW1.size
          replace nm := nm.step hW1
          replace nr := nr.step hW1
          replace nB := below_of nB hW1
          clear hW1
          go_upto_if 16 with fail
          have lr1 := nr.lt
          have lm1 := nm.lt
          replace nm := nm.alloc (.cells #[.int .u64 v1, .bool v2, .int .u64 v3, .bool v4] 99)
          replace nr := nr.alloc (.cells #[.int .u64 v1, .bool v2, .int .u64 v3, .bool v4] 99)
          have ns := Blk.new W1 99 #[.int .u64 v1, .bool v2, .int .u64 v3, .bool v4]
          replace nB := nB.alloc nB.size (.cells #[.int .u64 v1, .bool v2, .int .u64 v3, .bool v4] 99)
          generalize W1.alloc (.cells #[.int .u64 v1, .bool v2, .int .u64 v3, .bool v4] 99) = W2 at *
          generalize W1.heap.size = gs at *
          have p0 := nm.cell 0
          have p1 := nm.cell 1
          have p2 := nm.cell 2
          have p3 := nm.cell 3
          have p4 := nm.cell 4
          have p5 := nm.cell 5
          have pf0 := nm.frozen 0
          have pf1 := nm.frozen 1
          have pf2 := nm.frozen 2
          have pf3 := nm.frozen 3
          have pf4 := nm.frozen 4
          have pf5 := nm.frozen 5
          simp only [List.getElem?_toArray, List.getElem?_cons_zero, List.getElem?_cons_succ] at p0 p1 p2 p3 p4 p5
          have q0 := ns.cell 0
          have q1 := ns.cell 1
          have q2 := ns.cell 2
          have q3 := ns.cell 3
          have qf0 := ns.frozen 0
          have qf1 := ns.frozen 1
          have qf2 := ns.frozen 2
          have qf3 := ns.frozen 3
          simp only [List.getElem?_toArray, List.getElem?_cons_zero, List.getElem?_cons_succ] at q0 q1 q2 q3
          have r0 := nr.cell 0
          have r1 := nr.cell 1
          have rf0 := nr.frozen 0
          have rf1 := nr.frozen 1
          simp only [List.getElem?_toArray, List.getElem?_cons_zero, List.getElem?_cons_succ] at r0 r1
          go_wp2_with fail
          have R := (nr.put 0 (.int .u64 v3)).put 1 (.bool v4)
          simp only [List.setIfInBounds_toArray, List.set_cons_zero, List.set_cons_succ] at R
          have RB : Below w.heap.size w ((W2.setCell ⟨w.heap.size + 1 + 1, 0, none⟩ (.int .u64 v3)).setCell ⟨w.heap.size + 1 + 1, 1, none⟩ (.bool v4)) := (nB.setCell (p := ⟨w.heap.size + 1 + 1, 0, none⟩) (by simp <;> omega) _).setCell (p := ⟨w.heap.size + 1 + 1, 1, none⟩) (by simp <;> omega) _
          clear p0 p1 p2 p3 p4 p5 pf0 pf1 pf2 pf3 pf4 pf5 q0 q1 q2 q3 qf0 qf1 qf2 qf3 r0 r1 rf0 rf1
          generalize ((W2.setCell ⟨w.heap.size + 1 + 1, 0, none⟩ (.int .u64 v3)).setCell ⟨w.heap.size + 1 + 1, 1, none⟩ (.bool v4)) = W9 at R RB ⊢
          have y0 := R.cell 0
          have y1 := R.cell 1
          have yf0 := R.frozen 0
          have yf1 := R.frozen 1
          simp only [List.getElem?_toArray, List.getElem?_cons_zero, List.getElem?_cons_succ] at y0 y1
          refine bodyPost_ret (by simp [results, Try.results56, go_sem, y0, y1]) rfl ⟨rfl, RB⟩

      · rw [if_neg hk, if_neg (by simp), if_neg hk] at h
        have hk' : (a0_0 == 2) = false := by simp [hk]
        by_cases w0 : a3 = 0
        · rw [if_pos w0] at h
          have w0' : (a3 == 0) = true := by simp [w0]
          simp only [Option.some.injEq, Prod.mk.injEq] at h
          obtain ⟨rfl, rfl⟩ := h
          clear hk w0
          go_enter Try.func56, Try.ntmps56
          go_wp2_with fail
          have nm : Blk (((w.alloc (.cells #[.int .i64 a0_0, .bool a0_1, .int .u64 a0_2, .int .u64 a0_3, .int .u64 a0_4, .int .u64 a0_5] 49)).alloc (.cells #[.int .u64 a1_0, .int .u64 a1_1, .int .u64 a1_2, .bool a1_3] 51)).alloc (.cells #[.int .u64 0, .bool false] 92)) (w.heap.size) 49 #[.int .i64 a0_0, .bool a0_1, .int .u64 a0_2, .int .u64 a0_3, .int .u64 a0_4, .int .u64 a0_5] := by
            have h := (((Blk.new w 49 #[.int .i64 a0_0, .bool a0_1, .int .u64 a0_2, .int .u64 a0_3, .int .u64 a0_4, .int .u64 a0_5]).alloc (.cells #[.int .u64 a1_0, .int .u64 a1_1, .int .u64 a1_2, .bool a1_3] 51)).alloc (.cells #[.int .u64 0, .bool false] 92))
            simpa only [World.size_alloc] using h
          have nr : Blk (((w.alloc (.cells #[.int .i64 a0_0, .bool a0_1, .int .u64 a0_2, .int .u64 a0_3, .int .u64 a0_4, .int .u64 a0_5] 49)).alloc (.cells #[.int .u64 a1_0, .int .u64 a1_1, .int .u64 a1_2, .bool a1_3] 51)).alloc (.cells #[.int .u64 0, .bool false] 92)) (w.heap.size + 1 + 1) 92 #[.int .u64 0, .bool false] := by
            have h := (Blk.new ((w.alloc (.cells #[.int .i64 a0_0, .bool a0_1, .int .u64 a0_2, .int .u64 a0_3, .int .u64 a0_4, .int .u64 a0_5] 49)).alloc (.cells #[.int .u64 a1_0, .int .u64 a1_1, .int .u64 a1_2, .bool a1_3] 51)) 92 #[.int .u64 0, .bool false])
            simpa only [World.size_alloc] using h
          have nB : Below w.heap.size w (((w.alloc (.cells #[.int .i64 a0_0, .bool a0_1, .int .u64 a0_2, .int .u64 a0_3, .int .u64 a0_4, .int .u64 a0_5] 49)).alloc (.cells #[.int .u64 a1_0, .int .u64 a1_1, .int .u64 a1_2, .bool a1_3] 51)).alloc (.cells #[.int .u64 0, .bool false] 92)) := by go_grown
          generalize (((w.alloc (.cells #[.int .i64 a0_0, .bool a0_1, .int .u64 a0_2, .int .u64 a0_3, .int .u64 a0_4, .int .u64 a0_5] 49)).alloc (.cells #[.int .u64 a1_0, .int .u64 a1_1, .int .u64 a1_2, .bool a1_3] 51)).alloc (.cells #[.int .u64 0, .bool false] 92)) = W0 at *
          have k_r : w.heap.size + 1 < W0.heap.size := by have := nr.lt; omega
          refine (outlook_buckets.calls _ _ _ _ _ _ _ _ _ _ _ _ _ _ _ _ _ G1.out).mono ?_
          rintro e W1 ⟨rfl, hW1⟩
          have k_b := hW1.size
          replace nm := nm.step hW1
          replace nr := nr.step hW1
          replace nB := below_of nB hW1
          clear hW1
          go_upto_if 16 with fail
          have lr1 := nr.lt
          have lm1 := nm.lt
          replace nm := nm.alloc (.cells #[.int .u64 v1, .bool v2, .int .u64 v3, .bool v4] 99)
          replace nr := nr.alloc (.cells #[.int .u64 v1, .bool v2, .int .u64 v3, .bool v4] 99)
          have ns := Blk.new W1 99 #[.int .u64 v1, .bool v2, .int .u64 v3, .bool v4]
          replace nB := nB.alloc nB.size (.cells #[.int .u64 v1, .bool v2, .int .u64 v3, .bool v4] 99)
          generalize W1.alloc (.cells #[.int .u64 v1, .bool v2, .int .u64 v3, .bool v4] 99) = W2 at *
          generalize W1.heap.size = gs at *
          have p0 := nm.cell 0
          have p1 := nm.cell 1
          have p2 := nm.cell 2
          have p3 := nm.cell 3
          have p4 := nm.cell 4
          have p5 := nm.cell 5
          have pf0 := nm.frozen 0
          have pf1 := nm.frozen 1
          have pf2 := nm.frozen 2
          have pf3 := nm.frozen 3
          have pf4 := nm.frozen 4
          have pf5 := nm.frozen 5
          simp only [List.getElem?_toArray, List.getElem?_cons_zero, List.getElem?_cons_succ] at p0 p1 p2 p3 p4 p5
          have q0 := ns.cell 0
          have q1 := ns.cell 1
          have q2 := ns.cell 2
          have q3 := ns.cell 3
          have qf0 := ns.frozen 0
          have qf1 := ns.frozen 1
          have qf2 := ns.frozen 2
          have qf3 := ns.frozen 3
          simp only [List.getElem?_toArray, List.getElem?_cons_zero, List.getElem?_cons_succ] at q0 q1 q2 q3
          have r0 := nr.cell 0
          have r1 := nr.cell 1
          have rf0 := nr.frozen 0
          have rf1 := nr.frozen 1
          simp only [List.getElem?_toArray, List.getElem?_cons_zero, List.getElem?_cons_succ] at r0 r1
          go_wp2_with fail
          have R := (nr.put 0 (.int .u64 v1)).put 1 (.bool v2)
          simp only [List.setIfInBounds_toArray, List.set_cons_zero, List.set_cons_succ] at R
          have RB : Below w.heap.size w ((W2.setCell ⟨w.heap.size + 1 + 1, 0, none⟩ (.int .u64 v1)).setCell ⟨w.heap.size + 1 + 1, 1, none⟩ (.bool v2)) := (nB.setCell (p := ⟨w.heap.size + 1 + 1, 0, none⟩) (by simp <;> omega) _).setCell (p := ⟨w.heap.size + 1 + 1, 1, none⟩) (by simp <;> omega) _
          clear p0 p1 p2 p3 p4 p5 pf0 pf1 pf2 pf3 pf4 pf5 q0 q1 q2 q3 qf0 qf1 qf2 qf3 r0 r1 rf0 rf1
          generalize ((W2.setCell ⟨w.heap.size + 1 + 1, 0, none⟩ (.int .u64 v1)).setCell ⟨w.heap.size + 1 + 1, 1, none⟩ (.bool v2)) = W9 at R RB ⊢
          have y0 := R.cell 0
          have y1 := R.cell 1
          have yf0 := R.frozen 0
          have yf1 := R.frozen 1
          simp only [List.getElem?_toArray, List.getElem?_cons_zero, List.getElem?_cons_succ] at y0 y1
          refine bodyPost_ret (by simp [results, Try.results56, go_sem, y0, y1]) rfl ⟨rfl, RB⟩

        · rw [if_neg w0] at h
          have w0' : (a3 == 0) = false := by simp [w0]
          obtain ⟨⟨v5, v6⟩, g3, h⟩ := Option.bind_eq_some_iff.1 h
          simp only [Option.some.injEq, Prod.mk.injEq] at h
          obtain ⟨rfl, rfl⟩ := h
          have G3 := Lib.hid g3
          clear g3 hk w0
          go_enter Try.func56, Try.ntmps56
          go_wp2_with fail
          have nm : Blk (((w.alloc (.cells #[.int .i64 a0_0, .bool a0_1, .int .u64 a0_2, .int .u64 a0_3, .int .u64 a0_4, .int .u64 a0_5] 49)).alloc (.cells #[.int .u64 a1_0, .int .u64 a1_1, .int .u64 a1_2, .bool a1_3] 51)).alloc (.cells #[.int .u64 0, .bool false] 92)) (w.heap.size) 49 #[.int .i64 a0_0, .bool a0_1, .int .u64 a0_2, .int .u64 a0_3, .int .u64 a0_4, .int .u64 a0_5] := by
            have h := (((Blk.new w 49 #[.int .i64 a0_0, .bool a0_1, .int .u64 a0_2, .int .u64 a0_3, .int .u64 a0_4, .int .u64 a0_5]).alloc (.cells #[.int .u64 a1_0, .int .u64 a1_1, .int .u64 a1_2, .bool a1_3] 51)).alloc (.cells #[.int .u64 0, .bool false] 92))
            simpa only [World.size_alloc] using h
          have nr : Blk (((w.alloc (.cells #[.int .i64 a0_0, .bool a0_1, .int .u64 a0_2, .int .u64 a0_3, .int .u64 a0_4, .int .u64 a0_5] 49)).alloc (.cells #[.int .u64 a1_0, .int .u64 a1_1, .int .u64 a1_2, .bool a1_3] 51)).alloc (.cells #[.int .u64 0, .bool false] 92)) (w.heap.size + 1 + 1) 92 #[.int .u64 0, .bool false] := by
            have h := (Blk.new ((w.alloc (.cells #[.int .i64 a0_0, .bool a0_1, .int .u64 a0_2, .int .u64 a0_3, .int .u64 a0_4, .int .u64 a0_5] 49)).alloc (.cells #[.int .u64 a1_0, .int .u64 a1_1, .int .u64 a1_2, .bool a1_3] 51)) 92 #[.int .u64 0, .bool false])
            simpa only [World.size_alloc] using h
          have nB : Below w.heap.size w (((w.alloc (.cells #[.int .i64 a0_0, .bool a0_1, .int .u64 a0_2, .int .u64 a0_3, .int .u64 a0_4, .int .u64 a0_5] 49)).alloc (.cells #[.int .u64 a1_0, .int .u64 a1_1, .int .u64 a1_2, .bool a1_3] 51)).alloc (.cells #[.int .u64 0, .bool false] 92)) := by go_grown
          generalize (((w.alloc (.cells #[.int .i64 a0_0, .bool a0_1, .int .u64 a0_2, .int .u64 a0_3, .int .u64 a0_4, .int .u64 a0_5] 49)).alloc (.cells #[.int .u64 a1_0, .int .u64 a1_1, .int .u64 a1_2, .bool a1_3] 51)).alloc (.cells #[.int .u64 0, .bool false] 92)) = W0 at *
          have k_r : w.heap.size + 1 < W0.heap.size := by have := nr.lt; omega
          refine (outlook_buckets.calls _ _ _ _ _ _ _ _ _ _ _ _ _ _ _ _ _ G1.out).mono ?_
          rintro e W1 ⟨rfl, hW1⟩
          have k_b := hW1.size
          replace nm := nm.step hW1
          replace nr := nr.step hW1
          replace nB := below_of nB hW1
          clear hW1
          go_upto_if 16 with fail
          have lr1 := nr.lt
          have lm1 := nm.lt
          replace nm := nm.alloc (.cells #[.int .u64 v1, .bool v2, .int .u64 v3, .bool v4] 99)
          replace nr := nr.alloc (.cells #[.int .u64 v1, .bool v2, .int .u64 v3, .bool v4] 99)
          have ns := Blk.new W1 99 #[.int .u64 v1, .bool v2, .int .u64 v3, .bool v4]
          replace nB := nB.alloc nB.size (.cells #[.int .u64 v1, .bool v2, .int .u64 v3, .bool v4] 99)
          generalize W1.alloc (.cells #[.int .u64 v1, .bool v2, .int .u64 v3, .bool v4] 99) = W2 at *
          generalize W1.heap.size = gs at *
          have p0 := nm.cell 0
          have p1 := nm.cell 1
          have p2 := nm.cell 2
          have p3 := nm.cell 3
          have p4 := nm.cell 4
          have p5 := nm.cell 5
          have pf0 := nm.frozen 0
          have pf1 := nm.frozen 1
          have pf2 := nm.frozen 2
          have pf3 := nm.frozen 3
          have pf4 := nm.frozen 4
          have pf5 := nm.frozen 5
          simp only [List.getElem?_toArray, List.getElem?_cons_zero, List.getElem?_cons_succ] at p0 p1 p2 p3 p4 p5
          have q0 := ns.cell 0
          have q1 := ns.cell 1
          have q2 := ns.cell 2
          have q3 := ns.cell 3
          have qf0 := ns.frozen 0
          have qf1 := ns.frozen 1
          have qf2 := ns.frozen 2
          have qf3 := ns.frozen 3
          simp only [List.getElem?_toArray, List.getElem?_cons_zero, List.getElem?_cons_succ] at q0 q1 q2 q3
          have r0 := nr.cell 0
          have r1 := nr.cell 1
          have rf0 := nr.frozen 0
          have rf1 := nr.frozen 1
          simp only [List.getElem?_toArray, List.getElem?_cons_zero, List.getElem?_cons_succ] at r0 r1
          go_wp2_with fail
          refine (outlook_span_sooner.calls _ _ _ _ _ _ _ G3.out).mono ?_
          rintro e W3 ⟨rfl, hW3⟩
          clear p0 p1 p2 p3 p4 p5 pf0 pf1 pf2 pf3 pf4 pf5 q0 q1 q2 q3 qf0 qf1 qf2 qf3 r0 r1 rf0 rf1
          replace nr := nr.step hW3
          replace nB := below_of nB hW3
          clear hW3
          have r0 := nr.cell 0
          have r1 := nr.cell 1
          have rf0 := nr.frozen 0
          have rf1 := nr.frozen 1
          simp only [List.getElem?_toArray, List.getElem?_cons_zero, List.getElem?_cons_succ] at r0 r1
          go_wp2_with fail
          have R := (nr.put 0 (.int .u64 v5)).put 1 (.bool v6)
          simp only [List.setIfInBounds_toArray, List.set_cons_zero, List.set_cons_succ] at R
          have RB : Below w.heap.size w ((W3.setCell ⟨w.heap.size + 1 + 1, 0, none⟩ (.int .u64 v5)).setCell ⟨w.heap.size + 1 + 1, 1, none⟩ (.bool v6)) := (nB.setCell (p := ⟨w.heap.size + 1 + 1, 0, none⟩) (by simp <;> omega) _).setCell (p := ⟨w.heap.size + 1 + 1, 1, none⟩) (by simp <;> omega) _
          clear r0 r1 rf0 rf1
          generalize ((W3.setCell ⟨w.heap.size + 1 + 1, 0, none⟩ (.int .u64 v5)).setCell ⟨w.heap.size + 1 + 1, 1, none⟩ (.bool v6)) = W9 at R RB ⊢
          have y0 := R.cell 0
          have y1 := R.cell 1
          have yf0 := R.frozen 0
          have yf1 := R.frozen 1
          simp only [List.getElem?_toArray, List.getElem?_cons_zero, List.getElem?_cons_succ] at y0 y1
          refine bodyPost_ret (by simp [results, Try.results56, go_sem, y0, y1]) rfl ⟨rfl, RB⟩


end Go.Proofs.Ytiaoaoebghnpkaa.P
