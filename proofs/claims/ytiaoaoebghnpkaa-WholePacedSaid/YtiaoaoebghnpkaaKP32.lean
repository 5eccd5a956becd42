/- Part of the proof. -/
import Derived.Test.YtiaoaoebghnpkaaKP28
import Derived.Test.YtiaoaoebghnpkaaKP29
import Derived.Test.YtiaoaoebghnpkaaKP31

/- (Beside PureT.) What double's functions answer, in closed form. -/
namespace Go.Proofs.Ytiaoaoebghnpkaa.P
open Go.RowKit Go.Proofs.YtiaoaoebghnpkaaW.PrintWords Go.Proofs.YtiaoaoebghnpkaaW.PrintLast Go.Proofs.YtiaoaoebghnpkaaW.PrintMore

def chkD (k r p b x : Int) : Int := if k = 2 then (if p < r ∨ 1099511627776 < p then 16 else if b < 1 ∨ 4294967296 < b ∨ x < 1 ∨ 4294967296 < x then 17 else 0) else 10
theorem chkD_ok {k r p b x : Int} (h : chkD k r p b x = 0) : b ≤ 4294967296 ∧ x ≤ 4294967296 := by
  unfold chkD at h
  split at h
  · split at h
    · omega
    · split at h
      · omega
      · omega
  · omega
theorem dchk_kind {k r p b x : Int} (h : k ≠ 2) : chkD k r p b x = 10 := by unfold chkD; rw [if_neg h]
theorem dchk_rate {k r p b x : Int} (h : k = 2) (h2 : p < r ∨ 1099511627776 < p) : chkD k r p b x = 16 := by unfold chkD; rw [if_pos h, if_pos h2]
theorem dchk_burst {k r p b x : Int} (h : k = 2) (h2 : ¬ (p < r ∨ 1099511627776 < p)) (h3 : b < 1 ∨ 4294967296 < b ∨ x < 1 ∨ 4294967296 < x) : chkD k r p b x = 17 := by unfold chkD; rw [if_pos h, if_neg h2, if_pos h3]
theorem dchk_good {k r p b x : Int} (h : k = 2) (h2 : ¬ (p < r ∨ 1099511627776 < p)) (h3 : ¬ (b < 1 ∨ 4294967296 < b ∨ x < 1 ∨ 4294967296 < x)) : chkD k r p b x = 0 := by unfold chkD; rw [if_pos h, if_neg h2, if_neg h3]

theorem dcheck_eq (n : Nat) (k : Int) (a : Bool) (r p b x : Int) (hb : U b) (hx : U x) : double_Check.f (n + 1) k a r p b x = some (chkD k r p b x) := by
  have hmn : mn b x = 0 ↔ b < 1 ∨ x < 1 := by unfold mn; unfold U at *; split <;> omega
  have hmx : mx b x > 4294967296 ↔ 4294967296 < b ∨ 4294967296 < x := by unfold mx; split <;> omega
  have hj : ∀ y : Bool, (k = 2) → ((y = true) ↔ (p < r ∨ 1099511627776 < p)) → double_Check.j0 (n + 1) y k a r p b x = some (chkD k r p b x) := by
    intro y hk hy
    simp only [double_Check.j0]
    by_cases h : p < r ∨ 1099511627776 < p
    · rw [if_pos (hy.2 h), dchk_rate hk h]
    · rw [if_neg (fun hh => h (hy.1 hh))]
      by_cases h1 : mn b x = 0
      · rw [if_pos h1, dchk_burst hk h (by have := hmn.1 h1; omega)]
      · rw [if_neg h1]
        have h1' : ¬ (b < 1 ∨ x < 1) := fun hh => h1 (hmn.2 hh)
        by_cases h2 : mx b x > 4294967296
        · rw [if_pos h2, dchk_burst hk h (by have := hmx.1 h2; omega)]
        · have h2' : ¬ (4294967296 < b ∨ 4294967296 < x) := fun hh => h2 (hmx.2 hh)
          rw [if_neg h2, dchk_good hk h (by omega)]
  unfold double_Check.f
  by_cases h1 : k = 2
  · rw [if_pos h1]
    by_cases h2 : r > p
    · rw [if_pos h2]; exact hj true h1 ⟨fun _ => .inl h2, fun _ => rfl⟩
    · rw [if_neg h2]; exact hj _ h1 ⟨fun h => .inr (of_decide_eq_true h), fun h => decide_eq_true (by omega)⟩
  · rw [if_neg h1, dchk_kind h1]
/-- A packet of a colour ahead and a size, at two buckets. -/
def paintD (c one two s : Int) : Int × Int × Int :=
  if c = 2 ∨ canV two s = false then (one, two, 2) else if c = 1 ∨ canV one s = false then (one, takeV two s, 1) else (takeV one s, takeV two s, 0)
theorem dpaint_red {c one two s : Int} (h : c = 2 ∨ canV two s = false) : paintD c one two s = (one, two, 2) := by unfold paintD; rw [if_pos h]
theorem dpaint_yellow {c one two s : Int} (h : ¬ (c = 2 ∨ canV two s = false)) (h1 : c = 1 ∨ canV one s = false) : paintD c one two s = (one, takeV two s, 1) := by unfold paintD; rw [if_neg h, if_pos h1]
theorem dpaint_green {c one two s : Int} (h : ¬ (c = 2 ∨ canV two s = false)) (h1 : ¬ (c = 1 ∨ canV one s = false)) : paintD c one two s = (takeV one s, takeV two s, 0) := by unfold paintD; rw [if_neg h, if_neg h1]
def stepD (a : Bool) (r p b x s0 s1 s2 : Int) (s3 : Bool) (t size pre : Int) : Int × Int × Int × Bool × Int :=
  let one := growV s0 (b * 1000000000) (r * dtV s2 s3 t)
  let two := growV s1 (x * 1000000000) (p * dtV s2 s3 t)
  let q := paintD (colV a pre) one two size
  (q.1, q.2.1, nowV s2 s3 t, true, q.2.2)

/-- What paint answers of a packet that counts as c. -/
theorem paint_j0 (n : Nat) (c pre s l0 l1 l2 l3 l4 l5 : Int) (h0 : U l0) (h3 : U l3) (hs : I64 s) (hc : pre = 0 ∧ c = 0 ∨ pre = 1 ∧ c = 1 ∨ pre ≠ 0 ∧ pre ≠ 1 ∧ c = 2) :
    double_paint.j0 (n + 2) s pre l0 l1 l2 l3 l4 l5 = some ((paintD c l0 l3 s).1, l1, l2, (paintD c l0 l3 s).2.1, l4, l5, (paintD c l0 l3 s).2.2) := by
  simp only [double_paint.j0, double_paint.j1, double_side_take.f]
  rw [btake_eq h0 hs, btake_eq h3 hs]
  simp only [Option.bind_some]
  rcases hc with ⟨rfl, rfl⟩ | ⟨rfl, rfl⟩ | ⟨g0, g1, rfl⟩
  · rw [if_pos rfl]
    rcases Bool.eq_false_or_eq_true (canV l3 s) with e3 | e3
    · rw [e3, if_neg (show ¬ ((!true) = true) by simp), if_neg (show ¬ ((0 : Int) = 1) by omega)]
      rcases Bool.eq_false_or_eq_true (canV l0 s) with e0 | e0
      · rw [if_pos e0, dpaint_green (by simp [e3]) (by simp [e0])]
      · rw [if_neg (by simp [e0]), dpaint_yellow (by simp [e3]) (by simp [e0])]
    · rw [e3, if_pos (show ((!false) = true) by simp), dpaint_red (.inr e3)]
  · rw [if_neg (show ¬ ((1 : Int) = 0) by omega), if_pos rfl]
    rcases Bool.eq_false_or_eq_true (canV l3 s) with e3 | e3
    · rw [e3, if_neg (show ¬ ((!true) = true) by simp), if_pos rfl, dpaint_yellow (by simp [e3]) (.inl rfl)]
    · rw [e3, if_pos (show ((!false) = true) by simp), dpaint_red (.inr e3)]
  · rw [if_neg g0, if_neg g1, if_pos trivial, dpaint_red (.inl rfl)]

theorem dstep_eq (k : Int) (a : Bool) (r p b x s0 s1 s2 : Int) (s3 : Bool) (t size pre : Int) (hr : U r) (hp : U p) (hb : U b) (hx : U x) (h0 : U s0) (h1 : U s1) (h2 : U s2) (ht : U t) (hs : I64 size) :
    double_Stepd.f k a r p b x s0 s1 s2 s3 t size pre = some (if chkD k r p b x ≠ 0 ∨ size < 0 then (s0, s1, s2, s3, 2) else stepD a r p b x s0 s1 s2 s3 t size pre) := by
  unfold double_Stepd.f
  rw [dcheck_eq 2 _ _ _ _ _ _ hb hx]
  simp only [Option.bind_some]
  by_cases hc : chkD k r p b x = 0 ∧ 0 ≤ size
  · rw [if_pos hc, if_neg (show ¬ (chkD k r p b x ≠ 0 ∨ size < 0) by omega)]
    obtain ⟨kb, kx⟩ := chkD_ok hc.1
    obtain ⟨_, ub, eb⟩ := nano_in hb kb
    obtain ⟨_, ux, ex⟩ := nano_in hx kx
    have ud := U_dt (seen := s3) h2 ht
    obtain ⟨_, _, _, u1⟩ := put_bounds h0 ub (V_mul hr ud)
    obtain ⟨_, _, _, u2⟩ := put_bounds h1 ux (V_mul hp ud)
    rw [step_eq _ _ _ h2 ht]
    simp only [Option.bind_some]
    unfold double_sides.f
    have f1 : ∃ e, bucket_Full.f b = some (fullV b, e) := by unfold bucket_Full.f; rw [if_pos hb]; exact ⟨_, rfl⟩
    have f2 : ∃ e, bucket_Full.f x = some (fullV x, e) := by unfold bucket_Full.f; rw [if_pos hx]; exact ⟨_, rfl⟩
    obtain ⟨_, f1⟩ := f1
    obtain ⟨_, f2⟩ := f2
    rw [f1, f2, eb, ex]
    simp only [Option.bind_some]
    unfold double_side_grow.f bucket_Grow.f
    rw [if_pos ⟨h0, ub, hr, ud⟩, if_pos ⟨h1, ux, hp, ud⟩]
    simp only [Option.bind_some]
    have hz : ∃ c1, double_paint.f 3 k a r p b x (growV s0 (b * 1000000000) (r * dtV s2 s3 t)) (b * 1000000000) r (growV s1 (x * 1000000000) (p * dtV s2 s3 t)) (x * 1000000000) p size pre = some c1 ∧ c1.1 = (paintD (colV a pre) (growV s0 (b * 1000000000) (r * dtV s2 s3 t)) (growV s1 (x * 1000000000) (p * dtV s2 s3 t)) size).1 ∧ c1.2.2.2.1 = (paintD (colV a pre) (growV s0 (b * 1000000000) (r * dtV s2 s3 t)) (growV s1 (x * 1000000000) (p * dtV s2 s3 t)) size).2.1 ∧ c1.2.2.2.2.2.2 = (paintD (colV a pre) (growV s0 (b * 1000000000) (r * dtV s2 s3 t)) (growV s1 (x * 1000000000) (p * dtV s2 s3 t)) size).2.2 := by
      unfold double_paint.f
      cases a with
      | false =>
        rw [if_neg (by simp), paint_j0 1 (colV false pre) 0 size _ _ _ _ _ _ u1 u2 hs (.inl ⟨rfl, rfl⟩)]
        exact ⟨_, rfl, rfl, rfl, rfl⟩
      | true =>
        rw [if_pos rfl, paint_j0 1 (colV true pre) pre size _ _ _ _ _ _ u1 u2 hs (by
          unfold colV
          rw [if_pos rfl]
          split <;> omega)]
        exact ⟨_, rfl, rfl, rfl, rfl⟩
    obtain ⟨c1, e1, e2, e3, e4⟩ := hz
    rw [e1]
    simp only [Option.bind_some]
    rw [e2, e3, e4]
    rfl
  · rw [if_neg hc, if_pos (show chkD k r p b x ≠ 0 ∨ size < 0 by omega)]

theorem dnew_eq (k : Int) (a : Bool) (r p b x : Int) (hb : U b) (hx : U x) : double_Newd.f k a r p b x = some (newS (chkD k r p b x) b x) := by
  unfold double_Newd.f newS
  rw [dcheck_eq 2 _ _ _ _ _ _ hb hx]
  simp only [Option.bind_some]
  by_cases hc : chkD k r p b x = 0
  · obtain ⟨kb, kx⟩ := chkD_ok hc
    rw [if_pos hc, if_pos hc]
    unfold double_sides.f
    have f1 : ∃ e, bucket_Full.f b = some (fullV b, e) := by unfold bucket_Full.f; rw [if_pos hb]; exact ⟨_, rfl⟩
    have f2 : ∃ e, bucket_Full.f x = some (fullV x, e) := by unfold bucket_Full.f; rw [if_pos hx]; exact ⟨_, rfl⟩
    obtain ⟨_, f1⟩ := f1
    obtain ⟨_, f2⟩ := f2
    rw [f1, f2, (nano_in hb kb).2.2, (nano_in hx kx).2.2]
    rfl
  · rw [if_neg hc, if_neg hc]
theorem stepD_U {k : Int} {a : Bool} {r p b x s0 s1 s2 : Int} {s3 : Bool} {t size pre : Int} (hr : U r) (hp : U p) (hb : U b) (hx : U x) (h0 : U s0) (h1 : U s1) (h2 : U s2) (ht : U t) :
    let q := if chkD k r p b x ≠ 0 ∨ size < 0 then (s0, s1, s2, s3, (2 : Int)) else stepD a r p b x s0 s1 s2 s3 t size pre
    U q.1 ∧ U q.2.1 ∧ U q.2.2.1 := by
  intro q
  by_cases hc : chkD k r p b x ≠ 0 ∨ size < 0
  · simp only [q, if_pos hc]; exact ⟨h0, h1, h2⟩
  · simp only [q, if_neg hc]
    obtain ⟨kb, kx⟩ := chkD_ok (show chkD k r p b x = 0 by omega)
    obtain ⟨_, ub, _⟩ := nano_in hb kb
    obtain ⟨_, ux, _⟩ := nano_in hx kx
    have ud := U_dt (seen := s3) h2 ht
    obtain ⟨_, _, _, u1⟩ := put_bounds h0 ub (V_mul hr ud)
    obtain ⟨_, _, _, u2⟩ := put_bounds h1 ux (V_mul hp ud)
    have tk : ∀ l s, U l → U (takeV l s) := fun l s hl => by
      unfold takeV
      rcases Bool.eq_false_or_eq_true (canV l s) with e | e
      · rw [if_pos e]
        unfold canV at e
        have := U_need s
        simp only [Bool.and_eq_true, decide_eq_true_eq] at e
        unfold U at *; omega
      · rw [if_neg (by simp [e])]; exact hl
    unfold stepD paintD
    simp only []
    refine ⟨?_, ?_, U_now h2 ht⟩
    · split
      · exact u1
      · split
        · exact u1
        · exact tk _ _ u1
    · split
      · exact u2
      · split
        · exact tk _ _ u2
        · exact tk _ _ u2
end Go.Proofs.Ytiaoaoebghnpkaa.P
