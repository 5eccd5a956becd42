/- Part of the proof. -/
import Derived.Test.YtiaoaoebghnpkaaKB26
import Derived.Test.YtiaoaoebghnpkaaKB12
/- What single's functions answer, in closed form. -/
namespace Go.Proofs.Ytiaoaoebghnpkaa.P
open Go.RowKit Go.Proofs.YtiaoaoebghnpkaaW.PrintWords Go.Proofs.YtiaoaoebghnpkaaW.PrintLast Go.Proofs.YtiaoaoebghnpkaaW.PrintMore

theorem or_zero {b x : Int} (hb : U b) (hx : U x) : Go.bits .or .u64 b x = 0 ↔ b = 0 ∧ x = 0 := by
  obtain ⟨m, rfl⟩ := Int.eq_ofNat_of_zero_le hb.1
  obtain ⟨n, rfl⟩ := Int.eq_ofNat_of_zero_le hx.1
  have h1 : m < 2 ^ 64 := by have := hb.2; omega
  have h2 : n < 2 ^ 64 := by have := hx.2; omega
  have e := (bits_nat .u64 64 (by decide) (fun n h0 h1 => by rw [IntKind.wrap_u64]; omega) m n h1 h2)
  have e2 : Go.bits .or .u64 (m : Int) (n : Int) = ((m ||| n : Nat) : Int) := by
    exact e.2
  rw [e2]
  constructor
  · intro h
    have h : m ||| n = 0 := by omega
    have := Nat.or_eq_zero_iff.1 h
    omega
  · rintro ⟨h1, h2⟩
    obtain rfl : m = 0 := by omega
    obtain rfl : n = 0 := by omega
    rfl

def chkS (k r p b x : Int) : Int := if k = 1 then (if 1099511627776 < r ∨ p ≠ 0 then 16 else if 4294967296 < b ∨ 4294967296 < x ∨ (b = 0 ∧ x = 0) then 17 else 0) else 10
theorem chkS_ok {k r p b x : Int} (h : chkS k r p b x = 0) : k = 1 ∧ r ≤ 1099511627776 ∧ p = 0 ∧ b ≤ 4294967296 ∧ x ≤ 4294967296 := by
  unfold chkS at h
  split at h
  · split at h
    · omega
    · split at h
      · omega
      · refine ⟨by assumption, ?_⟩; omega
  · omega

theorem chk_kind {k r p b x : Int} (h : k ≠ 1) : chkS k r p b x = 10 := by unfold chkS; rw [if_neg h]
theorem chk_rate {k r p b x : Int} (h : k = 1) (h2 : 1099511627776 < r ∨ p ≠ 0) : chkS k r p b x = 16 := by unfold chkS; rw [if_pos h, if_pos h2]
theorem chk_burst {k r p b x : Int} (h : k = 1) (h2 : ¬ (1099511627776 < r ∨ p ≠ 0)) (h3 : 4294967296 < b ∨ 4294967296 < x ∨ (b = 0 ∧ x = 0)) : chkS k r p b x = 17 := by unfold chkS; rw [if_pos h, if_neg h2, if_pos h3]
theorem chk_good {k r p b x : Int} (h : k = 1) (h2 : ¬ (1099511627776 < r ∨ p ≠ 0)) (h3 : ¬ (4294967296 < b ∨ 4294967296 < x ∨ (b = 0 ∧ x = 0))) : chkS k r p b x = 0 := by unfold chkS; rw [if_pos h, if_neg h2, if_neg h3]

theorem scheck_eq (n : Nat) (k : Int) (a : Bool) (r p b x : Int) (hb : U b) (hx : U x) : single_Check.f (n + 1) k a r p b x = some (chkS k r p b x) := by
  have hor := or_zero hb hx
  have hmx : mx b x > 4294967296 ↔ 4294967296 < b ∨ 4294967296 < x := by unfold mx; split <;> omega
  unfold single_Check.f
  simp only [single_Check.j0]
  by_cases h1 : k = 1
  · rw [if_pos h1]
    by_cases h2 : r > 1099511627776
    · rw [if_pos h2, if_pos trivial, chk_rate h1 (.inl h2)]
    · rw [if_neg h2]
      by_cases h3 : p = 0
      · have h4 : ¬ (1099511627776 < r ∨ p ≠ 0) := by omega
        rw [if_neg (show ¬ (p != 0) = true by simp [h3])]
        by_cases h5 : mx b x > 4294967296
        · rw [if_pos h5, chk_burst h1 h4 (by have := hmx.1 h5; omega)]
        · rw [if_neg h5]
          have h6 : ¬ (4294967296 < b ∨ 4294967296 < x) := fun h => h5 (hmx.2 h)
          by_cases h7 : Go.bits .or .u64 b x = 0
          · rw [if_pos h7, chk_burst h1 h4 (.inr (.inr (hor.1 h7)))]
          · rw [if_neg h7, chk_good h1 h4 (fun h => by rcases h with h | h | h; exact h6 (.inl h); exact h6 (.inr h); exact h7 (hor.2 h))]
      · rw [if_pos (show (p != 0) = true by simpa using h3), chk_rate h1 (.inr h3)]
  · rw [if_neg h1, chk_kind h1]

theorem step_eq (l : Int) (seen : Bool) (t : Int) (hl : U l) (ht : U t) : ratchet_Step.f l seen t = some (nowV l seen t, dtV l seen t) := by
  unfold ratchet_Step.f nowV dtV
  cases seen with
  | false => simp
  | true =>
    by_cases h : t ≤ l
    · have : ¬ l < t := by omega
      simp [h, this]
    · have h2 : l < t := by omega
      have : IntKind.u64.wrap (t - l) = t - l := wrap_in (by unfold U at *; omega)
      simp [h, h2, this]
/-- A meter's second bucket behind a spill. -/
def twoV (l rim s : Int) : Int := l + min s (rim - min l rim)
theorem two_bounds {l rim s : Int} (hl : U l) (hr : U rim) (hs : 0 ≤ s) : U (twoV l rim s) ∧ l ≤ twoV l rim s ∧ (l ≤ rim → twoV l rim s ≤ rim) := by
  unfold twoV U at *
  rw [Int.min_def l rim]
  split <;> (rw [Int.min_def]; split <;> omega)
theorem nano_in {b : Int} (hb : U b) (h : b ≤ 4294967296) : IntKind.u64.wrap (b * 1000000000) = b * 1000000000 ∧ U (b * 1000000000) ∧ fullV b = b * 1000000000 := by
  have : U (b * 1000000000) := by unfold U at *; omega
  exact ⟨wrap_in this, this, by unfold fullV; rw [if_pos h]⟩

theorem grown_eq (k : Int) (a : Bool) (r p b x s0 s1 s2 : Int) (s3 : Bool) (t : Int) (hr : U r) (hb : U b) (hx : U x) (h0 : U s0) (h1 : U s1) (h2 : U s2) (ht : U t) (kb : b ≤ 4294967296) (kx : x ≤ 4294967296) :
    single_grown.f k a r p b x s0 s1 s2 s3 t = some (growV s0 (b * 1000000000) (r * dtV s2 s3 t), twoV s1 (x * 1000000000) (spillV s0 (b * 1000000000) (r * dtV s2 s3 t)), nowV s2 s3 t, true) := by
  obtain ⟨_, ub, eb⟩ := nano_in hb kb
  obtain ⟨_, ux, ex⟩ := nano_in hx kx
  have ud := U_dt (seen := s3) h2 ht
  have hV := V_mul hr ud
  obtain ⟨_, _, vs, _⟩ := put_bounds h0 ub hV
  obtain ⟨u2, _, _⟩ := two_bounds h1 ux vs.1
  have e1 : IntKind.u64.wrap (x * 1000000000 - mn s1 (x * 1000000000)) = x * 1000000000 - min s1 (x * 1000000000) := by
    have e2 : mn s1 (x * 1000000000) = min s1 (x * 1000000000) := by unfold mn; rw [Int.min_def]; split <;> split <;> omega
    rw [e2]
    exact wrap_in (by unfold U at *; rw [Int.min_def]; split <;> omega)
  have uroom : U (x * 1000000000 - min s1 (x * 1000000000)) := by unfold U at *; rw [Int.min_def]; split <;> omega
  unfold single_grown.f
  rw [step_eq _ _ _ h2 ht]
  simp only [Option.bind_some]
  unfold single_rims.f
  rw [if_pos ⟨hb, hx⟩]
  simp only [Option.bind_some]
  rw [eb, ex]
  unfold bucket_Grow.f
  rw [if_pos ⟨h0, ub, hr, ud⟩]
  simp only [Option.bind_some]
  rw [e1]
  unfold wide_Cap.f
  rw [if_pos ⟨U_hi _, U_lo _, uroom⟩]
  simp only [Option.bind_some]
  rw [wd_hi_lo vs]
  have : IntKind.u64.wrap (s1 + min (spillV s0 (b * 1000000000) (r * dtV s2 s3 t)) (x * 1000000000 - min s1 (x * 1000000000))) = twoV s1 (x * 1000000000) (spillV s0 (b * 1000000000) (r * dtV s2 s3 t)) := wrap_in u2
  rw [this]
/-- What a colour ahead counts as. -/
def colV (a : Bool) (c : Int) : Int := if a = true then (if c < 0 ∨ 2 < c then 2 else c) else 0
theorem counts_eq (k : Int) (a : Bool) (r p b x c : Int) : single_counts.f k a r p b x c = some (colV a c) := by
  unfold single_counts.f colV
  cases a with
  | false => rfl
  | true =>
    simp only [if_true]
    by_cases h1 : c < 0
    · rw [if_pos h1, if_pos (.inl h1)]
    · rw [if_neg h1]
      by_cases h2 : c > 2
      · rw [if_pos h2, if_pos (.inr h2)]
      · rw [if_neg h2, if_neg (by omega)]
theorem colV_range (a : Bool) (c : Int) : 0 ≤ colV a c ∧ colV a c ≤ 2 := by
  unfold colV
  split
  · split <;> omega
  · omega

/-- A packet of a colour ahead and a size, at two buckets. -/
def paintS (c one two s : Int) : Int × Int × Int :=
  if c = 0 ∧ canV one s = true then (takeV one s, two, 0) else if c ≠ 2 ∧ canV two s = true then (one, takeV two s, 1) else (one, two, 2)
def stepS (a : Bool) (r b x s0 s1 s2 : Int) (s3 : Bool) (t size pre : Int) : Int × Int × Int × Bool × Int :=
  let one := growV s0 (b * 1000000000) (r * dtV s2 s3 t)
  let two := twoV s1 (x * 1000000000) (spillV s0 (b * 1000000000) (r * dtV s2 s3 t))
  let q := paintS (colV a pre) one two size
  (q.1, q.2.1, nowV s2 s3 t, true, q.2.2)
theorem takeV_no {l s : Int} (h : canV l s = false) : takeV l s = l := by unfold takeV; rw [h]; rfl
theorem paint_green {c one two s : Int} (h : c = 0) (h1 : canV one s = true) : paintS c one two s = (takeV one s, two, 0) := by unfold paintS; rw [if_pos ⟨h, h1⟩]
theorem paint_yellow {c one two s : Int} (h : ¬ (c = 0 ∧ canV one s = true)) (h1 : c ≠ 2) (h2 : canV two s = true) : paintS c one two s = (one, takeV two s, 1) := by unfold paintS; rw [if_neg h, if_pos ⟨h1, h2⟩]
theorem paint_red {c one two s : Int} (h : ¬ (c = 0 ∧ canV one s = true)) (h1 : ¬ (c ≠ 2 ∧ canV two s = true)) : paintS c one two s = (one, two, 2) := by unfold paintS; rw [if_neg h, if_neg h1]
theorem stepS_of (a : Bool) (r b x s0 s1 s2 : Int) (s3 : Bool) (t size pre : Int) (one two : Int) (q : Int × Int × Int) (e1 : one = growV s0 (b * 1000000000) (r * dtV s2 s3 t)) (e2 : two = twoV s1 (x * 1000000000) (spillV s0 (b * 1000000000) (r * dtV s2 s3 t))) (hq : paintS (colV a pre) one two size = q) :
    stepS a r b x s0 s1 s2 s3 t size pre = (q.1, q.2.1, nowV s2 s3 t, true, q.2.2) := by subst e1 e2 hq; rfl
theorem btake_eq {l s : Int} (hl : U l) (hs : I64 s) : bucket_Take.f l s = some (takeV l s, canV l s) := by unfold bucket_Take.f; rw [if_pos ⟨hl, hs⟩]
theorem sstep_eq (n : Nat) (k : Int) (a : Bool) (r p b x s0 s1 s2 : Int) (s3 : Bool) (t size pre : Int) (hr : U r) (hb : U b) (hx : U x) (h0 : U s0) (h1 : U s1) (h2 : U s2) (ht : U t) (hs : I64 size) :
    single_Step.f (n + 1) k a r p b x s0 s1 s2 s3 t size pre = some (if chkS k r p b x ≠ 0 ∨ size < 0 then (s0, s1, s2, s3, 2) else stepS a r b x s0 s1 s2 s3 t size pre) := by
  unfold single_Step.f
  rw [scheck_eq _ _ _ _ _ _ _ hb hx]
  simp only [Option.bind_some]
  by_cases hc : chkS k r p b x = 0
  · rw [if_pos hc]
    simp only [single_Step.j0]
    by_cases hz : size < 0
    · rw [if_pos (show decide (size < 0) = true by simpa using hz), if_pos (show chkS k r p b x ≠ 0 ∨ size < 0 from .inr hz)]
    · rw [if_neg (show ¬ decide (size < 0) = true by simpa using hz), if_neg (show ¬ (chkS k r p b x ≠ 0 ∨ size < 0) by omega)]
      obtain ⟨_, _, _, kb, kx⟩ := chkS_ok hc
      obtain ⟨_, ub, _⟩ := nano_in hb kb
      obtain ⟨_, ux, _⟩ := nano_in hx kx
      have hV := V_mul hr (U_dt (seen := s3) h2 ht)
      obtain ⟨_, _, vs, u1⟩ := put_bounds h0 ub hV
      obtain ⟨u2, _, _⟩ := two_bounds h1 ux vs.1
      rw [grown_eq _ _ _ _ _ _ _ _ _ _ _ hr hb hx h0 h1 h2 ht kb kx]
      simp only [Option.bind_some]
      rw [counts_eq]
      simp only [Option.bind_some]
      have hcr := colV_range a pre
      obtain ⟨one, e1⟩ : ∃ one, one = growV s0 (b * 1000000000) (r * dtV s2 s3 t) := ⟨_, rfl⟩
      obtain ⟨two, e2⟩ : ∃ two, two = twoV s1 (x * 1000000000) (spillV s0 (b * 1000000000) (r * dtV s2 s3 t)) := ⟨_, rfl⟩
      have HS := fun q => stepS_of a r b x s0 s1 s2 s3 t size pre one two q e1 e2
      rw [← e1] at u1 ⊢
      rw [← e2] at u2 ⊢
      clear e1 e2
      generalize colV a pre = c at *
      rw [btake_eq u1 hs, btake_eq u2 hs]
      simp only [Option.bind_some]
      by_cases e0 : c = 0
      · rw [if_pos e0]
        rcases Bool.eq_false_or_eq_true (canV one size) with e1 | e1
        · rw [HS _ (paint_green e0 e1), if_pos e1]
        · have n1 : ¬ (c = 0 ∧ canV one size = true) := by simp [e1]
          rw [if_neg (show ¬ canV one size = true by simp [e1]), takeV_no e1]
          rcases Bool.eq_false_or_eq_true (canV two size) with e2 | e2
          · rw [HS _ (paint_yellow n1 (by omega) e2), if_pos e2]
          · rw [HS _ (paint_red n1 (by simp [e2])), if_neg (show ¬ canV two size = true by simp [e2]), takeV_no e2]
      · rw [if_neg e0]
        have n1 : ¬ (c = 0 ∧ canV one size = true) := fun h => e0 h.1
        by_cases e1 : c = 1
        · rw [if_pos e1]
          rcases Bool.eq_false_or_eq_true (canV two size) with e2 | e2
          · rw [HS _ (paint_yellow n1 (by omega) e2), if_pos e2]
          · rw [HS _ (paint_red n1 (by simp [e2])), if_neg (show ¬ canV two size = true by simp [e2]), takeV_no e2]
        · rw [if_neg e1, HS _ (paint_red n1 (fun h => h.1 (by omega)))]
  · rw [if_neg hc]
    simp only [single_Step.j0]
    rw [if_pos trivial, if_pos (show chkS k r p b x ≠ 0 ∨ size < 0 from .inl hc)]

/-- A meter's level at first. -/
def newS (c b x : Int) : Int × Int × Int × Bool × Int := if c = 0 then (b * 1000000000, x * 1000000000, 0, false, 0) else (0, 0, 0, false, c)
theorem snew_eq (n : Nat) (k : Int) (a : Bool) (r p b x : Int) (hb : U b) (hx : U x) : single_New.f (n + 1) k a r p b x = some (newS (chkS k r p b x) b x) := by
  unfold single_New.f newS
  rw [scheck_eq _ _ _ _ _ _ _ hb hx]
  simp only [Option.bind_some]
  by_cases hc : chkS k r p b x = 0
  · obtain ⟨_, _, _, kb, kx⟩ := chkS_ok hc
    rw [if_pos hc, if_pos hc]
    unfold single_rims.f
    rw [if_pos ⟨hb, hx⟩, (nano_in hb kb).2.2, (nano_in hx kx).2.2]
    rfl
  · rw [if_neg hc, if_neg hc]
end Go.Proofs.Ytiaoaoebghnpkaa.P
