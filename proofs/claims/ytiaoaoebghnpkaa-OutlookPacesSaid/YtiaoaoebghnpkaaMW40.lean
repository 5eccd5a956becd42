/- Part of the proof. -/
import Derived.Test.YtiaoaoebghnpkaaMW28
import Derived.Test.YtiaoaoebghnpkaaMW30
import Derived.Test.YtiaoaoebghnpkaaMW29
import Derived.Test.YtiaoaoebghnpkaaMW27
import Derived.Test.YtiaoaoebghnpkaaMW39
/- What the document's answers for meters come to, in closed form: the same as the meters'. -/
namespace Go.Proofs.Ytiaoaoebghnpkaa.P
open Go.RowKit Go.Proofs.YtiaoaoebghnpkaaW.PrintWords Go.Proofs.YtiaoaoebghnpkaaW.PrintLast Go.Proofs.YtiaoaoebghnpkaaW.PrintMore

theorem rstep_eq (l : Int) (seen : Bool) (t : Int) (hl : U l) (ht : U t) : weighbridgeref25_Step.f l seen t = some (nowV l seen t, dtV l seen t) := by
  unfold weighbridgeref25_Step.f nowV dtV
  cases seen with
  | false => simp
  | true =>
    by_cases h : t ≤ l
    · have : ¬ l < t := by omega
      simp [h, this]
    · have h2 : l < t := by omega
      have : IntKind.u64.wrap (t - l) = t - l := wrap_in (by unfold U at *; omega)
      simp [h, h2, this]
theorem colour_eq (a : Bool) (c : Int) : weighbridgeref26_Colour.f a c = some (colV a c) := by
  unfold weighbridgeref26_Colour.f colV
  cases a with
  | false => rfl
  | true =>
    simp only [if_true]
    by_cases h1 : c < 0
    · rw [if_pos h1, if_pos (.inl h1)]
    · rw [if_neg h1]
      by_cases h2 : c > 2
      · rw [if_pos h2, if_pos (.inr h2)]
      · rw [if_neg h2, if_neg (by omega)]
theorem rtake_eq {l s : Int} (hl : U l) (hs : I64 s) : weighbridgeref24_Take.f l s = some (takeV l s, canV l s) := by unfold weighbridgeref24_Take.f; rw [if_pos ⟨hl, hs⟩]
theorem r27check_eq (n : Nat) (k : Int) (a : Bool) (r p b x : Int) : weighbridgeref27_Check.f (n + 1) k a r p b x = some (chkD k r p b x) := by
  have hj : ∀ y : Bool, (k = 2) → ((y = true) ↔ (p < r ∨ 1099511627776 < p)) → weighbridgeref27_Check.j0 (n + 1) y k a r p b x = some (chkD k r p b x) := by
    intro y hk hy
    simp only [weighbridgeref27_Check.j0]
    by_cases h : p < r ∨ 1099511627776 < p
    · rw [if_pos (hy.2 h), dchk_rate hk h]
    · rw [if_neg (fun hh => h (hy.1 hh))]
      by_cases h1 : b < 1
      · rw [if_pos h1, dchk_burst hk h (by omega)]
      · rw [if_neg h1]
        by_cases h2 : b > 4294967296
        · rw [if_pos h2, dchk_burst hk h (by omega)]
        · rw [if_neg h2]
          by_cases h3 : x < 1
          · rw [if_pos h3, dchk_burst hk h (by omega)]
          · rw [if_neg h3]
            by_cases h4 : x > 4294967296
            · rw [if_pos h4, dchk_burst hk h (by omega)]
            · rw [if_neg h4, dchk_good hk h (by omega)]
  unfold weighbridgeref27_Check.f
  by_cases h1 : k = 2
  · rw [if_pos h1]
    by_cases h2 : r > p
    · rw [if_pos h2]; exact hj true h1 ⟨fun _ => .inl h2, fun _ => rfl⟩
    · rw [if_neg h2]; exact hj _ h1 ⟨fun h => .inr (of_decide_eq_true h), fun h => decide_eq_true (by omega)⟩
  · rw [if_neg h1, dchk_kind h1]
theorem later27_eq (k : Int) (a : Bool) (r p b x s0 s1 s2 : Int) (s3 : Bool) (t : Int) (hr : U r) (hp : U p) (hb : U b) (hx : U x) (h0 : U s0) (h1 : U s1) (h2 : U s2) (ht : U t) (kb : b ≤ 4294967296) (kx : x ≤ 4294967296) :
    weighbridgeref27_Later.f k a r p b x s0 s1 s2 s3 t = some (growV s0 (b * 1000000000) (r * dtV s2 s3 t), growV s1 (x * 1000000000) (p * dtV s2 s3 t), nowV s2 s3 t, true) := by
  obtain ⟨wb, ub, eb⟩ := nano_in hb kb
  obtain ⟨wx, ux, ex⟩ := nano_in hx kx
  have ud := U_dt (seen := s3) h2 ht
  unfold weighbridgeref27_Later.f
  rw [rstep_eq _ _ _ h2 ht]
  simp only [Option.bind_some]
  rw [wb, wx]
  unfold weighbridgeref24_Grow.f
  rw [if_pos ⟨h0, ub, hr, ud⟩, if_pos ⟨h1, ux, hp, ud⟩]
  rfl
theorem rstep27_eq (n : Nat) (k : Int) (a : Bool) (r p b x s0 s1 s2 : Int) (s3 : Bool) (t size pre : Int) (hr : U r) (hp : U p) (hb : U b) (hx : U x) (h0 : U s0) (h1 : U s1) (h2 : U s2) (ht : U t) (hs : I64 size) :
    weighbridgeref27_Step.f (n + 2) k a r p b x s0 s1 s2 s3 t size pre = some (if chkD k r p b x ≠ 0 ∨ size < 0 then (s0, s1, s2, s3, 2) else stepD a r p b x s0 s1 s2 s3 t size pre) := by
  unfold weighbridgeref27_Step.f
  rw [r27check_eq]
  simp only [Option.bind_some]
  by_cases hc : chkD k r p b x = 0
  · rw [if_pos hc]
    simp only [weighbridgeref27_Step.j0]
    by_cases hz : size < 0
    · rw [if_pos (decide_eq_true hz), if_pos (show chkD k r p b x ≠ 0 ∨ size < 0 from .inr hz)]
    · rw [if_neg (by simpa using hz), if_neg (show ¬ (chkD k r p b x ≠ 0 ∨ size < 0) by omega)]
      obtain ⟨kb, kx⟩ := chkD_ok hc
      obtain ⟨_, ub, eb⟩ := nano_in hb kb
      obtain ⟨_, ux, ex⟩ := nano_in hx kx
      have ud := U_dt (seen := s3) h2 ht
      obtain ⟨_, _, _, u1⟩ := put_bounds h0 ub (V_mul hr ud)
      obtain ⟨_, _, _, u2⟩ := put_bounds h1 ux (V_mul hp ud)
      rw [later27_eq k a r p b x s0 s1 s2 s3 t hr hp hb hx h0 h1 h2 ht kb kx]
      simp only [Option.bind_some]
      rw [colour_eq]
      simp only [Option.bind_some]
      have hcr := colV_range a pre
      unfold stepD
      simp only []
      generalize growV s0 (b * 1000000000) (r * dtV s2 s3 t) = one at *
      generalize growV s1 (x * 1000000000) (p * dtV s2 s3 t) = two at *
      generalize colV a pre = c at *
      rw [rtake_eq u1 hs, rtake_eq u2 hs]
      simp only [Option.bind_some, weighbridgeref27_Step.j1]
      by_cases e2 : c = 2
      · rw [if_pos e2, if_pos trivial, dpaint_red (.inl e2)]
      · rw [if_neg e2]
        rcases Bool.eq_false_or_eq_true (canV two size) with e3 | e3
        · rw [e3, if_neg (show ¬ ((!true) = true) by simp)]
          by_cases e1 : c = 1
          · rw [if_pos e1, dpaint_yellow (by simp [e2, e3]) (.inl e1)]
          · rw [if_neg e1]
            rcases Bool.eq_false_or_eq_true (canV one size) with e0 | e0
            · rw [if_pos e0, dpaint_green (by simp [e2, e3]) (by simp [e1, e0])]
            · rw [if_neg (by simp [e0]), dpaint_yellow (by simp [e2, e3]) (.inr e0)]
        · rw [e3, if_pos (show ((!false) = true) by simp), dpaint_red (.inr e3)]
  · rw [if_neg hc]
    simp only [weighbridgeref27_Step.j0]
    rw [if_pos trivial, if_pos (show chkD k r p b x ≠ 0 ∨ size < 0 from .inl hc)]
theorem rnew27_eq (n : Nat) (k : Int) (a : Bool) (r p b x : Int) (hb : U b) (hx : U x) : weighbridgeref27_New.f (n + 1) k a r p b x = some (newS (chkD k r p b x) b x) := by
  unfold weighbridgeref27_New.f newS
  rw [r27check_eq]
  simp only [Option.bind_some]
  by_cases hc : chkD k r p b x = 0
  · obtain ⟨kb, kx⟩ := chkD_ok hc
    rw [if_pos hc, if_pos hc, (nano_in hb kb).1, (nano_in hx kx).1]
  · rw [if_neg hc, if_neg hc]
theorem rcheck_eq (n : Nat) (k : Int) (a : Bool) (r p b x : Int) : weighbridgeref26_Check.f (n + 1) k a r p b x = some (chkS k r p b x) := by
  unfold weighbridgeref26_Check.f
  simp only [weighbridgeref26_Check.j0]
  by_cases h1 : k = 1
  · rw [if_pos h1]
    by_cases h2 : r > 1099511627776
    · rw [if_pos h2, if_pos trivial, chk_rate h1 (.inl h2)]
    · rw [if_neg h2]
      by_cases h3 : p = 0
      · have h4 : ¬ (1099511627776 < r ∨ p ≠ 0) := by omega
        rw [if_neg (show ¬ (p != 0) = true by simp [h3])]
        by_cases h5 : b > 4294967296
        · rw [if_pos h5, chk_burst h1 h4 (by omega)]
        · rw [if_neg h5]
          by_cases h6 : x > 4294967296
          · rw [if_pos h6, chk_burst h1 h4 (by omega)]
          · rw [if_neg h6]
            by_cases h7 : b = 0
            · rw [if_pos h7]
              by_cases h8 : x = 0
              · rw [if_pos h8, chk_burst h1 h4 (by omega)]
              · rw [if_neg h8, chk_good h1 h4 (by omega)]
            · rw [if_neg h7, chk_good h1 h4 (by omega)]
      · rw [if_pos (show (p != 0) = true by simpa using h3), chk_rate h1 (.inr h3)]
  · rw [if_neg h1, chk_kind h1]
theorem later_eq (k : Int) (a : Bool) (r p b x s0 s1 s2 : Int) (s3 : Bool) (t : Int) (hr : U r) (hb : U b) (hx : U x) (h0 : U s0) (h1 : U s1) (h2 : U s2) (ht : U t) (kb : b ≤ 4294967296) (kx : x ≤ 4294967296) :
    weighbridgeref26_Later.f k a r p b x s0 s1 s2 s3 t = some (growV s0 (b * 1000000000) (r * dtV s2 s3 t), twoV s1 (x * 1000000000) (spillV s0 (b * 1000000000) (r * dtV s2 s3 t)), nowV s2 s3 t, true) := by
  obtain ⟨wb, ub, eb⟩ := nano_in hb kb
  obtain ⟨wx, ux, ex⟩ := nano_in hx kx
  have ud := U_dt (seen := s3) h2 ht
  have hV := V_mul hr ud
  obtain ⟨_, _, vs, _⟩ := put_bounds h0 ub hV
  obtain ⟨u2, _, _⟩ := two_bounds h1 ux vs.1
  have : IntKind.u64.wrap (s1 + min (spillV s0 (b * 1000000000) (r * dtV s2 s3 t)) (x * 1000000000 - min s1 (x * 1000000000))) = twoV s1 (x * 1000000000) (spillV s0 (b * 1000000000) (r * dtV s2 s3 t)) := wrap_in u2
  unfold weighbridgeref26_Later.f
  rw [rstep_eq _ _ _ h2 ht]
  simp only [Option.bind_some]
  rw [wb, wx]
  unfold weighbridgeref24_Grow.f
  rw [if_pos ⟨h0, ub, hr, ud⟩]
  simp only [Option.bind_some]
  by_cases hlt : s1 < x * 1000000000
  · rw [if_pos hlt]
    have hm : min s1 (x * 1000000000) = s1 := Int.min_eq_left (by omega)
    have uroom : U (x * 1000000000 - s1) := by unfold U at *; omega
    rw [wrap_in uroom]
    unfold weighbridgeref02_Cap.f
    rw [if_pos ⟨U_hi _, U_lo _, uroom⟩]
    simp only [Option.bind_some]
    rw [wd_hi_lo vs]
    rw [hm] at this
    rw [this]
  · rw [if_neg hlt]
    have hm : min s1 (x * 1000000000) = x * 1000000000 := Int.min_eq_right (by omega)
    unfold weighbridgeref02_Cap.f
    rw [if_pos ⟨U_hi _, U_lo _, U_zero⟩]
    simp only [Option.bind_some]
    rw [wd_hi_lo vs]
    rw [hm, Int.sub_self] at this
    rw [this]
theorem rstep26_eq (n : Nat) (k : Int) (a : Bool) (r p b x s0 s1 s2 : Int) (s3 : Bool) (t size pre : Int) (hr : U r) (hb : U b) (hx : U x) (h0 : U s0) (h1 : U s1) (h2 : U s2) (ht : U t) (hs : I64 size) :
    weighbridgeref26_Step.f (n + 2) k a r p b x s0 s1 s2 s3 t size pre = some (if chkS k r p b x ≠ 0 ∨ size < 0 then (s0, s1, s2, s3, 2) else stepS a r b x s0 s1 s2 s3 t size pre) := by
  unfold weighbridgeref26_Step.f
  rw [rcheck_eq]
  simp only [Option.bind_some]
  by_cases hc : chkS k r p b x = 0
  · rw [if_pos hc]
    simp only [weighbridgeref26_Step.j0]
    by_cases hz : size < 0
    · rw [if_pos (show decide (size < 0) = true by simpa using hz), if_pos (show chkS k r p b x ≠ 0 ∨ size < 0 from .inr hz)]
    · rw [if_neg (show ¬ decide (size < 0) = true by simpa using hz), if_neg (show ¬ (chkS k r p b x ≠ 0 ∨ size < 0) by omega)]
      obtain ⟨_, _, _, kb, kx⟩ := chkS_ok hc
      obtain ⟨_, ub, _⟩ := nano_in hb kb
      obtain ⟨_, ux, _⟩ := nano_in hx kx
      have hV := V_mul hr (U_dt (seen := s3) h2 ht)
      obtain ⟨_, _, vs, u1⟩ := put_bounds h0 ub hV
      obtain ⟨u2, _, _⟩ := two_bounds h1 ux vs.1
      rw [later_eq _ _ _ _ _ _ _ _ _ _ _ hr hb hx h0 h1 h2 ht kb kx]
      simp only [Option.bind_some]
      rw [colour_eq]
      simp only [Option.bind_some]
      simp only [weighbridgeref26_Step.j1]
      have hcr := colV_range a pre
      obtain ⟨one, e1⟩ : ∃ one, one = growV s0 (b * 1000000000) (r * dtV s2 s3 t) := ⟨_, rfl⟩
      obtain ⟨two, e2⟩ : ∃ two, two = twoV s1 (x * 1000000000) (spillV s0 (b * 1000000000) (r * dtV s2 s3 t)) := ⟨_, rfl⟩
      have HS := fun q => stepS_of a r b x s0 s1 s2 s3 t size pre one two q e1 e2
      rw [← e1] at u1 ⊢
      rw [← e2] at u2 ⊢
      clear e1 e2
      generalize colV a pre = c at *
      rw [rtake_eq u1 hs, rtake_eq u2 hs]
      simp only [Option.bind_some]
      rcases Bool.eq_false_or_eq_true (canV one size) with e1 | e1
      · rw [if_pos e1]
        by_cases e0 : c = 0
        · rw [HS _ (paint_green e0 e1), if_pos (show (c == 0) = true by simpa using e0)]
        · have n1 : ¬ (c = 0 ∧ canV one size = true) := fun h => e0 h.1
          rw [if_neg (show ¬ (c == 0) = true by simpa using e0)]
          rcases Bool.eq_false_or_eq_true (canV two size) with e2 | e2
          · rw [if_pos e2]
            by_cases e3 : c = 2
            · rw [if_pos e3, HS _ (paint_red n1 (fun h => h.1 e3))]
            · rw [if_neg e3, HS _ (paint_yellow n1 e3 e2)]
          · rw [if_neg (show ¬ canV two size = true by simp [e2]), HS _ (paint_red n1 (by simp [e2]))]
      · have n1 : ¬ (c = 0 ∧ canV one size = true) := by simp [e1]
        rw [if_neg (show ¬ canV one size = true by simp [e1]), if_neg (show ¬ false = true by simp)]
        rcases Bool.eq_false_or_eq_true (canV two size) with e2 | e2
        · rw [if_pos e2]
          by_cases e3 : c = 2
          · rw [if_pos e3, HS _ (paint_red n1 (fun h => h.1 e3))]
          · rw [if_neg e3, HS _ (paint_yellow n1 e3 e2)]
        · rw [if_neg (show ¬ canV two size = true by simp [e2]), HS _ (paint_red n1 (by simp [e2]))]
  · rw [if_neg hc]
    simp only [weighbridgeref26_Step.j0]
    rw [if_pos trivial, if_pos (show chkS k r p b x ≠ 0 ∨ size < 0 from .inl hc)]
theorem rnew_eq (n : Nat) (k : Int) (a : Bool) (r p b x : Int) (hb : U b) (hx : U x) : weighbridgeref26_New.f (n + 1) k a r p b x = some (newS (chkS k r p b x) b x) := by
  unfold weighbridgeref26_New.f newS
  rw [rcheck_eq]
  simp only [Option.bind_some]
  by_cases hc : chkS k r p b x = 0
  · obtain ⟨_, _, _, kb, kx⟩ := chkS_ok hc
    rw [if_pos hc, if_pos hc, (nano_in hb kb).1, (nano_in hx kx).1]
  · rw [if_neg hc, if_neg hc]
theorem rmcheck_eq (n : Nat) (k : Int) (a : Bool) (r p b x : Int) : weighbridgeref28_Check.f (n + 1) k a r p b x = some (chkM k r p b x) := by
  unfold weighbridgeref28_Check.f chkM
  split
  · rw [r27check_eq]; rfl
  · rw [rcheck_eq]; rfl
theorem rmnew_eq (n : Nat) (k : Int) (a : Bool) (r p b x : Int) (hb : U b) (hx : U x) : weighbridgeref28_New.f (n + 1) k a r p b x = some (newS (chkM k r p b x) b x) := by
  unfold weighbridgeref28_New.f chkM
  split
  · rw [rnew27_eq _ _ _ _ _ _ _ hb hx]; rfl
  · rw [rnew_eq _ _ _ _ _ _ _ hb hx]; rfl
theorem rmstep_eq (n : Nat) (k : Int) (a : Bool) (r p b x s0 s1 s2 : Int) (s3 : Bool) (t size pre : Int) (hr : U r) (hp : U p) (hb : U b) (hx : U x) (h0 : U s0) (h1 : U s1) (h2 : U s2) (ht : U t) (hs : I64 size) :
    weighbridgeref28_Step.f (n + 2) k a r p b x s0 s1 s2 s3 t size pre = some (stepM k a r p b x s0 s1 s2 s3 t size pre) := by
  unfold weighbridgeref28_Step.f stepM chkM
  by_cases hk : k = 2
  · rw [if_pos hk, if_pos hk, if_pos hk, rstep27_eq _ _ _ _ _ _ _ _ _ _ _ _ _ _ hr hp hb hx h0 h1 h2 ht hs]; rfl
  · rw [if_neg hk, if_neg hk, if_neg hk, rstep26_eq _ _ _ _ _ _ _ _ _ _ _ _ _ _ hr hb hx h0 h1 h2 ht hs]; rfl
end Go.Proofs.Ytiaoaoebghnpkaa.P
