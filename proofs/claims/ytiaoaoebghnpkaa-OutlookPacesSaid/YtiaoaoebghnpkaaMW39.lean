/- Part of the proof. -/
import Derived.Test.YtiaoaoebghnpkaaMW36
import Derived.Test.YtiaoaoebghnpkaaMW37
import Derived.Test.YtiaoaoebghnpkaaMW38
/- What a meter's step leaves, of one rate or of two: words, and a colour; behind an aware meter none better than the one ahead; and packets one behind the other. -/
namespace Go.Proofs.Ytiaoaoebghnpkaa.P
open Go.RowKit Go.Proofs.YtiaoaoebghnpkaaW.PrintWords Go.Proofs.YtiaoaoebghnpkaaW.PrintLast

def chkM (k r p b x : Int) : Int := if k = 2 then chkD k r p b x else chkS k r p b x
def stepM (k : Int) (a : Bool) (r p b x s0 s1 s2 : Int) (s3 : Bool) (t size pre : Int) : Int × Int × Int × Bool × Int :=
  if chkM k r p b x ≠ 0 ∨ size < 0 then (s0, s1, s2, s3, 2) else if k = 2 then stepD a r p b x s0 s1 s2 s3 t size pre else stepS a r b x s0 s1 s2 s3 t size pre
theorem chkM_two {k r p b x : Int} (h : k = 2) : chkM k r p b x = chkD k r p b x := by unfold chkM; rw [if_pos h]
theorem chkM_one {k r p b x : Int} (h : k ≠ 2) : chkM k r p b x = chkS k r p b x := by unfold chkM; rw [if_neg h]
theorem mcheck_eq (k : Int) (a : Bool) (r p b x : Int) (hb : U b) (hx : U x) : meter_Check.f k a r p b x = some (chkM k r p b x) := by
  unfold meter_Check.f chkM
  split
  · exact dcheck_eq 4 _ _ _ _ _ _ hb hx
  · exact scheck_eq 4 _ _ _ _ _ _ hb hx
theorem mnew_eq (k : Int) (a : Bool) (r p b x : Int) (hb : U b) (hx : U x) : meter_New.f k a r p b x = some (newS (chkM k r p b x) b x) := by
  unfold meter_New.f chkM
  split
  · exact dnew_eq _ _ _ _ _ _ hb hx
  · exact snew_eq 4 _ _ _ _ _ _ hb hx
theorem mstep_eq (k : Int) (a : Bool) (r p b x s0 s1 s2 : Int) (s3 : Bool) (t size pre : Int) (hr : U r) (hp : U p) (hb : U b) (hx : U x) (h0 : U s0) (h1 : U s1) (h2 : U s2) (ht : U t) (hs : I64 size) :
    meter_Step.f k a r p b x s0 s1 s2 s3 t size pre = some (stepM k a r p b x s0 s1 s2 s3 t size pre) := by
  unfold meter_Step.f stepM chkM
  by_cases hk : k = 2
  · rw [if_pos hk, if_pos hk, if_pos hk]
    exact dstep_eq _ _ _ _ _ _ _ _ _ _ _ _ _ hr hp hb hx h0 h1 h2 ht hs
  · rw [if_neg hk, if_neg hk, if_neg hk]
    exact sstep_eq 4 _ _ _ _ _ _ _ _ _ _ _ _ _ hr hb hx h0 h1 h2 ht hs
theorem take_U {l s : Int} (hl : U l) : U (takeV l s) := by
  unfold takeV
  rcases Bool.eq_false_or_eq_true (canV l s) with e | e
  · rw [if_pos e]
    unfold canV at e
    have := U_need s
    simp only [Bool.and_eq_true, decide_eq_true_eq] at e
    unfold U at *; omega
  · rw [if_neg (by simp [e])]; exact hl
theorem stepM_U {k : Int} {a : Bool} {r p b x s0 s1 s2 : Int} {s3 : Bool} {t size pre : Int} (hr : U r) (hp : U p) (hb : U b) (hx : U x) (h0 : U s0) (h1 : U s1) (h2 : U s2) (ht : U t) :
    U (stepM k a r p b x s0 s1 s2 s3 t size pre).1 ∧ U (stepM k a r p b x s0 s1 s2 s3 t size pre).2.1 ∧ U (stepM k a r p b x s0 s1 s2 s3 t size pre).2.2.1 := by
  by_cases hk : k = 2
  · have h := stepD_U (k := k) (a := a) (r := r) (p := p) (b := b) (x := x) (s0 := s0) (s1 := s1) (s2 := s2) (s3 := s3) (t := t) (size := size) (pre := pre) hr hp hb hx h0 h1 h2 ht
    unfold stepM
    rw [chkM_two hk, if_pos hk]
    exact h
  · unfold stepM
    rw [chkM_one hk, if_neg hk]
    by_cases hc : chkS k r p b x ≠ 0 ∨ size < 0
    · simp only [if_pos hc]; exact ⟨h0, h1, h2⟩
    · simp only [if_neg hc]
      obtain ⟨_, _, _, kb, kx⟩ := chkS_ok (show chkS k r p b x = 0 by omega)
      obtain ⟨_, ub, _⟩ := nano_in hb kb
      obtain ⟨_, ux, _⟩ := nano_in hx kx
      have hV := V_mul hr (U_dt (seen := s3) h2 ht)
      obtain ⟨_, _, vs, u1⟩ := put_bounds h0 ub hV
      obtain ⟨u2, _, _⟩ := two_bounds h1 ux vs.1
      unfold stepS paintS
      simp only []
      refine ⟨?_, ?_, U_now h2 ht⟩
      · split
        · exact take_U u1
        · split <;> exact u1
      · split
        · exact u2
        · split
          · exact take_U u2
          · exact u2
theorem stepM_col {k : Int} {a : Bool} {r p b x s0 s1 s2 : Int} {s3 : Bool} {t size pre : Int} :
    0 ≤ (stepM k a r p b x s0 s1 s2 s3 t size pre).2.2.2.2 ∧ (stepM k a r p b x s0 s1 s2 s3 t size pre).2.2.2.2 ≤ 2 ∧ colV a pre ≤ (stepM k a r p b x s0 s1 s2 s3 t size pre).2.2.2.2 := by
  have hc := colV_range a pre
  unfold stepM
  split
  · exact ⟨by dsimp only; decide, by dsimp only; decide, hc.2⟩
  · split
    · unfold stepD paintD
      simp only []
      generalize colV a pre = c at *
      split
      · exact ⟨by dsimp only; decide, by dsimp only; decide, hc.2⟩
      · rename_i h
        have : c ≠ 2 := fun e => h (.inl e)
        split
        · exact ⟨by dsimp only; decide, by dsimp only; decide, by dsimp only; omega⟩
        · rename_i h2
          have : c ≠ 1 := fun e => h2 (.inl e)
          exact ⟨by dsimp only; decide, by dsimp only; decide, by dsimp only; omega⟩
    · unfold stepS paintS
      simp only []
      generalize colV a pre = c at *
      split
      · rename_i h
        exact ⟨by dsimp only; decide, by dsimp only; decide, by dsimp only; omega⟩
      · split
        · rename_i h
          exact ⟨by dsimp only; decide, by dsimp only; decide, by dsimp only; omega⟩
        · exact ⟨by dsimp only; decide, by dsimp only; decide, hc.2⟩

/-- A packet that may be: a word, and an int. -/
def okS (p : Int × Int) : Prop := U p.1 ∧ I64 p.2
theorem okS_get {xs : List (Int × Int)} (h : ∀ p ∈ xs, okS p) (i : Nat) : okS (xs.getD i (0, 0)) := by
  rw [List.getD_eq_getElem?_getD]
  rcases Nat.lt_or_ge i xs.length with hi | hi
  · rw [List.getElem?_eq_getElem hi]
    exact h _ (List.getElem_mem hi)
  · rw [List.getElem?_eq_none hi]
    exact ⟨U_zero, by unfold I64; dsimp only [Option.getD_none]; omega⟩

theorem getD_set_eq (l : List Int) (k : Nat) (c : Int) (h : k < l.length) : (l.set k c).getD k 0 = c := by
  rw [List.getD_eq_getElem?_getD, List.getElem?_set_self h]
  rfl
theorem getD_set_ne (l : List Int) (k j : Nat) (c : Int) (h : k ≠ j) : (l.set k c).getD j 0 = l.getD j 0 := by
  rw [List.getD_eq_getElem?_getD, List.getElem?_set_ne h, ← List.getD_eq_getElem?_getD]

theorem mrun_some {k : Int} {a : Bool} {r p b x : Int} {xs : List (Int × Int)} {o : List Int} {s0 s1 s2 : Int} {s3 : Bool} (hr : U r) (hp : U p) (hb : U b) (hx : U x) (h0 : U s0) (h1 : U s1) (h2 : U s2) (hxs : ∀ p ∈ xs, okS p) (hol : o.length = xs.length) :
    ∀ n, n ≤ xs.length → ∃ q, mrun k a r p b x xs o s0 s1 s2 s3 n = some q ∧ U q.1.1 ∧ U q.1.2.1 ∧ U q.1.2.2.1 ∧ q.2.length = xs.length ∧
      (∀ j, j < n → 0 ≤ q.2.getD j 0 ∧ q.2.getD j 0 ≤ 2 ∧ colV a (o.getD j 0) ≤ q.2.getD j 0) ∧ (∀ j, n ≤ j → q.2.getD j 0 = o.getD j 0)
  | 0, _ => ⟨_, rfl, h0, h1, h2, hol, fun j hj => absurd hj (Nat.not_lt_zero j), fun _ _ => rfl⟩
  | n + 1, hn => by
    obtain ⟨⟨⟨t0, t1, t2, t3⟩, l⟩, e, u0, u1, u2, hl, hlo, hhi⟩ := mrun_some (k := k) (a := a) (s3 := s3) hr hp hb hx h0 h1 h2 hxs hol n (by omega)
    dsimp only at u0 u1 u2 hl hlo hhi
    obtain ⟨ut, us⟩ := okS_get hxs n
    have hst := mstep_eq k a r p b x t0 t1 t2 t3 (xs.getD n (0, 0)).1 (xs.getD n (0, 0)).2 (l.getD n 0) hr hp hb hx u0 u1 u2 ut us
    have hU := stepM_U (k := k) (a := a) (s3 := t3) (size := (xs.getD n (0, 0)).2) (pre := l.getD n 0) hr hp hb hx u0 u1 u2 ut
    have hC := stepM_col (k := k) (a := a) (r := r) (p := p) (b := b) (x := x) (s0 := t0) (s1 := t1) (s2 := t2) (s3 := t3) (t := (xs.getD n (0, 0)).1) (size := (xs.getD n (0, 0)).2) (pre := l.getD n 0)
    refine ⟨_, by unfold mrun; rw [e]; simp only [Option.bind_some]; rw [hst]; rfl, hU.1, hU.2.1, hU.2.2, by simpa using hl, fun j hj => ?_, fun j hj => ?_⟩
    · dsimp only
      by_cases hjn : n = j
      · subst hjn
        rw [getD_set_eq _ _ _ (by omega), ← hhi n (Nat.le_refl n)]
        exact hC
      · rw [getD_set_ne _ _ _ _ hjn]
        exact hlo j (by omega)
    · dsimp only
      rw [getD_set_ne _ _ _ _ (by omega)]
      exact hhi j (by omega)

theorem take_zero {l : Int} (h : U l) : canV l 0 = true ∧ takeV l 0 = l := by
  have : canV l 0 = true := by
    unfold canV needV okV
    unfold U at h
    simp; omega
  refine ⟨this, ?_⟩
  unfold takeV
  rw [if_pos this]
  have : needV 0 = 0 := by decide
  omega
theorem can_no {s : Int} (h : s ≠ 0) : canV 0 s = false := by
  unfold canV needV okV
  by_cases h1 : 0 ≤ s
  · by_cases h2 : s * 1000000000 < 18446744073709551616
    · simp [h1, h2]; omega
    · simp [h2]
  · simp [h1]
/-- Two equal buckets, and one without a second one: the same behind a packet that was not painted. -/
theorem same_step (a : Bool) (r b s0 s2 : Int) (s3 : Bool) (t size : Int) (hr : U r) (hb1 : 1 ≤ b) (hb2 : b ≤ 4294967296) (hr2 : r ≤ 1099511627776) (h0 : U s0) (h2 : U s2) (ht : U t) :
    ∃ z c, stepM 2 a r r b b s0 s0 s2 s3 t size 0 = (z, z, (if size < 0 then s2 else nowV s2 s3 t), (if size < 0 then s3 else true), c) ∧ stepM 1 a r 0 b 0 s0 0 s2 s3 t size 0 = (z, 0, (if size < 0 then s2 else nowV s2 s3 t), (if size < 0 then s3 else true), c) ∧ c ≠ 1 := by
  have k2 : chkM 2 r r b b = 0 := by rw [chkM_two rfl]; exact dchk_good rfl (by omega) (by omega)
  have k1 : chkM 1 r 0 b 0 = 0 := by rw [chkM_one (by decide)]; exact chk_good rfl (by omega) (by omega)
  have ub : U b := by unfold U; omega
  obtain ⟨_, ubn, _⟩ := nano_in ub hb2
  have hV := V_mul hr (U_dt (seen := s3) h2 ht)
  obtain ⟨_, _, vs, u1⟩ := put_bounds h0 ubn hV
  have c0 : colV a 0 = 0 := by unfold colV; split <;> simp
  have e2 : twoV 0 (0 * 1000000000) (spillV s0 (b * 1000000000) (r * dtV s2 s3 t)) = 0 := by
    have := vs.1
    unfold twoV
    rw [Int.min_def 0]
    simp
    rw [Int.min_def]
    split <;> omega
  unfold stepM
  rw [k2, k1]
  by_cases hs : size < 0
  · refine ⟨s0, 2, ?_, ?_, by decide⟩
    · rw [if_pos (.inr hs), if_pos hs, if_pos hs]
    · rw [if_pos (.inr hs), if_pos hs, if_pos hs]
  · rw [if_neg (show ¬ ((0 : Int) ≠ 0 ∨ size < 0) by omega), if_neg (show ¬ ((0 : Int) ≠ 0 ∨ size < 0) by omega), if_pos rfl, if_neg (show ¬ (1 : Int) = 2 by decide), if_neg hs, if_neg hs]
    unfold stepD stepS
    simp only []
    rw [c0, e2]
    generalize growV s0 (b * 1000000000) (r * dtV s2 s3 t) = g at *
    rcases Bool.eq_false_or_eq_true (canV g size) with e | e
    · refine ⟨takeV g size, 0, ?_, ?_, by decide⟩
      · rw [dpaint_green (by simp [e]) (by simp [e])]
      · rw [paint_green rfl e]
    · have hz : size ≠ 0 := fun h => by rw [h, (take_zero u1).1] at e; cases e
      refine ⟨g, 2, ?_, ?_, by decide⟩
      · rw [dpaint_red (.inr e)]
      · rw [paint_red (by simp [e]) (by simp [can_no hz])]

theorem same_run (a : Bool) (r b : Int) (xs : List (Int × Int)) (o : List Int) (s0 s2 : Int) (s3 : Bool) (hr : U r) (hb1 : 1 ≤ b) (hb2 : b ≤ 4294967296) (hr2 : r ≤ 1099511627776) (h0 : U s0) (h2 : U s2) (hxs : ∀ p ∈ xs, okS p) (hol : o.length = xs.length) (ho : ∀ j, o.getD j 0 = 0) :
    ∀ n, n ≤ xs.length → ∃ z t l b3, mrun 2 a r r b b xs o s0 s0 s2 s3 n = some ((z, z, t, b3), l) ∧ mrun 1 a r 0 b 0 xs o s0 0 s2 s3 n = some ((z, 0, t, b3), l) ∧ l.length = xs.length ∧ (∀ j, j < n → l.getD j 0 ≠ 1) ∧ (∀ j, n ≤ j → l.getD j 0 = 0)
  | 0, _ => ⟨_, _, _, _, rfl, rfl, hol, fun j hj => absurd hj (Nat.not_lt_zero j), fun j _ => ho j⟩
  | n + 1, hn => by
    have ub : U b := by unfold U; omega
    obtain ⟨z, t, l, b3, e1, e2, hl, hlo, hhi⟩ := same_run a r b xs o s0 s2 s3 hr hb1 hb2 hr2 h0 h2 hxs hol ho n (by omega)
    obtain ⟨q, eq, u0, _, u2, _⟩ := mrun_some (k := 2) (a := a) (s3 := s3) hr hr ub ub h0 h0 h2 hxs hol n (by omega)
    rw [e1] at eq
    obtain rfl := Option.some.inj eq
    dsimp only at u0 u2
    obtain ⟨ut, us⟩ := okS_get hxs n
    obtain ⟨z', c, g1, g2, hc⟩ := same_step a r b z t b3 (xs.getD n (0, 0)).1 (xs.getD n (0, 0)).2 hr hb1 hb2 hr2 u0 u2 ut
    refine ⟨z', (if (xs.getD n (0, 0)).2 < 0 then t else nowV t b3 (xs.getD n (0, 0)).1), l.set n c, (if (xs.getD n (0, 0)).2 < 0 then b3 else true), ?_, ?_, by simpa using hl, fun j hj => ?_, fun j hj => ?_⟩
    · unfold mrun
      rw [e1]
      simp only [Option.bind_some]
      rw [hhi n (Nat.le_refl n), mstep_eq 2 a r r b b z z t b3 _ _ _ hr hr ub ub u0 u0 u2 ut us, g1]
      rfl
    · unfold mrun
      rw [e2]
      simp only [Option.bind_some]
      rw [hhi n (Nat.le_refl n), mstep_eq 1 a r 0 b 0 z 0 t b3 _ _ _ hr U_zero ub U_zero u0 U_zero u2 ut us, g2]
      rfl
    · by_cases hjn : n = j
      · subst hjn
        rw [getD_set_eq _ _ _ (by omega)]
        exact hc
      · rw [getD_set_ne _ _ _ _ hjn]
        exact hlo j (by omega)
    · rw [getD_set_ne _ _ _ _ (by omega)]
      exact hhi j (by omega)
end Go.Proofs.Ytiaoaoebghnpkaa.P
