/- Part of the proof. -/
import Derived.Test.YtiaoaoebghnpkaaKP33
/- How long buckets wait: plain numbers. -/
namespace Go.Proofs.Ytiaoaoebghnpkaa.P
open Go.RowKit

/-- What a wait tells: the least time from which on it is so, or that it never is. -/
def Waits (P : Int → Prop) (q : Int × Bool) : Prop := (q.2 = true → ∀ e, 0 ≤ e → ¬ P e) ∧ (q.2 = false → ∀ e, 0 ≤ e → (P e ↔ q.1 ≤ e)) ∧ 0 ≤ q.1
theorem Waits.congr {P Q : Int → Prop} {q : Int × Bool} (h : Waits P q) (hc : ∀ e, 0 ≤ e → (Q e ↔ P e)) : Waits Q q :=
  ⟨fun h2 e he hq => h.1 h2 e he ((hc e he).1 hq), fun h2 e he => (hc e he).trans (h.2.1 h2 e he), h.2.2⟩
theorem Waits.zero {P : Int → Prop} (h : ∀ e, 0 ≤ e → P e) : Waits P (0, false) := ⟨fun h2 => (by cases h2), fun _ e he => ⟨fun _ => he, fun _ => h e he⟩, Int.le_refl _⟩
theorem Waits.never {P : Int → Prop} (h : ∀ e, 0 ≤ e → ¬ P e) : Waits P (0, true) := ⟨fun _ => h, fun h2 => (by cases h2), Int.le_refl _⟩
def andW (a b : Int × Bool) : Int × Bool := (max a.1 b.1, a.2 || b.2)
def orW (a b : Int × Bool) : Int × Bool := if a.2 = true then b else if b.2 = true then a else (min a.1 b.1, false)
theorem Waits.and {P Q : Int → Prop} {a b : Int × Bool} (ha : Waits P a) (hb : Waits Q b) : Waits (fun e => P e ∧ Q e) (andW a b) := by
  obtain ⟨a1, a2⟩ := a
  obtain ⟨b1, b2⟩ := b
  obtain ⟨p1, p2, p3⟩ := ha
  obtain ⟨q1, q2, q3⟩ := hb
  dsimp only at p1 p2 p3 q1 q2 q3
  refine ⟨fun h e he hpq => ?_, fun h e he => ?_, ?_⟩
  · simp only [andW, Bool.or_eq_true] at h
    rcases h with h | h
    · exact p1 h e he hpq.1
    · exact q1 h e he hpq.2
  · simp only [andW, Bool.or_eq_false_iff] at h
    have h1 := p2 h.1 e he
    have h2 := q2 h.2 e he
    simp only [andW]
    rw [h1, h2, Int.max_def]
    split <;> omega
  · simp only [andW]
    rw [Int.max_def]
    split <;> omega
theorem Waits.or {P Q : Int → Prop} {a b : Int × Bool} (ha : Waits P a) (hb : Waits Q b) : Waits (fun e => P e ∨ Q e) (orW a b) := by
  obtain ⟨a1, a2⟩ := a
  obtain ⟨b1, b2⟩ := b
  have ha' := ha
  have hb' := hb
  obtain ⟨p1, p2, p3⟩ := ha
  obtain ⟨q1, q2, q3⟩ := hb
  dsimp only at p1 p2 p3 q1 q2 q3
  unfold orW
  dsimp only
  cases a2 with
  | true =>
    rw [if_pos rfl]
    exact hb'.congr fun e he => ⟨fun h => h.resolve_left (p1 rfl e he), .inr⟩
  | false =>
    rw [if_neg (by simp)]
    cases b2 with
    | true =>
      rw [if_pos rfl]
      exact ha'.congr fun e he => ⟨fun h => h.resolve_right (q1 rfl e he), .inl⟩
    | false =>
      rw [if_neg (by simp)]
      refine ⟨fun h => (by cases h), fun _ e he => ?_, ?_⟩
      · have h1 := p2 rfl e he
        have h2 := q2 rfl e he
        dsimp only
        rw [h1, h2, Int.min_def]
        split <;> omega
      · dsimp only
        rw [Int.min_def]
        split <;> omega

theorem ceil_le {m r e : Int} (hr : 0 < r) : m ≤ r * e ↔ (m - 1) / r + 1 ≤ e := by
  have h := Int.ediv_lt_iff_lt_mul (a := m - 1) (b := e) hr
  rw [Int.mul_comm e r] at h
  omega

def untilV (l R r n : Int) : Int × Bool := if n ≤ l then (0, false) else if R < n ∨ r = 0 then (0, true) else ((n - l - 1) / r + 1, false)
theorem grow_ge {l R g : Int} (hg : 0 ≤ g) : l ≤ growV l R g := by
  unfold growV putV
  rw [Int.min_def g, Int.min_def l R]
  split <;> split <;> omega
theorem grow_meets {l R g n : Int} (h : l < n) : n ≤ growV l R g ↔ n ≤ R ∧ n - l ≤ g := by
  unfold growV putV
  rw [Int.min_def g, Int.min_def l R]
  split <;> split <;> omega
theorem div_nonneg' {a r : Int} (ha : 0 ≤ a) (hr : 0 ≤ r) : 0 ≤ a / r := Int.ediv_nonneg ha hr
theorem until_waits {l R r n : Int} (hr : 0 ≤ r) : Waits (fun e => n ≤ growV l R (r * e)) (untilV l R r n) := by
  unfold untilV
  by_cases h1 : n ≤ l
  · rw [if_pos h1]
    exact Waits.zero fun e he => Int.le_trans h1 (grow_ge (Int.mul_nonneg hr he))
  · rw [if_neg h1]
    by_cases h2 : R < n ∨ r = 0
    · rw [if_pos h2]
      refine Waits.never fun e he => ?_
      rw [grow_meets (by omega)]
      rcases h2 with h2 | h2
      · omega
      · subst h2
        rw [Int.zero_mul]
        omega
    · rw [if_neg h2]
      have hr' : 0 < r := by omega
      refine ⟨fun h => (by cases h), fun _ e he => ?_, ?_⟩
      · dsimp only
        rw [grow_meets (by omega)]
        have := ceil_le (m := n - l) (e := e) hr'
        omega
      · have := div_nonneg' (a := n - l - 1) (by omega) hr
        dsimp only
        omega
def secondV (s0 s1 R1 R2 r n : Int) : Int × Bool := if n ≤ s1 then (0, false) else if R2 < n ∨ r = 0 then (0, true) else ((R1 - min R1 s0 + n - s1 - 1) / r + 1, false)
theorem two_ge {l R s : Int} (hs : 0 ≤ s) : l ≤ twoV l R s := by
  unfold twoV
  rw [Int.min_def s, Int.min_def l R]
  split <;> split <;> omega
theorem two_meets {l R s n : Int} (h : l < n) : n ≤ twoV l R s ↔ n ≤ R ∧ n - l ≤ s := by
  unfold twoV
  rw [Int.min_def s, Int.min_def l R]
  split <;> split <;> omega
theorem spill_nonneg {l R g : Int} : 0 ≤ spillV l R g := by
  unfold spillV putV
  rw [Int.min_def g]
  split <;> omega
theorem spill_meets {l R g m : Int} (hm : 0 < m) : m ≤ spillV l R g ↔ R - min R l + m ≤ g := by
  unfold spillV putV
  rw [Int.min_def g, Int.min_def l R, Int.min_def R l]
  split <;> split <;> split <;> omega
theorem second_waits {s0 s1 R1 R2 r n : Int} (hr : 0 ≤ r) : Waits (fun e => n ≤ twoV s1 R2 (spillV s0 R1 (r * e))) (secondV s0 s1 R1 R2 r n) := by
  unfold secondV
  by_cases h1 : n ≤ s1
  · rw [if_pos h1]
    exact Waits.zero fun e he => Int.le_trans h1 (two_ge spill_nonneg)
  · rw [if_neg h1]
    have hroom : 0 ≤ R1 - min R1 s0 := by rw [Int.min_def]; split <;> omega
    by_cases h2 : R2 < n ∨ r = 0
    · rw [if_pos h2]
      refine Waits.never fun e he => ?_
      rw [two_meets (by omega), spill_meets (by omega)]
      rcases h2 with h2 | h2
      · omega
      · subst h2
        rw [Int.zero_mul]
        omega
    · rw [if_neg h2]
      have hr' : 0 < r := by omega
      refine ⟨fun h => (by cases h), fun _ e he => ?_, ?_⟩
      · dsimp only
        rw [two_meets (by omega), spill_meets (by omega)]
        have := ceil_le (m := R1 - min R1 s0 + n - s1) (e := e) hr'
        omega
      · have := div_nonneg' (a := R1 - min R1 s0 + n - s1 - 1) (by omega) hr
        dsimp only
        omega

/-- The time behind a wait. -/
def whenV (s2 : Int) (s3 : Bool) (q : Int × Bool) : Int × Bool :=
  if s3 = true then (if q.2 = true ∨ 18446744073709551616 ≤ s2 + q.1 then (0, false) else (s2 + q.1, true)) else if q.2 = true ∨ q.1 ≠ 0 then (0, false) else (0, true)
/-- What is so at a time: by how long it is behind the last one. -/
theorem when_some {s2 : Int} {s3 : Bool} {P : Int → Prop} {q : Int × Bool} {T : Int} (hs : U s2) (hw : Waits P q) (h : whenV s2 s3 q = (T, true)) : (if s3 = true then s2 else 0) ≤ T ∧ U T ∧ ∀ t, U t → (if s3 = true then s2 else 0) ≤ t → (P (dtV s2 s3 t) ↔ T ≤ t) := by
  obtain ⟨q1, q2⟩ := q
  obtain ⟨p1, p2, p3⟩ := hw
  dsimp only at p1 p2 p3
  unfold whenV at h
  cases s3 with
  | true =>
    simp only [if_true] at h
    by_cases hc : q2 = true ∨ 18446744073709551616 ≤ s2 + q1
    · rw [if_pos hc] at h
      simp at h
    · rw [if_neg hc] at h
      simp only [Prod.mk.injEq, and_true] at h
      subst h
      have hq : q2 = false := by
        cases q2 with
        | true => exact absurd (.inl rfl) hc
        | false => rfl
      unfold U at *
      simp only [if_true]
      refine ⟨by omega, by omega, fun t ht hlt => ?_⟩
      have hd : dtV s2 true t = t - s2 := by
        unfold dtV
        by_cases h2 : s2 < t
        · rw [if_pos ⟨rfl, h2⟩]
        · rw [if_neg (fun h => h2 h.2)]
          omega
      rw [hd, p2 hq _ (by omega)]
      omega
  | false =>
    simp only [Bool.false_eq_true, if_false] at h
    by_cases hc : q2 = true ∨ q1 ≠ 0
    · rw [if_pos hc] at h
      simp at h
    · rw [if_neg hc] at h
      simp only [Prod.mk.injEq, and_true] at h
      subst h
      have hq : q2 = false := by
        cases q2 with
        | true => exact absurd (.inl rfl) hc
        | false => rfl
      have hq1 : q1 = 0 := by omega
      simp only [Bool.false_eq_true, if_false]
      refine ⟨Int.le_refl _, U_zero, fun t ht _ => ?_⟩
      have hd : dtV s2 false t = 0 := by unfold dtV; rw [if_neg (by simp)]
      rw [hd, p2 hq _ (Int.le_refl _)]
      unfold U at ht
      omega
/-- How long a packet waits for a colour. -/
def waitV (k s0 s1 R1 R2 r p n want : Int) : Int × Bool :=
  if want = 2 then (0, false)
  else if k = 2 then (if want = 0 then andW (untilV s0 R1 r n) (untilV s1 R2 p n) else untilV s1 R2 p n)
  else if want = 0 then untilV s0 R1 r n else orW (untilV s0 R1 r n) (secondV s0 s1 R1 R2 r n)
/-- .. where its size may be, or never. -/
def askV (k s0 s1 R1 R2 r p size want : Int) : Int × Bool := if okV size = false ∧ want ≠ 2 then (0, true) else waitV k s0 s1 R1 R2 r p (needV size) want
/-- The colour of a packet that was not painted, so long behind the last one. -/
def colE (k s0 s1 R1 R2 r p size e : Int) : Int :=
  if k = 2 then (paintD 0 (growV s0 R1 (r * e)) (growV s1 R2 (p * e)) size).2.2 else (paintS 0 (growV s0 R1 (r * e)) (twoV s1 R2 (spillV s0 R1 (r * e))) size).2.2
theorem can_iff {l s : Int} (h : okV s = true) : canV l s = true ↔ needV s ≤ l := by unfold canV; rw [h]; simp
theorem paintD_le {one two s want : Int} (h0 : 0 ≤ want) (h2 : want ≤ 2) : (paintD 0 one two s).2.2 ≤ want ↔ want = 2 ∨ canV two s = true ∧ (want = 1 ∨ canV one s = true) := by
  unfold paintD
  rcases Bool.eq_false_or_eq_true (canV two s) with e | e <;> rcases Bool.eq_false_or_eq_true (canV one s) with f | f <;> simp [e, f] <;> omega
theorem paintS_le {one two s want : Int} (h0 : 0 ≤ want) (h2 : want ≤ 2) : (paintS 0 one two s).2.2 ≤ want ↔ want = 2 ∨ canV one s = true ∨ want = 1 ∧ canV two s = true := by
  unfold paintS
  rcases Bool.eq_false_or_eq_true (canV two s) with e | e <;> rcases Bool.eq_false_or_eq_true (canV one s) with f | f <;> simp [e, f] <;> omega
theorem can_no' {l s : Int} (h : okV s = false) : canV l s = false := by unfold canV; rw [h]; rfl
theorem ask_waits {k s0 s1 R1 R2 r p size want : Int} (hr : 0 ≤ r) (hp : 0 ≤ p) (h0 : 0 ≤ want) (h2 : want ≤ 2) : Waits (fun e => colE k s0 s1 R1 R2 r p size e ≤ want) (askV k s0 s1 R1 R2 r p size want) := by
  unfold askV
  by_cases hn : okV size = false ∧ want ≠ 2
  · rw [if_pos hn]
    refine Waits.never fun e he => ?_
    unfold colE
    split
    · rw [paintD_le h0 h2, can_no' hn.1]
      simp only [Bool.false_eq_true, false_and, or_false]
      exact hn.2
    · rw [paintS_le h0 h2, can_no' hn.1, can_no' hn.1]
      simp only [Bool.false_eq_true, and_false, or_false]
      exact hn.2
  · rw [if_neg hn]
    unfold waitV
    by_cases hw2 : want = 2
    · rw [if_pos hw2]
      refine Waits.zero fun e he => ?_
      unfold colE
      split
      · rw [paintD_le h0 h2]; exact .inl hw2
      · rw [paintS_le h0 h2]; exact .inl hw2
    · rw [if_neg hw2]
      have hok : okV size = true := by
        rcases Bool.eq_false_or_eq_true (okV size) with e | e
        · exact e
        · exact absurd ⟨e, hw2⟩ hn
      by_cases hk : k = 2
      · rw [if_pos hk]
        by_cases hw0 : want = 0
        · rw [if_pos hw0]
          refine (Waits.and (until_waits (l := s0) (R := R1) (n := needV size) hr) (until_waits (l := s1) (R := R2) (n := needV size) hp)).congr fun e he => ?_
          unfold colE
          rw [if_pos hk, paintD_le h0 h2, can_iff hok, can_iff hok]
          constructor
          · rintro (h | ⟨h, h3 | h3⟩)
            · omega
            · omega
            · exact ⟨h3, h⟩
          · rintro ⟨h, h3⟩
            exact .inr ⟨h3, .inr h⟩
        · rw [if_neg hw0]
          refine (until_waits (l := s1) (R := R2) (n := needV size) hp).congr fun e he => ?_
          unfold colE
          rw [if_pos hk, paintD_le h0 h2, can_iff hok, can_iff hok]
          have hw1 : want = 1 := by omega
          constructor
          · rintro (h | ⟨h, _⟩)
            · omega
            · exact h
          · intro h
            exact .inr ⟨h, .inl hw1⟩
      · rw [if_neg hk]
        by_cases hw0 : want = 0
        · rw [if_pos hw0]
          refine (until_waits (l := s0) (R := R1) (n := needV size) hr).congr fun e he => ?_
          unfold colE
          rw [if_neg hk, paintS_le h0 h2, can_iff hok, can_iff hok]
          constructor
          · rintro (h | h | ⟨h, _⟩)
            · omega
            · exact h
            · omega
          · intro h
            exact .inr (.inl h)
        · rw [if_neg hw0]
          refine (Waits.or (until_waits (l := s0) (R := R1) (n := needV size) hr) (second_waits (s0 := s0) (s1 := s1) (R1 := R1) (R2 := R2) (n := needV size) hr)).congr fun e he => ?_
          unfold colE
          rw [if_neg hk, paintS_le h0 h2, can_iff hok, can_iff hok]
          have hw1 : want = 1 := by omega
          constructor
          · rintro (h | h | ⟨_, h⟩)
            · omega
            · exact .inl h
            · exact .inr h
          · rintro (h | h)
            · exact .inr (.inl h)
            · exact .inr (.inr ⟨hw1, h⟩)
/-- How long until both buckets are full. -/
def fullW (k s0 s1 R1 R2 r p : Int) : Int × Bool := andW (untilV s0 R1 r R1) (if k = 2 then untilV s1 R2 p R2 else secondV s0 s1 R1 R2 r R2)
end Go.Proofs.Ytiaoaoebghnpkaa.P
