/- Part of the proof. -/
import Derived.Test.YtiaoaoebghnpkaaKP46
import Derived.Test.YtiaoaoebghnpkaaKP10
import Derived.Test.YtiaoaoebghnpkaaKP11
import Derived.Test.YtiaoaoebghnpkaaKP33
import Derived.Test.YtiaoaoebghnpkaaKP34
/- What outlook's functions, and the document's answers for them, come to. -/
namespace Go.Proofs.Ytiaoaoebghnpkaa.P
open Go.RowKit Go.Proofs.YtiaoaoebghnpkaaW.PrintWords Go.Proofs.YtiaoaoebghnpkaaW.PrintLast Go.Proofs.YtiaoaoebghnpkaaW.PrintMore

theorem mx_eq (a b : Int) : mx a b = max a b := by unfold mx; rw [Int.max_def]; split <;> split <;> omega
theorem mn_eq (a b : Int) : mn a b = min a b := by unfold mn; rw [Int.min_def]; split <;> split <;> omega
theorem div_le' {a r : Int} (ha : 0 ≤ a) (hr : 0 < r) : 0 ≤ a / r ∧ a / r ≤ a := ⟨Int.ediv_nonneg ha (by omega), Int.ediv_le_self _ ha⟩
theorem until_U {l R r n : Int} (hl : U l) (hr : U r) (hn : U n) : U (untilV l R r n).1 := by
  unfold untilV
  split
  · exact U_zero
  · split
    · exact U_zero
    · have := div_le' (a := n - l - 1) (r := r) (by omega) (by unfold U at hr; omega)
      unfold U at *
      dsimp only
      omega
theorem until_eq {l R r n : Int} (hl : U l) (hr : U r) (hn : U n) : outlook_until.f l R r n = some ((untilV l R r n).1, (untilV l R r n).2) := by
  unfold outlook_until.f untilV
  by_cases h1 : n ≤ l
  · rw [if_pos h1, if_pos h1]
  · rw [if_neg h1, if_neg h1]
    by_cases h2 : R < n
    · rw [if_pos (show n > R from h2), if_pos (.inl h2)]
    · rw [if_neg (show ¬ n > R from h2)]
      by_cases h3 : r = 0
      · rw [if_pos h3, if_pos (.inr h3)]
      · rw [if_neg h3, if_neg (by omega)]
        have hd := div_le' (a := n - l - 1) (r := r) (by omega) (by unfold U at hr; omega)
        have e1 : IntKind.u64.wrap (n - l) = n - l := wrap_in (by unfold U at *; omega)
        have e2 : IntKind.u64.wrap (n - l - 1) = n - l - 1 := wrap_in (by unfold U at *; omega)
        rw [e1, e2, Int.tdiv_eq_ediv_of_nonneg (by omega)]
        have e3 : IntKind.u64.wrap ((n - l - 1) / r) = (n - l - 1) / r := wrap_in (by unfold U at *; omega)
        rw [e3]
        have e4 : IntKind.u64.wrap ((n - l - 1) / r + 1) = (n - l - 1) / r + 1 := wrap_in (by unfold U at *; omega)
        rw [e4]
theorem second_U {s0 s1 R1 R2 r n : Int} (h0 : U s0) (h1 : U s1) (hR1 : 0 ≤ R1 ∧ R1 ≤ 4294967296000000000) (hR2 : R2 ≤ 4294967296000000000) (hr : U r) : U (secondV s0 s1 R1 R2 r n).1 := by
  unfold secondV
  split
  · exact U_zero
  · split
    · exact U_zero
    · have hm : 0 ≤ R1 - min R1 s0 ∧ R1 - min R1 s0 ≤ R1 := by unfold U at h0; rw [Int.min_def]; split <;> omega
      have := div_le' (a := R1 - min R1 s0 + n - s1 - 1) (r := r) (by omega) (by unfold U at hr; omega)
      unfold U at *
      dsimp only
      omega
theorem rims_eq (k : Int) (a : Bool) (r p b x : Int) (hb : U b) (hx : U x) (kb : b ≤ 4294967296) (kx : x ≤ 4294967296) : outlook_rims.f k a r p b x = some (b * 1000000000, x * 1000000000) := by
  unfold outlook_rims.f bucket_Full.f
  rw [if_pos hb, if_pos hx, (nano_in hb kb).2.2, (nano_in hx kx).2.2]
  rfl
theorem second_eq (k : Int) (a : Bool) (r p b x s0 s1 s2 : Int) (s3 : Bool) (n : Int) (hb : U b) (hx : U x) (kb : b ≤ 4294967296) (kx : x ≤ 4294967296) (h0 : U s0) (h1 : U s1) (hr : U r) :
    outlook_second.f k a r p b x s0 s1 s2 s3 n = some ((secondV s0 s1 (b * 1000000000) (x * 1000000000) r n).1, (secondV s0 s1 (b * 1000000000) (x * 1000000000) r n).2) := by
  unfold outlook_second.f secondV
  rw [rims_eq k a r p b x hb hx kb kx]
  simp only [Option.bind_some]
  obtain ⟨R1, hR1⟩ : ∃ R1, R1 = b * 1000000000 := ⟨_, rfl⟩
  obtain ⟨R2, hR2⟩ : ∃ R2, R2 = x * 1000000000 := ⟨_, rfl⟩
  rw [← hR1, ← hR2]
  by_cases g1 : n ≤ s1
  · rw [if_pos g1, if_pos g1]
  · rw [if_neg g1, if_neg g1]
    by_cases g2 : R2 < n
    · rw [if_pos (show n > R2 from g2), if_pos (.inl g2)]
    · rw [if_neg (show ¬ n > R2 from g2)]
      by_cases g3 : r = 0
      · rw [if_pos g3, if_pos (.inr g3)]
      · rw [if_neg g3, if_neg (by omega), mn_eq]
        have hm : 0 ≤ R1 - min R1 s0 ∧ R1 - min R1 s0 ≤ R1 := by unfold U at h0 hb; rw [Int.min_def]; split <;> omega
        have hd := div_le' (a := R1 - min R1 s0 + n - s1 - 1) (r := r) (by omega) (by unfold U at hr; omega)
        generalize R1 - min R1 s0 = room at *
        unfold U at hb hx h0 h1 hr
        have e1 : IntKind.u64.wrap room = room := wrap_in (by unfold U; omega)
        rw [e1]
        have e2 : IntKind.u64.wrap (room + n) = room + n := wrap_in (by unfold U; omega)
        rw [e2]
        have e3 : IntKind.u64.wrap (room + n - s1) = room + n - s1 := wrap_in (by unfold U; omega)
        rw [e3]
        have e4 : IntKind.u64.wrap (room + n - s1 - 1) = room + n - s1 - 1 := wrap_in (by unfold U; omega)
        rw [e4, Int.tdiv_eq_ediv_of_nonneg (by omega)]
        have e5 : IntKind.u64.wrap ((room + n - s1 - 1) / r) = (room + n - s1 - 1) / r := wrap_in (by unfold U; omega)
        rw [e5]
        have e6 : IntKind.u64.wrap ((room + n - s1 - 1) / r + 1) = (room + n - s1 - 1) / r + 1 := wrap_in (by unfold U; omega)
        rw [e6]
/-- How long each of both buckets waits. -/
def otherW (k s0 s1 R1 R2 r p n : Int) : Int × Bool := if k = 2 then untilV s1 R2 p n else secondV s0 s1 R1 R2 r n
theorem buckets_eq (k : Int) (a : Bool) (r p b x s0 s1 s2 : Int) (s3 : Bool) (n m : Int) (hb : U b) (hx : U x) (kb : b ≤ 4294967296) (kx : x ≤ 4294967296) (h0 : U s0) (h1 : U s1) (hr : U r) (hp : U p) (hn : U n) (hm : U m) :
    outlook_buckets.f k a r p b x s0 s1 s2 s3 n m = some ((untilV s0 (b * 1000000000) r n).1, (untilV s0 (b * 1000000000) r n).2, (otherW k s0 s1 (b * 1000000000) (x * 1000000000) r p m).1, (otherW k s0 s1 (b * 1000000000) (x * 1000000000) r p m).2) := by
  unfold outlook_buckets.f otherW
  rw [rims_eq k a r p b x hb hx kb kx]
  simp only [Option.bind_some]
  rw [until_eq h0 hr hn]
  simp only [Option.bind_some]
  by_cases hk : k = 2
  · rw [if_pos hk, if_pos hk, until_eq h1 hp hm]
    rfl
  · rw [if_neg hk, if_neg hk, second_eq k a r p b x s0 s1 s2 s3 m hb hx kb kx h0 h1 hr]
    rfl
theorem later_and (a1 : Int) (a2 : Bool) (b1 : Int) (b2 : Bool) : outlook_span_later.f a1 a2 b1 b2 = some ((andW (a1, a2) (b1, b2)).1, (andW (a1, a2) (b1, b2)).2) := by
  unfold outlook_span_later.f andW
  rw [mx_eq]
  cases a2 <;> simp
theorem sooner_or (a1 : Int) (a2 : Bool) (b1 : Int) (b2 : Bool) : outlook_span_sooner.f a1 a2 b1 b2 = some ((orW (a1, a2) (b1, b2)).1, (orW (a1, a2) (b1, b2)).2) := by
  unfold outlook_span_sooner.f orW
  rw [mn_eq]
  cases a2 <;> cases b2 <;> simp
theorem and_U {a b : Int × Bool} (ha : U a.1) (hb : U b.1) : U (andW a b).1 := by unfold andW; dsimp only; rw [Int.max_def]; split <;> assumption
theorem or_U {a b : Int × Bool} (ha : U a.1) (hb : U b.1) : U (orW a b).1 := by
  unfold orW
  split
  · exact hb
  · split
    · exact ha
    · dsimp only; rw [Int.min_def]; split <;> assumption
theorem wait_eq (n : Nat) (k : Int) (a : Bool) (r p b x s0 s1 s2 : Int) (s3 : Bool) (need want : Int) (hb : U b) (hx : U x) (kb : b ≤ 4294967296) (kx : x ≤ 4294967296) (h0 : U s0) (h1 : U s1) (hr : U r) (hp : U p) (hn : U need) :
    outlook_wait.f (n + 1) k a r p b x s0 s1 s2 s3 need want = some ((waitV k s0 s1 (b * 1000000000) (x * 1000000000) r p need want).1, (waitV k s0 s1 (b * 1000000000) (x * 1000000000) r p need want).2) := by
  unfold outlook_wait.f waitV
  rw [buckets_eq k a r p b x s0 s1 s2 s3 need need hb hx kb kx h0 h1 hr hp hn hn]
  simp only [Option.bind_some, outlook_wait.j0]
  unfold otherW
  by_cases g1 : want = 2
  · rw [if_pos g1, if_pos g1]
  · rw [if_neg g1, if_neg g1]
    by_cases hk : k = 2
    · simp only [if_pos hk]
      by_cases g0 : want = 0
      · rw [if_pos (by simp [g0]), if_pos g0, later_and]
        rfl
      · rw [if_neg (by simpa using g0), if_neg g0]
    · simp only [if_neg hk]
      rw [if_neg (by simp)]
      by_cases g0 : want = 0
      · rw [if_pos g0, if_pos g0]
      · rw [if_neg g0, if_neg g0, sooner_or]
        rfl
theorem wait_U {k r p b x s0 s1 need want : Int} (hb : U b) (kb : b ≤ 4294967296) (kx : x ≤ 4294967296) (h0 : U s0) (h1 : U s1) (hr : U r) (hp : U p) (hn : U need) : U (waitV k s0 s1 (b * 1000000000) (x * 1000000000) r p need want).1 := by
  have u1 := until_U (R := b * 1000000000) h0 hr hn
  have u2 := until_U (R := x * 1000000000) h1 hp hn
  have u3 := second_U (R1 := b * 1000000000) (R2 := x * 1000000000) (n := need) h0 h1 (by unfold U at hb; omega) (by omega) hr
  unfold waitV
  split
  · exact U_zero
  · split
    · split
      · exact and_U u1 u2
      · exact u2
    · split
      · exact u1
      · exact or_U u1 u3
theorem when_eq {s0 s1 s2 : Int} {s3 : Bool} {q : Int × Bool} (h2 : U s2) (hq : U q.1) : outlook_when.f s0 s1 s2 s3 q.1 q.2 = some ((whenV s2 s3 q).1, (whenV s2 s3 q).2) := by
  obtain ⟨q1, q2⟩ := q
  unfold outlook_when.f whenV
  dsimp only at hq ⊢
  cases s3 with
  | true =>
    simp only [if_true]
    cases q2 with
    | true => simp
    | false =>
      simp only [Bool.false_eq_true, if_false, false_or]
      have e := IntKind.wrap_u64 (s2 + q1)
      unfold U at *
      by_cases h : 18446744073709551616 ≤ s2 + q1
      · rw [if_pos h, if_pos (by omega)]
      · rw [if_neg h, if_neg (by omega)]
        have : IntKind.u64.wrap (s2 + q1) = s2 + q1 := by omega
        rw [this]
  | false =>
    simp only [Bool.false_eq_true, if_false]
    cases q2 with
    | true => simp
    | false =>
      simp only [Bool.false_eq_true, if_false, false_or]
      by_cases h : q1 = 0
      · simp [h]
      · simp [h]
/-- What When answers. -/
def outWhen (k r p b x s0 s1 s2 : Int) (s3 : Bool) (size want : Int) : Int × Bool :=
  if chkM k r p b x ≠ 0 ∨ size < 0 ∨ want < 0 ∨ 2 < want then (0, false) else whenV s2 s3 (askV k s0 s1 (b * 1000000000) (x * 1000000000) r p size want)
theorem chkM_ok {k r p b x : Int} (h : chkM k r p b x = 0) : b ≤ 4294967296 ∧ x ≤ 4294967296 := by
  unfold chkM at h
  split at h
  · exact chkD_ok h
  · obtain ⟨_, _, _, h1, h2⟩ := chkS_ok h
    exact ⟨h1, h2⟩
theorem is_eq (c : Int) : outlook_is.f c = some (decide (0 ≤ c ∧ c ≤ 2)) := by
  unfold outlook_is.f
  by_cases h : c ≥ 0
  · rw [if_pos h]; simp; omega
  · rw [if_neg h]; simp; omega
theorem outWhen_eq (n : Nat) (k : Int) (a : Bool) (r p b x s0 s1 s2 : Int) (s3 : Bool) (size want : Int) (hb : U b) (hx : U x) (h0 : U s0) (h1 : U s1) (h2 : U s2) (hr : U r) (hp : U p) (hs : I64 size) :
    outlook_When.f (n + 3) k a r p b x s0 s1 s2 s3 size want = some ((outWhen k r p b x s0 s1 s2 s3 size want).1, (outWhen k r p b x s0 s1 s2 s3 size want).2) := by
  unfold outlook_When.f outWhen
  rw [mcheck_eq k a r p b x hb hx]
  simp only [Option.bind_some, outlook_When.j0, outlook_When.j1]
  by_cases hc : chkM k r p b x = 0
  · obtain ⟨kb, kx⟩ := chkM_ok hc
    rw [if_pos hc]
    by_cases g1 : size < 0
    · rw [if_pos g1, if_pos trivial, if_pos (.inr (.inl g1))]
    · rw [if_neg g1, is_eq]
      simp only [Option.bind_some]
      by_cases g2 : 0 ≤ want ∧ want ≤ 2
      · rw [if_neg (by simp [g2]), if_neg (show ¬ (chkM k r p b x ≠ 0 ∨ size < 0 ∨ want < 0 ∨ 2 < want) by omega)]
        unfold bucket_Need.f
        rw [if_pos hs]
        simp only [Option.bind_some]
        have hfin : ((outlook_wait.f (n + 1) k a r p b x s0 s1 s2 s3 (needV size) want).bind fun bt107 => (outlook_when.f s0 s1 s2 s3 bt107.1 bt107.2).bind fun bt109 => some (bt109.1, bt109.2)) =
            some ((whenV s2 s3 (waitV k s0 s1 (b * 1000000000) (x * 1000000000) r p (needV size) want)).1, (whenV s2 s3 (waitV k s0 s1 (b * 1000000000) (x * 1000000000) r p (needV size) want)).2) := by
          rw [wait_eq n k a r p b x s0 s1 s2 s3 (needV size) want hb hx kb kx h0 h1 hr hp (U_need size)]
          simp only [Option.bind_some]
          rw [when_eq h2 (wait_U hb kb kx h0 h1 hr hp (U_need size))]
          rfl
        unfold askV
        rcases Bool.eq_false_or_eq_true (okV size) with e | e
        · rw [if_pos e, if_neg (by simp), if_neg (by simp [e])]
          exact hfin
        · rw [if_neg (by simp [e])]
          by_cases g3 : want = 2
          · rw [if_neg (by simp [g3]), if_neg (by simp [g3])]
            exact hfin
          · rw [if_pos (by simpa using g3), if_pos ⟨e, g3⟩]
            unfold whenV
            cases s3 <;> simp
      · rw [if_pos (by simp; omega), if_pos (show chkM k r p b x ≠ 0 ∨ size < 0 ∨ want < 0 ∨ 2 < want by omega)]
  · rw [if_neg hc, if_pos trivial, if_pos (.inl hc)]
/-- What Idle answers. -/
def outIdle (k r p b x s0 s1 s2 : Int) (s3 : Bool) : Int × Bool :=
  if chkM k r p b x ≠ 0 then (0, false) else whenV s2 s3 (fullW k s0 s1 (b * 1000000000) (x * 1000000000) r p)
theorem outIdle_eq (k : Int) (a : Bool) (r p b x s0 s1 s2 : Int) (s3 : Bool) (hb : U b) (hx : U x) (h0 : U s0) (h1 : U s1) (h2 : U s2) (hr : U r) (hp : U p) :
    outlook_Idle.f k a r p b x s0 s1 s2 s3 = some ((outIdle k r p b x s0 s1 s2 s3).1, (outIdle k r p b x s0 s1 s2 s3).2) := by
  unfold outlook_Idle.f outIdle
  rw [mcheck_eq k a r p b x hb hx]
  simp only [Option.bind_some]
  by_cases hc : chkM k r p b x = 0
  · obtain ⟨kb, kx⟩ := chkM_ok hc
    rw [if_pos hc, if_neg (fun h => h hc), rims_eq k a r p b x hb hx kb kx]
    simp only [Option.bind_some]
    have ub := (nano_in hb kb).2.1
    have ux := (nano_in hx kx).2.1
    rw [buckets_eq k a r p b x s0 s1 s2 s3 _ _ hb hx kb kx h0 h1 hr hp ub ux]
    simp only [Option.bind_some]
    rw [later_and]
    simp only [Option.bind_some]
    have u1 := until_U (R := b * 1000000000) h0 hr ub
    have u2 : U (otherW k s0 s1 (b * 1000000000) (x * 1000000000) r p (x * 1000000000)).1 := by
      unfold otherW
      split
      · exact until_U h1 hp ux
      · exact second_U h0 h1 (by unfold U at hb; omega) (by omega) hr
    rw [when_eq h2 (and_U u1 u2)]
    rfl
  · rw [if_neg hc, if_pos hc]

/-! ### The document's search -/
/-- A packet that was not painted: its colour, and what a packet of no bytes leaves. -/
theorem stepM_colE {k : Int} {a : Bool} {r p b x s0 s1 s2 : Int} {s3 : Bool} {t size : Int} (hc : chkM k r p b x = 0) (hs : 0 ≤ size) : (stepM k a r p b x s0 s1 s2 s3 t size 0).2.2.2.2 = colE k s0 s1 (b * 1000000000) (x * 1000000000) r p size (dtV s2 s3 t) := by
  have c0 : colV a 0 = 0 := by unfold colV; split <;> simp
  unfold stepM colE
  rw [if_neg (by omega)]
  split
  · unfold stepD
    simp only []
    rw [c0]
  · unfold stepS
    simp only []
    rw [c0]
end Go.Proofs.Ytiaoaoebghnpkaa.P
