/- Part of the proof. -/
import Derived.Test.YtiaoaoebghnpkaaKB50
import Derived.Test.YtiaoaoebghnpkaaKB46
import Derived.Test.YtiaoaoebghnpkaaKB47
import Derived.Test.YtiaoaoebghnpkaaKB49
import Derived.Test.YtiaoaoebghnpkaaKB22
import Derived.Test.YtiaoaoebghnpkaaRows
/- The law CurveKeeps answers true, whatever the input. Condition: none. -/
namespace Go.Proofs.Ytiaoaoebghnpkaa.P.Cv
open Go.RowKit Go.Proofs.YtiaoaoebghnpkaaW.PrintWords Go.Proofs.YtiaoaoebghnpkaaW.PrintLast Go.Proofs.YtiaoaoebghnpkaaW.PrintMore
theorem fjW_none {most rate : Int} {l : List S68} : ∀ d i, i + d = l.length → (∀ j, i ≤ j → j < l.length → ¬ most < wq rate (pairS l) (j + 1)) → fjW most rate l d i = (0, 0, 0, 0)
  | 0, _, _, _ => rfl
  | d + 1, i, hi, h => by
    unfold fjW
    rw [if_neg (h i (Nat.le_refl _) (by omega))]
    exact fjW_none d (i + 1) (by omega) fun j h1 h2 => h j (by omega) h2
theorem fjW_some {most rate : Int} {l : List S68} : ∀ d i, i + d = l.length → (∃ j, i ≤ j ∧ j < l.length ∧ most < wq rate (pairS l) (j + 1)) → (fjW most rate l d i).2.2.1 = 17
  | 0, i, hi, ⟨j, h1, h2, _⟩ => absurd h2 (by omega)
  | d + 1, i, hi, ⟨j, h1, h2, h3⟩ => by
    unfold fjW
    by_cases hc : most < wq rate (pairS l) (i + 1)
    · rw [if_pos hc]
    · rw [if_neg hc]
      refine fjW_some d (i + 1) (by omega) ⟨j, ?_, h2, h3⟩
      rcases Nat.eq_or_lt_of_le h1 with h | h
      · exact absurd (h ▸ h3) hc
      · exact h
theorem mW_top {rate : Int} {l : List S68} : ∀ k, mW rate l k = 0 ∨ ∃ j, j < k ∧ mW rate l k = wq rate (pairS l) (j + 1)
  | 0 => .inl rfl
  | k + 1 => by
    unfold mW
    split
    · exact .inr ⟨k, by omega, rfl⟩
    · rcases mW_top (rate := rate) (l := l) k with h | ⟨j, h1, h2⟩
      · exact .inl h
      · exact .inr ⟨j, by omega, h2⟩
theorem wq_next (rate : Int) (l : List S68) (k : Nat) : wq rate (pairS l) (k + 1) = lessV (wq rate (pairS l) k) (rate * dtt (tims (pairS l)) k) + (l.getD k z68).f1 * 1000000000 := by
  show _ + ((pairS l).getD k (0, 0)).2 * 1000000000 = _
  rw [pairS_get]
theorem wq_anti {lo hi : Int} {l : List S68} (h : lo ≤ hi) (hU : ∀ x ∈ l, U x.f0) : ∀ k, wq hi (pairS l) k ≤ wq lo (pairS l) k
  | 0 => Int.le_refl _
  | k + 1 => by
    have h1 := wq_anti h hU k
    have h2 : lo * dtt (tims (pairS l)) k ≤ hi * dtt (tims (pairS l)) k := Int.mul_le_mul_of_nonneg_right h (U_dtt (tims_U hU) k).1
    rw [wq_next, wq_next]
    unfold lessV
    split <;> split <;> omega
theorem mW_anti {lo hi : Int} {l : List S68} (h : lo ≤ hi) (hU : ∀ x ∈ l, U x.f0) : ∀ k, mW hi l k ≤ mW lo l k
  | 0 => Int.le_refl _
  | k + 1 => by
    have h1 := mW_anti h hU k
    have h2 := wq_anti h hU (k + 1)
    unfold mW
    split <;> split <;> omega
theorem ceil_mono {m m' : Int} (h : m ≤ m') : ceilN m ≤ ceilN m' := by
  unfold ceilN
  split <;> split <;> omega
theorem ceil_less {m : Int} : (ceilN m - 1) * 1000000000 < m := by
  unfold ceilN
  split <;> omega
theorem ceil_top {m : Int} : m ≤ ceilN m * 1000000000 := by unfold ceilN; split <;> omega
theorem mW_up {rate : Int} {l : List S68} : ∀ k j, j < k → wq rate (pairS l) (j + 1) ≤ mW rate l k
  | 0, j, h => absurd h (by omega)
  | k + 1, j, h => by
    unfold mW
    rcases Nat.lt_or_ge j k with h' | h'
    · have := mW_up (rate := rate) (l := l) k j h'
      split <;> omega
    · obtain rfl : j = k := by omega
      split <;> omega

/-- A packet that what is left lets go is green. -/
theorem green_step {r b s0 s2 t size pre : Int} {s3 : Bool} (hc : chkM 1 r 0 b 0 = 0) (hr : U r) (h2 : U s2) (ht : U t) (hs : 0 ≤ size) (hl : s0 ≤ b * 1000000000) (hk : b ≤ 4294967296)
    (hg : size * 1000000000 ≤ b * 1000000000 - lessV (b * 1000000000 - s0) (r * dtV s2 s3 t)) :
    stepM 1 false r 0 b 0 s0 0 s2 s3 t size pre = (b * 1000000000 - lessV (b * 1000000000 - s0) (r * dtV s2 s3 t) - size * 1000000000, 0, nowV s2 s3 t, true, 0) := by
  have hd := V_mul hr (U_dt (seen := s3) h2 ht)
  have hg0 : 0 ≤ r * dtV s2 s3 t := hd.1
  have e1 : growV s0 (b * 1000000000) (r * dtV s2 s3 t) = b * 1000000000 - lessV (b * 1000000000 - s0) (r * dtV s2 s3 t) := by
    unfold growV putV lessV
    rw [Int.min_def s0, if_pos hl, Int.min_def]
    split <;> split <;> omega
  have e2 : twoV 0 (0 * 1000000000) (spillV s0 (b * 1000000000) (r * dtV s2 s3 t)) = 0 := by
    have : 0 ≤ spillV s0 (b * 1000000000) (r * dtV s2 s3 t) := by
      unfold spillV putV
      rw [Int.min_def s0, if_pos hl, Int.min_def]
      split <;> omega
    unfold twoV
    rw [Int.zero_mul, Int.min_def 0 0, if_pos (Int.le_refl _), Int.sub_zero, Int.min_def]
    split <;> omega
  have hl0 : 0 ≤ lessV (b * 1000000000 - s0) (r * dtV s2 s3 t) := by unfold lessV; split <;> omega
  have hok : okV size = true := by
    unfold okV
    rw [decide_eq_true hs, decide_eq_true (show size * 1000000000 < 18446744073709551616 by omega)]
    rfl
  have hn : needV size = size * 1000000000 := by unfold needV; rw [if_pos hok]
  have hcan : canV (b * 1000000000 - lessV (b * 1000000000 - s0) (r * dtV s2 s3 t)) size = true := by
    unfold canV
    rw [hok, hn, decide_eq_true hg]
    rfl
  unfold stepM
  rw [if_neg (by rw [hc]; omega), if_neg (by decide)]
  unfold stepS
  simp only []
  rw [e1, e2, paint_green (show colV false pre = 0 from rfl) hcan]
  unfold takeV
  rw [if_pos hcan, hn]
theorem set_nought {o : List Int} (ho : ∀ j, o.getD j 0 = 0) (i : Nat) : ∀ j, (o.set i 0).getD j 0 = 0 := fun j => by
  have h := ho j
  rw [List.getD_eq_getElem?_getD] at h ⊢
  rw [List.getElem?_set]
  by_cases e : i = j
  · subst e
    rw [if_pos rfl]
    split <;> rfl
  · rw [if_neg e]
    exact h
theorem green_run {r b : Int} {l : List S68} {o : List Int} (hc : chkM 1 r 0 b 0 = 0) (hr : U r) (hb : U b) (hk : b ≤ 4294967296) (hok : okS l) (hU : ∀ x ∈ l, U x.f0) (hl : l.length ≤ 1000) (hol : o.length = l.length) (ho : ∀ j, o.getD j 0 = 0)
    (hw : ∀ j, j < l.length → wq r (pairS l) (j + 1) ≤ b * 1000000000) :
    ∀ k, k ≤ l.length → ∃ out, mrun 1 false r 0 b 0 (pairS l) o (b * 1000000000) 0 0 false k = some ((b * 1000000000 - wq r (pairS l) k, 0, mst (tims (pairS l)) k, decide (0 < k)), out) ∧ out.length = l.length ∧ ∀ j, out.getD j 0 = 0
  | 0, _ => ⟨o, by show some _ = some _; simp [wq, mst], hol, ho⟩
  | k + 1, hk1 => by
    obtain ⟨out, e, h1, h2⟩ := green_run hc hr hb hk hok hU hl hol ho hw k (by omega)
    have hq := wq_bound hok hr.1 hU k (by omega)
    have hq1 := hw k (by omega)
    have hqk : wq r (pairS l) k ≤ b * 1000000000 := by
      rcases Nat.eq_zero_or_pos k with h | h
      · subst h; unfold U at hb; show (0 : Int) ≤ _; omega
      · have := hw (k - 1) (by omega)
        rwa [show k - 1 + 1 = k by omega] at this
    have hs := hok k (by omega)
    have ut : U (l.getD k z68).f0 := by rw [← tims_getD]; exact U_getD (tims_U hU) k
    have um := U_mst (tims_U hU) k
    have hn := wq_next r l k
    have ed : dtt (tims (pairS l)) k = dtV (mst (tims (pairS l)) k) (decide (0 < k)) (l.getD k z68).f0 := by
      unfold dtt
      rw [tims_getD]
    have em : mst (tims (pairS l)) (k + 1) = nowV (mst (tims (pairS l)) k) (decide (0 < k)) (l.getD k z68).f0 := by
      show nowV (mst (tims (pairS l)) k) (decide (0 < k)) ((tims (pairS l)).getD k 0) = _
      rw [tims_getD]
    have ee : b * 1000000000 - (b * 1000000000 - wq r (pairS l) k) = wq r (pairS l) k := by omega
    have hst := green_step (pre := 0) (s0 := b * 1000000000 - wq r (pairS l) k) (s3 := decide (0 < k)) (size := (l.getD k z68).f1) hc hr um ut hs.1 (by omega) hk (by rw [ee, ← ed]; omega)
    rw [ee, ← ed, ← em] at hst
    refine ⟨out.set k 0, ?_, by simpa using h1, set_nought h2 k⟩
    unfold mrun
    rw [e]
    simp only [Option.bind_some]
    rw [pairS_get, h2 k, mstep_eq 1 false r 0 b 0 _ _ _ _ _ _ _ hr U_zero hb U_zero (by unfold U at *; omega) U_zero um ut (by unfold I64; omega), hst]
    simp only [Option.bind_some]
    have e1 : b * 1000000000 - lessV (wq r (pairS l) k) (r * dtt (tims (pairS l)) k) - (l.getD k z68).f1 * 1000000000 = b * 1000000000 - wq r (pairS l) (k + 1) := by rw [hn]; omega
    rw [e1, decide_eq_true (show 0 < k + 1 by omega)]
theorem keeps_l0 {l : List S68} {out : List Int} (ho : ∀ j, out.getD j 0 = 0) (hl : out.length = l.length) (hb : l.length ≤ 1000) : ∀ d i, i + d = out.length → Ev (fun n => weighbridgelaw29_CurveKeeps.l0 n l out (i : Int)) true := by
  intro d
  induction d with
  | zero =>
    intro i hi
    obtain ⟨K, hK⟩ := live29_ev
    refine ⟨K + 1, fun n hn => ?_⟩
    obtain ⟨m, rfl⟩ : ∃ m, n = m + 1 := ⟨n - 1, by omega⟩
    have e := hK m (by omega)
    dsimp only at e
    simp only [weighbridgelaw29_CurveKeeps.l0]
    rw [if_neg (by omega)]
    refine obind e ?_
    rw [if_pos rfl, hl]
    simp
  | succ d ih =>
    intro i hi
    refine Ev.step (f := fun n => weighbridgelaw29_CurveKeeps.l0 n l out ((i + 1 : Nat) : Int)) (fun n => ?_) (ih (i + 1) (by omega))
    simp only [weighbridgelaw29_CurveKeeps.l0]
    rw [if_pos (by omega), if_pos (by omega), rd_nat, ho i, if_pos rfl, w64_up (by omega)]
theorem keeps_ev {l : List S68} {x y : Int} (hx : U x) (hy : U y) (hxs : ∀ p ∈ l, okU p) : Ev (fun n => weighbridgelaw29_CurveKeeps.f n l x y) true := by
  have hU := okU_times hxs
  obtain ⟨K0, h0⟩ := live29_ev
  dsimp only at h0
  by_cases h60 : l.length > 60
  · refine ⟨K0, fun n hn => ?_⟩
    show weighbridgelaw29_CurveKeeps.f n l x y = some true
    unfold weighbridgelaw29_CurveKeeps.f
    rw [if_pos (by omega)]
    exact obind (h0 n hn) rfl
  obtain ⟨lo', hlo⟩ : ∃ z, z = mn x y := ⟨_, rfl⟩
  obtain ⟨hi', hhi⟩ : ∃ z, z = mx x y := ⟨_, rfl⟩
  have ul : U lo' := by rw [hlo]; unfold mn; split <;> assumption
  have uh : U hi' := by rw [hhi]; unfold mx; split <;> assumption
  have hlh : lo' ≤ hi' := by rw [hlo, hhi]; unfold mn mx; split <;> split <;> omega
  have hle : l.length ≤ 1000000 := by omega
  have e1 : curve_Least.f l lo' = some (lstV lo' l) := by unfold curve_Least.f; rw [if_pos ⟨⟨hle, hU⟩, ul⟩]
  have e2 : curve_Least.f l hi' = some (lstV hi' l) := by unfold curve_Least.f; rw [if_pos ⟨⟨hle, hU⟩, uh⟩]
  rcases chk_cases l with hok | ⟨a, ha, hbad⟩
  · have eL : ∀ r, lstV r l = (ceilN (mW r l l.length), 0, 0) := fun r => by
      unfold lstV
      rw [chk_ok hok, if_pos rfl]
    rw [eL] at e1 e2
    have hm := mW_in hok ul.1 hU l.length (Nat.le_refl _)
    have hp := psum_in hok l.length (Nat.le_refl _)
    obtain ⟨b, hb⟩ : ∃ b, b = ceilN (mW lo' l l.length) := ⟨_, rfl⟩
    have hb0 : 0 ≤ b ∧ b ≤ 3934501 := by
      rw [hb]
      unfold ceilN
      split <;> omega
    have ub : U b := by unfold U; omega
    have hge : mW lo' l l.length ≤ b * 1000000000 := by rw [hb]; exact ceil_top
    have hmono : ¬ ceilN (mW hi' l l.length) > b := by
      have := ceil_mono (mW_anti (l := l) hlh hU l.length)
      omega
    have hw : ∀ j, j < l.length → wq lo' (pairS l) (j + 1) ≤ b * 1000000000 := fun j hj => Int.le_trans (mW_up l.length j hj) hge
    have eB : curve_Breaks.f l lo' b = some (0, 0, 0, 0) := by
      unfold curve_Breaks.f
      rw [if_pos ⟨⟨hle, hU⟩, ul, ub⟩]
      unfold brkV
      rw [chk_ok hok, if_pos rfl, ← fjW_eq (by omega) _ _ (by omega), fjW_none _ _ (by omega) (fun j _ h2 => by have := hw j h2; omega)]
    have hdec : decide (ceilN (mW hi' l l.length) > b) = false := decide_eq_false hmono
    rw [← hb] at e1
    -- behind the second test
    have hj1 : Ev (fun n => weighbridgelaw29_CurveKeeps.j1 n l lo' b) true := by
      have hlive : Ev (fun n => weighbridgelaw29_CurveKeeps.j2 n l lo' b true) true := by
        refine ⟨K0 + 1, fun n hn => ?_⟩
        obtain ⟨m, rfl⟩ : ∃ m, n = m + 1 := ⟨n - 1, by omega⟩
        simp only [weighbridgelaw29_CurveKeeps.j2]
        rw [if_pos trivial]
        exact obind (h0 m (by omega)) rfl
      by_cases hz : b = 0
      · refine Ev.step (f := fun n => weighbridgelaw29_CurveKeeps.j2 n l lo' b true) (fun n => ?_) hlive
        simp only [weighbridgelaw29_CurveKeeps.j1]
        rw [if_pos hz]
      · by_cases hr2 : lo' > 1099511627776
        · refine Ev.step (f := fun n => weighbridgelaw29_CurveKeeps.j2 n l lo' b true) (fun n => ?_) hlive
          simp only [weighbridgelaw29_CurveKeeps.j1]
          rw [if_neg hz, decide_eq_true hr2]
        · have hc : chkM 1 lo' 0 b 0 = 0 := by
            rw [chkM_one (by decide)]
            unfold chkS
            rw [if_pos rfl, if_neg (by omega), if_neg (by omega)]
          obtain ⟨out, hrun, hol, hoz⟩ := green_run (o := ovr l.length []) hc ul ub (by omega) hok hU (by omega) (ovr_len _ _) (by
            intro j
            unfold ovr
            simp [List.getD_eq_getElem?_getD, List.getElem?_replicate]
            split <;> rfl) hw l.length (Nat.le_refl _)
          have eR : meter_Run.f 1 false lo' 0 b 0 l ([] : List Int) = some (out, b * 1000000000 - wq lo' (pairS l) l.length, 0, mst (tims (pairS l)) l.length, decide (0 < l.length)) := by
            unfold meter_Run.f
            rw [if_pos (by omega), mnew_eq _ _ _ _ _ _ ub U_zero, hc]
            refine obind rfl ?_
            rw [if_pos (show (newS 0 b 0).2.2.2.2 = 0 from rfl)]
            exact obind hrun rfl
          obtain ⟨K, hK⟩ := keeps_l0 (l := l) hoz hol (by omega) out.length 0 (by omega)
          refine ⟨K + 2, fun n hn => ?_⟩
          obtain ⟨m, rfl⟩ : ∃ m, n = m + 2 := ⟨n - 2, by omega⟩
          have e := hK m (by omega)
          dsimp only at e
          simp only [weighbridgelaw29_CurveKeeps.j1, weighbridgelaw29_CurveKeeps.j2]
          rw [if_neg hz, decide_eq_false hr2, if_neg (by decide)]
          exact obind eR e
    have hj0 : Ev (fun n => weighbridgelaw29_CurveKeeps.j0 n l lo' b false) true := by
      obtain ⟨K, hK⟩ := hj1
      refine ⟨K + 1, fun n hn => ?_⟩
      obtain ⟨m, rfl⟩ : ∃ m, n = m + 1 := ⟨n - 1, by omega⟩
      have e := hK m (by omega)
      dsimp only at e
      simp only [weighbridgelaw29_CurveKeeps.j0]
      rw [if_neg (by decide)]
      by_cases hz : b > 0
      · have ub1 : U (b - 1) := by unfold U; omega
        have eB1 : ∃ r0 r1 r3, curve_Breaks.f l lo' (b - 1) = some (r0, r1, 17, r3) := by
          have hlt : (b - 1) * 1000000000 < mW lo' l l.length := by rw [hb]; exact ceil_less
          have h17 : (brkV lo' (b - 1) l).2.2.1 = 17 := by
            unfold brkV
            rw [chk_ok hok, if_pos rfl, ← fjW_eq (by omega) _ _ (by omega)]
            rcases mW_top (rate := lo') (l := l) l.length with h | ⟨j, h1, h2⟩
            · omega
            · exact fjW_some _ _ (by omega) ⟨j, Nat.zero_le _, h1, by omega⟩
          refine ⟨(brkV lo' (b - 1) l).1, (brkV lo' (b - 1) l).2.1, (brkV lo' (b - 1) l).2.2.2, ?_⟩
          unfold curve_Breaks.f
          rw [if_pos ⟨⟨hle, hU⟩, ul, ub1⟩, ← h17]
        obtain ⟨r0, r1, r3, eB1⟩ := eB1
        rw [if_pos hz, wU ub1]
        refine obind eB1 ?_
        rw [if_pos rfl]
        exact e
      · rw [if_neg hz]
        exact e
    obtain ⟨K, hK⟩ := hj0
    refine ⟨K, fun n hn => ?_⟩
    have e := hK n hn
    dsimp only at e
    show weighbridgelaw29_CurveKeeps.f n l x y = some true
    unfold weighbridgelaw29_CurveKeeps.f
    rw [if_neg (by omega), ← hlo, ← hhi]
    refine obind e1 (obind e2 ?_)
    rw [if_neg (by simp)]
    refine obind eB ?_
    rw [if_neg (by simp)]
    show weighbridgelaw29_CurveKeeps.j0 n l lo' b (decide (ceilN (mW hi' l l.length) > b)) = _
    rw [hdec]
    exact e
  · have eL : ∀ r, lstV r l = (0, 1, (a : Int)) := fun r => by
      unfold lstV
      rw [hbad, if_neg (show ¬ ((1 : Int) = 0) by decide)]
    rw [eL] at e1 e2
    obtain ⟨K, hK⟩ := total_ev (l := l) hle
    have eT : totV l = (0, 1, (a : Int)) := by
      unfold totV
      rw [hbad, if_neg (show ¬ ((1 : Int) = 0) by decide)]
    rw [eT] at hK
    refine ⟨K + K0, fun n hn => ?_⟩
    have e := hK n (by omega)
    dsimp only at e
    show weighbridgelaw29_CurveKeeps.f n l x y = some true
    unfold weighbridgelaw29_CurveKeeps.f
    rw [if_neg (by omega), ← hlo, ← hhi]
    refine obind e1 (obind e2 ?_)
    rw [if_pos (by simp)]
    refine obind e (obind (h0 n (by omega)) ?_)
    rw [if_pos rfl, if_pos rfl, if_pos (by simp)]
    rfl
end Go.Proofs.Ytiaoaoebghnpkaa.P.Cv
namespace Go.Proofs.Ytiaoaoebghnpkaa
open Go.ChangeShapes Go.WideShapes Go.ChangeAt Go.RowKit
theorem ckeeps_at (A : Option Addr) (n cap : Nat) (x y : Int) (w : World) (hx : U x) (hy : U y) (hle : n ≤ cap) (hmax : cap ≤ maxLen)
    (hL : ∀ k, k < n → ∃ (b off : Nat) (cs : List Value), A = some ⟨b, off, none⟩ ∧ b < w.heap.size ∧ cellsOk [some .u64, some .i64] cs ∧ ∀ i, i < 2 → w.cell? ⟨b, off + k * 2 + i, none⟩ = cs[i]?) :
    Calls Try.prog 9 #[.slice A n cap, .agg #[.int .u64 x, .int .u64 y]] w fun e w' => e = .returned (.bool true) ∧ Below w.heap.size w w' := by
  obtain ⟨xs, rfl, hok, hC⟩ := P.Cv.samp_list (Nat.le_trans hle hmax) hL
  obtain ⟨K, hK⟩ := P.Cv.keeps_ev hx hy hok
  exact P.weighbridgelaw29_CurveKeeps.calls K A cap xs x y true w hC hle (hK K (Nat.le_refl _))
set_option maxRecDepth 100000 in
set_option maxHeartbeats 1000000 in
theorem ckeeps_lifted (os : Os) (started : os.Started) (H : Type) (enc : TypeId × Value → H) :
    ReturnsInHanded {} Try.checked os 9 .any (Rows.curveKeepsSpec.pre6 enc Try.prog Try.f9 Rows.curveKeepsRow.domain false) (Rows.curveKeepsSpec.post enc Try.prog Try.f9 false true false false) := by
  refine returnsInHanded_of_change_sized (C := Try.checked) Try.own started (by kernel_rfl) Try.func9
    (ChangeSpec.witness6 (enc := enc) (C := Try.checked) false ⟨#[], #[.slice none 0 0, .agg #[.int .u64 0, .int .u64 0]], []⟩ 8 (by kernel_rfl) (by kernel_rfl) (by kernel_rfl) (by kernel_rfl)) ?_
  intro W base args ds gs before hval0 hW hcnd hsz0 _
  have hsz : (DataW.weightsEach Try.prog (Try.f9.params.toList ++ Rows.curveKeepsSpec.plain.varTypes Try.prog) (ds ++ gs)).all (· ≤ reachBytes) = true := hsz0
  have hval : ∀ (j : Nat) t v, Try.f9.params[j]? = some t → args[j]? = some v → Value.okWide Try.prog W .any base t v := hval0
  have hW' := hW
  obtain ⟨p, q, hA0, hV, rfl, hfz, hnd⟩ := hW
  have hA : DataW.TrodAll enc Try.prog W 0 (fun _ => true) true Try.f9.params.toList args.toList ds p := hA0
  have hAk := hA
  rw [Try.params9] at hA hval hsz
  obtain ⟨v0, vs0, d0, ds0, p0, q0, hargs, rfl, rfl, h0, r0⟩ := trodAll_cons hA
  obtain ⟨v1, vs1, d1, ds1, p1, q1, rfl, rfl, rfl, h1, r1⟩ := trodAll_cons r0
  obtain ⟨rfl, rfl, rfl⟩ := trodAll_nil r1
  obtain rfl : args = #[v0, v1] := by simpa using congrArg List.toArray hargs
  obtain ⟨rfl, rfl⟩ := trodVars_none hV
  have hs0 := hsz
  obtain ⟨ao0, n0, cap0, rfl, hle0, hmax0, hL0⟩ := open_structs Try.underlying22 Try.underlying68 (by kernel_rfl) (ks := [some .u64, some .i64]) (by kernel_rfl) (c := 2) (by kernel_rfl) rfl (by decide) (hval 0 22 v0 rfl rfl) h0
  have hz0 := len_sized hs0 (j := 0) rfl rfl Try.underlying22 rfl h0
  obtain ⟨zs1, rfl, hz1, hwz1⟩ := open_ints_by_value Try.underlying39 Try.underlying23 (by kernel_rfl) (by kernel_rfl) (hval 1 39 v1 rfl rfl) h1
  obtain ⟨x, y, rfl⟩ := two_of hz1
  have wx : U x := U_wf (hwz1 x (by simp))
  have wy : U y := U_wf (hwz1 y (by simp))
  clear hA0 hval0 hsz0 hsz
  simp only [List.append_nil] at hW' hAk
  refine (ckeeps_at ao0 n0 cap0 x y W wx wy hle0 hmax0 hL0).mono fun e W' ⟨he, hb⟩ => ?_
  subst he
  exact ⟨_, rfl, law_post Try.laidOut (by kernel_rfl) rfl Try.underlying4 rfl hW' hAk rfl hb⟩

/-- The law CurveKeeps answers true, whatever the input. Condition: none. -/
theorem curveKeeps_holds : Rows.CurveKeepsSaid :=
  OpenClaim.holds_of_wide 9 Try.f9 rfl rfl rfl rfl rfl rfl rfl ⟨rfl, rfl, rfl, rfl, rfl⟩ rfl rfl rfl rfl rfl (by kernel_rfl) Try.func9 (by kernel_rfl)
    (of_decide_eq_true (by kernel_rfl)) (by unfold Func.isWrapper; rw [if_neg (of_decide_eq_false (by kernel_rfl))]; exact ⟨rfl, rfl⟩)
    (fun os started H enc _ => ckeeps_lifted os started H enc)
end Go.Proofs.Ytiaoaoebghnpkaa
