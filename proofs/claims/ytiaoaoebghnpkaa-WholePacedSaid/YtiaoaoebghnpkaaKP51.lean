/- Part of the proof. -/
import Derived.Test.YtiaoaoebghnpkaaKP50
import Derived.Test.YtiaoaoebghnpkaaKP42
import Derived.Test.YtiaoaoebghnpkaaKP45
import Derived.Test.YtiaoaoebghnpkaaRows
import Derived.Test.YtiaoaoebghnpkaaKP21
import Derived.Test.YtiaoaoebghnpkaaKP19
import Derived.Test.YtiaoaoebghnpkaaKP47
/- The law WholePaced answers true, whatever the input. Condition: none. -/
namespace Go.Proofs.Ytiaoaoebghnpkaa.P.Cv
open Go.RowKit Go.Proofs.YtiaoaoebghnpkaaW.PrintWords Go.Proofs.YtiaoaoebghnpkaaW.PrintLast Go.Proofs.YtiaoaoebghnpkaaW.PrintMore

/-- A packet that is more than what is left is not green. -/
theorem red_step {r b s0 s2 t size pre : Int} {s3 : Bool} (hc : chkM 1 r 0 b 0 = 0) (hr : U r) (h2 : U s2) (ht : U t) (hs : 0 ≤ size ∧ size ≤ 65575) (hl : s0 ≤ b * 1000000000)
    (hg : b * 1000000000 - lessV (b * 1000000000 - s0) (r * dtV s2 s3 t) < size * 1000000000) : 0 < (stepM 1 false r 0 b 0 s0 0 s2 s3 t size pre).2.2.2.2 := by
  have hd := V_mul hr (U_dt (seen := s3) h2 ht)
  have hg0 : 0 ≤ r * dtV s2 s3 t := hd.1
  have e1 : growV s0 (b * 1000000000) (r * dtV s2 s3 t) = b * 1000000000 - lessV (b * 1000000000 - s0) (r * dtV s2 s3 t) := by
    unfold growV putV lessV
    rw [Int.min_def s0, if_pos hl, Int.min_def]
    split <;> split <;> omega
  have hok : okV size = true := by
    unfold okV
    rw [decide_eq_true hs.1, decide_eq_true (show size * 1000000000 < 18446744073709551616 by omega)]
    rfl
  have hn : needV size = size * 1000000000 := by unfold needV; rw [if_pos hok]
  have hcan : canV (b * 1000000000 - lessV (b * 1000000000 - s0) (r * dtV s2 s3 t)) size = false := by
    unfold canV
    rw [hok, hn, decide_eq_false (by omega)]
    rfl
  unfold stepM
  rw [if_neg (by rw [hc]; omega), if_neg (by decide)]
  unfold stepS
  simp only []
  rw [e1]
  unfold paintS
  rw [if_neg (by rw [hcan]; rintro ⟨_, h⟩; cases h)]
  split
  · exact Int.zero_lt_one
  · exact (by decide : (0 : Int) < 2)
/-- Packets at some times. -/
def atS (l xs : List Int) : List S68 := (List.range xs.length).map fun j => ⟨l.getD j 0, xs.getD j 0⟩
theorem atS_length (l xs : List Int) : (atS l xs).length = xs.length := by unfold atS; rw [List.length_map, List.length_range]
theorem atS_get {l xs : List Int} {j : Nat} (h : j < xs.length) : (atS l xs).getD j z68 = ⟨l.getD j 0, xs.getD j 0⟩ := by
  unfold atS
  rw [List.getD_eq_getElem?_getD, List.getElem?_map, List.getElem?_range h]
  rfl
/-- What the meter holds ahead of the i-th packet. -/
def Held (r b : Int) (S : List S68) (i : Nat) (s0 s1 s2 : Int) (s3 : Bool) : Prop :=
  s0 = b * 1000000000 - wq r (pairS S) i ∧ wq r (pairS S) i ≤ b * 1000000000 ∧ s1 = 0 ∧ s2 = mst (tims (pairS S)) i ∧ s3 = decide (0 < i)
/-- The i-th packet keeps to the curve, and a billionth of a second sooner it does not. -/
def Just (r b : Int) (S : List S68) (j : Nat) : Prop :=
  wq r (pairS S) (j + 1) ≤ b * 1000000000 ∧ (0 < (S.getD j z68).f0 → mst (tims (pairS S)) j < (S.getD j z68).f0 →
    b * 1000000000 < lessV (wq r (pairS S) j) (r * dtV (mst (tims (pairS S)) j) (decide (0 < j)) ((S.getD j z68).f0 - 1)) + (S.getD j z68).f1 * 1000000000)
theorem wq_pos {r : Int} {S : List S68} (hz : ∀ j, j < S.length → 0 ≤ (S.getD j z68).f1) : ∀ k, k ≤ S.length → 0 ≤ wq r (pairS S) k
  | 0, _ => Int.le_refl _
  | k + 1, hk => by
    have := hz k (by omega)
    rw [wq_next']
    unfold lessV
    split <;> omega
theorem pace_just {r b : Int} {xs : List Int} (hc : chkM 1 r 0 b 0 = 0) (hr : U r) (hb : U b) (hxs : ∀ z ∈ xs, 0 ≤ z ∧ z ≤ 65535) :
    ∀ (d i : Nat) (acc : List Int) (s0 s1 s2 : Int) (s3 : Bool) (l : List Int) (f0 f1 : Int), i + d = xs.length → acc.length = i → U s0 → U s1 → U s2 → paceL 1 false r 0 b 0 0 xs d i acc s0 s1 s2 s3 = (l, f0, f1) →
      (f0 = 8 ∧ l = []) ∨ (f0 = 0 ∧ f1 = 0 ∧ l.length = xs.length ∧ (∀ j, j < i → l.getD j 0 = acc.getD j 0) ∧ (∀ j, i ≤ j → j < xs.length → U (l.getD j 0)) ∧
        (Held r b (atS l xs) i s0 s1 s2 s3 → ∀ j, i ≤ j → j < xs.length → Just r b (atS l xs) j ∧ mst (tims (pairS (atS l xs))) (j + 1) = l.getD j 0))
  | 0, i, acc, s0, s1, s2, s3, l, f0, f1, hi, ha, h0, h1, h2, h => by
    unfold paceL at h
    simp only [Prod.mk.injEq] at h
    obtain ⟨rfl, rfl, rfl⟩ := h
    exact .inr ⟨rfl, rfl, by omega, fun _ _ => rfl, fun j h1 h2 => absurd h2 (by omega), fun _ j h1 h2 => absurd h2 (by omega)⟩
  | d + 1, i, acc, s0, s1, s2, s3, l, f0, f1, hi, ha, h0, h1, h2, h => by
    unfold paceL at h
    simp only [] at h
    have hsz : 0 ≤ xs.getD i 0 ∧ xs.getD i 0 ≤ 65535 := by
      rw [List.getD_eq_getElem?_getD, List.getElem?_eq_getElem (by omega)]
      exact hxs _ (List.getElem_mem _)
    obtain ⟨T, v, hv⟩ : ∃ T v, outWhen 1 r 0 b 0 s0 s1 s2 s3 (xs.getD i 0) 0 = (T, v) := ⟨_, _, rfl⟩
    rw [hv] at h
    dsimp only at h
    cases v with
    | false =>
      rw [if_neg (by simp)] at h
      simp only [Prod.mk.injEq] at h
      exact .inl ⟨h.2.1.symm, h.1.symm⟩
    | true =>
      rw [if_pos rfl] at h
      obtain ⟨uT, g1, g2, g3, g4⟩ := told_true (a := false) hc hr U_zero h2 hsz.1 (Int.le_refl 0) (by omega) hv
      have u := stepM_U (k := 1) (a := false) (s3 := s3) (size := xs.getD i 0) (pre := 0) hr U_zero hb U_zero h0 h1 h2 uT
      obtain ⟨z0, z1, z2, z3, z4, hz⟩ : ∃ z0 z1 z2 z3 z4, stepM 1 false r 0 b 0 s0 s1 s2 s3 T (xs.getD i 0) 0 = (z0, z1, z2, z3, z4) := ⟨_, _, _, _, _, rfl⟩
      rw [hz] at h u
      dsimp only at h u
      rcases pace_just hc hr hb hxs d (i + 1) (acc ++ [T]) z0 z1 z2 z3 l f0 f1 (by omega) (by simp [ha]) u.1 u.2.1 u.2.2 h with hh | ⟨hf0, hf1, hl, hpre, hU, hjust⟩
      · exact .inl hh
      · have hT : l.getD i 0 = T := by
          rw [hpre i (by omega), List.getD_eq_getElem?_getD, List.getElem?_append_right (by omega), ha]
          simp
        refine .inr ⟨hf0, hf1, hl, fun j hj => ?_, fun j hj hj1 => ?_, fun hheld j hj hj1 => ?_⟩
        · rw [hpre j (by omega), List.getD_eq_getElem?_getD, List.getD_eq_getElem?_getD, List.getElem?_append_left (by omega)]
        · rcases Nat.lt_or_ge i j with hlt | hge
          · exact hU j (by omega) hj1
          · obtain rfl : j = i := by omega
            rw [hT]; exact uT
        · obtain ⟨e0, eb, e1, e2, e3⟩ := hheld
          have hkb := (chkM_ok hc).1
          have hge := atS_get (l := l) (show i < xs.length by omega)
          rw [hT] at hge
          have hn := wq_next' r (atS l xs) i
          rw [hge] at hn
          have ed : dtt (tims (pairS (atS l xs))) i = dtV s2 s3 T := by
            unfold dtt
            rw [tims_getD, hge, e2, e3]
          have em : mst (tims (pairS (atS l xs))) (i + 1) = nowV s2 s3 T := by
            show nowV (mst (tims (pairS (atS l xs))) i) (decide (0 < i)) ((tims (pairS (atS l xs))).getD i 0) = _
            rw [tims_getD, hge, e2, e3]
          have ew : b * 1000000000 - s0 = wq r (pairS (atS l xs)) i := by omega
          have hpos : 0 ≤ wq r (pairS (atS l xs)) i := wq_pos (fun j hj => by
            rw [atS_length] at hj
            rw [atS_get hj]
            show 0 ≤ xs.getD j 0
            rw [List.getD_eq_getElem?_getD, List.getElem?_eq_getElem hj]
            exact (hxs _ (List.getElem_mem _)).1) i (by rw [atS_length]; omega)
          subst e1
          have hgreen : xs.getD i 0 * 1000000000 ≤ b * 1000000000 - lessV (b * 1000000000 - s0) (r * dtV s2 s3 T) := by
            rcases Int.lt_or_le (b * 1000000000 - lessV (b * 1000000000 - s0) (r * dtV s2 s3 T)) (xs.getD i 0 * 1000000000) with hlt | hle
            · have := red_step (pre := 0) hc hr h2 uT (by omega) (by omega) hlt
              omega
            · exact hle
          have hst := green_step (pre := 0) hc hr h2 uT hsz.1 (by omega) hkb hgreen
          have hznow : T = nowV s2 s3 T := by
            unfold nowV
            split
            · rename_i hcc
              have := g1 hcc.1
              omega
            · rfl
          rw [hst] at hz
          simp only [Prod.mk.injEq] at hz
          obtain ⟨y0, y1, y2, y3, _⟩ := hz
          rw [ew, ← ed] at hgreen y0
          have hnext : Held r b (atS l xs) (i + 1) z0 z1 z2 z3 := by
            refine ⟨?_, ?_, y1.symm, by rw [em]; exact y2.symm, by rw [decide_eq_true (show 0 < i + 1 by omega)]; exact y3.symm⟩
            · rw [hn, ← y0]; dsimp only; omega
            · rw [hn]; dsimp only; omega
          rcases Nat.lt_or_ge i j with hlt | hge'
          · exact hjust hnext j (by omega) hj1
          · obtain rfl : j = i := by omega
            refine ⟨⟨hnext.2.1, ?_⟩, by rw [em, hT]; exact hznow.symm⟩
            rw [hge]
            intro hp hlast
            dsimp only at hp hlast
            rw [← e2] at hlast
            have hsoon := g4 hp hlast
            rcases Int.lt_or_le (b * 1000000000 - lessV (b * 1000000000 - s0) (r * dtV s2 s3 (T - 1))) (xs.getD j 0 * 1000000000) with hlt | hle
            · rw [ew] at hlt
              rw [← e2, ← e3]
              dsimp only
              omega
            · have := green_step (pre := 0) hc hr h2 (show U (T - 1) by unfold U at *; omega) hsz.1 (by omega) hkb hle
              rw [this] at hsoon
              exact absurd hsoon (by simp)
/-- What waits is told by the packets ahead. -/
theorem wq_same {r : Int} {S S' : List S68} : ∀ k, (∀ j, j < k → S'.getD j z68 = S.getD j z68) → wq r (pairS S') k = wq r (pairS S) k ∧ mst (tims (pairS S')) k = mst (tims (pairS S)) k
  | 0, _ => ⟨rfl, rfl⟩
  | k + 1, h => by
    obtain ⟨e1, e2⟩ := wq_same (r := r) k fun j hj => h j (by omega)
    have e3 := h k (by omega)
    refine ⟨?_, ?_⟩
    · rw [wq_next', wq_next', e1, e3]
      unfold dtt
      rw [tims_getD, tims_getD, e3, e2]
    · show nowV (mst (tims (pairS S')) k) (decide (0 < k)) ((tims (pairS S')).getD k 0) = nowV (mst (tims (pairS S)) k) (decide (0 < k)) ((tims (pairS S)).getD k 0)
      rw [tims_getD, tims_getD, e3, e2]
theorem fjW_at {most rate : Int} {l : List S68} {m : Nat} (hm : m < l.length) (hw : most < wq rate (pairS l) (m + 1)) : ∀ d i, i + d = l.length → i ≤ m → (∀ j, i ≤ j → j < m → ¬ most < wq rate (pairS l) (j + 1)) → ∃ z, fjW most rate l d i = (z, (m : Int), 17, (m : Int))
  | 0, i, hi, h1, _ => absurd hm (by omega)
  | d + 1, i, hi, h1, h => by
    unfold fjW
    by_cases hc : most < wq rate (pairS l) (i + 1)
    · rw [if_pos hc]
      rcases Nat.eq_or_lt_of_le h1 with e | e
      · subst e; exact ⟨_, rfl⟩
      · exact absurd hc (h i (Nat.le_refl _) e)
    · rw [if_neg hc]
      refine fjW_at hm hw d (i + 1) (by omega) ?_ fun j h2 h3 => h j (by omega) h3
      rcases Nat.eq_or_lt_of_le h1 with e | e
      · subst e; exact absurd hw hc
      · exact e
theorem breaks_of {S : List S68} {r b : Int} (hl : S.length ≤ 1000000) (hok : okS S) (hU : ∀ x ∈ S, U x.f0) (hr : U r) (hb : U b) : curve_Breaks.f S r b = some (fjW (b * 1000000000) r S S.length 0) := by
  unfold curve_Breaks.f
  rw [if_pos ⟨⟨hl, hU⟩, hr, hb⟩]
  unfold brkV
  rw [chk_ok hok, if_pos rfl, fjW_eq (by have := hb.1; omega) _ _ (by omega)]
theorem three_eq : curve_Least.f [(⟨0, 3⟩ : S68)] 0 = some (3, 0, 0) := by decide +kernel
theorem until_none (R : Int) (h : 1 ≤ R) : whenV 0 true (andW (untilV 0 R 0 R) (0, false)) = (0, false) := by
  have e : untilV 0 R 0 R = (0, true) := by
    unfold untilV
    rw [if_neg (by omega), if_pos (.inr rfl)]
  rw [e]
  rfl
theorem until_some (R r : Int) (h : 1 ≤ R) (h2 : R ≤ 4294967296000000000) (hr : 0 < r) : ∃ v, whenV 0 true (andW (untilV 0 R r R) (0, false)) = (v, true) ∧ v > 0 := by
  have hq : 0 ≤ (R - 0 - 1) / r := Int.ediv_nonneg (by omega) (by omega)
  have hq2 : (R - 0 - 1) / r ≤ R - 0 - 1 := Int.ediv_le_self _ (by omega)
  obtain ⟨v, hv⟩ : ∃ v, v = (R - 0 - 1) / r + 1 := ⟨_, rfl⟩
  have e : untilV 0 R r R = (v, false) := by
    unfold untilV
    rw [if_neg (by omega), if_neg (by omega), hv]
  have e2 : andW (v, false) (0, false) = (v, false) := by
    show (max v 0, false) = (v, false)
    rw [Int.max_def, if_neg (by omega)]
  refine ⟨v, ?_, by omega⟩
  rw [e, e2]
  unfold whenV
  dsimp only
  rw [if_pos rfl, if_neg (by rintro (h | h); · cases h
                             · omega), Int.zero_add]
theorem idle_one {r b : Int} (hc : chkM 1 r 0 b 0 = 0) (hr : U r) (hb : U b) (b1 : 1 ≤ b) : ∃ v, outlook_Idle.f 1 false r 0 b 0 0 0 0 true = some (v, decide (r > 0)) ∧ (r > 0 → v > 0) := by
  have hkb := (chkM_ok hc).1
  have e : outIdle 1 r 0 b 0 0 0 0 true = whenV 0 true (andW (untilV 0 (b * 1000000000) r (b * 1000000000)) (0, false)) := by
    unfold outIdle fullW
    rw [if_neg (fun h => h hc), if_neg (by decide)]
    rfl
  have ei := outIdle_eq 1 false r 0 b 0 0 0 0 true hb U_zero U_zero U_zero U_zero hr U_zero
  rw [e] at ei
  by_cases hz : r = 0
  · subst hz
    rw [until_none _ (by omega)] at ei
    exact ⟨0, ei, fun h => absurd h (by omega)⟩
  · have hr0 : 0 < r := by have := hr.1; omega
    obtain ⟨v, hv, hv0⟩ := until_some (b * 1000000000) r (by omega) (by omega) hr0
    rw [hv] at ei
    exact ⟨v, by rw [ei, decide_eq_true (show r > 0 from hr0)], fun _ => hv0⟩
theorem set_get {S : List S68} {m : Nat} {v : S68} (hm : m < S.length) (j : Nat) : (S.set m v).getD j z68 = if j = m then v else S.getD j z68 := by
  rw [List.getD_eq_getElem?_getD, List.getElem?_set, List.getD_eq_getElem?_getD]
  by_cases e : m = j
  · subst e
    rw [if_pos rfl, if_pos hm, if_pos rfl]
    rfl
  · rw [if_neg e, if_neg (fun h => e h.symm)]
theorem getD_U {S : List S68} (hU : ∀ j, j < S.length → U (S.getD j z68).f0) : ∀ x ∈ S, U x.f0 := fun x hx => by
  obtain ⟨j, hj, rfl⟩ := List.mem_iff_getElem.1 hx
  have := hU j hj
  rw [List.getD_eq_getElem?_getD, List.getElem?_eq_getElem hj] at this
  exact this

/-- Behind the two runs. -/
theorem paced_fin {r b : Int} {S : List S68} {x15 : Int} (hc : chkM 1 r 0 b 0 = 0) (hr : U r) (hb : U b) (b1 : 1 ≤ b) :
    Ev (fun n => weighbridgetop_WholePaced.j4 n false 1 false r 0 b 0) true ∧ Ev (fun n => weighbridgetop_WholePaced.j3 n S x15 false 1 false r 0 b 0) true := by
  obtain ⟨v, hv, hpos⟩ := idle_one hc hr hb b1
  have hchk := mcheck_eq 1 false r 0 b 0 hb U_zero
  rw [hc] at hchk
  have tail : (if (decide (r > 0) == decide (r > 0)) = true then (if decide (r > 0) = true then some (decide (v > 0)) else some true) else none) = some true := by
    rw [if_pos (by simp)]
    by_cases h : r > 0
    · rw [if_pos (by simpa using h), decide_eq_true (hpos h)]
    · rw [if_neg (by simpa using h)]
  constructor
  · refine Ev.step (f := fun _ => some true) (fun n => ?_) (Ev.now _)
    simp only [weighbridgetop_WholePaced.j4]
    rw [if_neg (by simp)]
    refine obind three_eq (obind hv ?_)
    rw [if_pos rfl]
    refine obind hchk ?_
    rw [if_pos rfl]
    exact tail
  · refine Ev.step (f := fun _ => some true) (fun n => ?_) (Ev.now _)
    simp only [weighbridgetop_WholePaced.j3]
    rw [if_neg (by simp)]
    refine obind three_eq (obind hv ?_)
    rw [if_pos rfl]
    refine obind hchk ?_
    rw [if_pos rfl]
    exact tail
theorem paced_end {r b : Int} {l xs : List Int} (hc : chkM 1 r 0 b 0 = 0) (hr : U r) (hb : U b) (b1 : 1 ≤ b) (hxs : ∀ z ∈ xs, 0 ≤ z ∧ z ≤ 65535) (hlen : xs.length ≤ 30) (hl : l.length = xs.length)
    (hU : ∀ j, j < xs.length → U (l.getD j 0)) (hj : ∀ j, j < xs.length → Just r b (atS l xs) j ∧ mst (tims (pairS (atS l xs))) (j + 1) = l.getD j 0) :
    Ev (fun n => weighbridgetop_WholePaced.l1 n xs l (atS l xs) (xs.length : Int) 1 false r 0 b 0) true := by
  have hsl := atS_length l xs
  have hsz : ∀ j, j < xs.length → 0 ≤ xs.getD j 0 ∧ xs.getD j 0 ≤ 65535 := fun j hj => by
    rw [List.getD_eq_getElem?_getD, List.getElem?_eq_getElem hj]
    exact hxs _ (List.getElem_mem _)
  have hok : okS (atS l xs) := fun j hj => by
    rw [hsl] at hj
    rw [atS_get hj]
    have := hsz j hj
    dsimp only
    omega
  have hSU : ∀ x ∈ atS l xs, U x.f0 := getD_U fun j hj => by
    rw [hsl] at hj
    rw [atS_get hj]
    exact hU j hj
  have eB : curve_Breaks.f (atS l xs) r b = some (0, 0, 0, 0) := by
    rw [breaks_of (by omega) hok hSU hr hb, fjW_none _ _ (by omega) fun j _ h2 => by
      have := (hj j (by omega)).1.1
      omega]
  obtain ⟨K4, h4⟩ := (paced_fin (S := atS l xs) (x15 := 0) hc hr hb b1).1
  obtain ⟨K3, h3⟩ := (paced_fin (S := atS l xs) (x15 := wrap64 ((xs.length : Int) - 1)) hc hr hb b1).2
  dsimp only at h4 h3
  by_cases h2 : xs.length ≤ 1
  · refine ⟨K3 + 1, fun n hn => ?_⟩
    obtain ⟨m, rfl⟩ : ∃ m, n = m + 1 := ⟨n - 1, by omega⟩
    simp only [weighbridgetop_WholePaced.l1]
    rw [if_neg (by omega)]
    refine obind eB ?_
    rw [if_neg (by simp), hsl, if_neg (by rw [w64_in (by omega)]; omega)]
    exact h3 m (by omega)
  · obtain ⟨m, hm⟩ : ∃ m, xs.length = m + 2 := ⟨xs.length - 2, by omega⟩
    have w1 : wrap64 ((xs.length : Int) - 1) = ((m + 1 : Nat) : Int) := by rw [w64_in (by omega)]; omega
    have w2 : wrap64 (((m + 1 : Nat) : Int) - 1) = (m : Int) := by rw [w64_in (by omega)]; omega
    have g1 := atS_get (l := l) (show m + 1 < xs.length by omega)
    have g0 := atS_get (l := l) (show m < xs.length by omega)
    rw [w1] at h3
    have hstart : ∀ K, (∀ n, K ≤ n → weighbridgetop_WholePaced.j3 n (atS l xs) ((m + 1 : Nat) : Int) (decide (l.getD (m + 1) 0 > l.getD m 0)) 1 false r 0 b 0 = some true) → Ev (fun n => weighbridgetop_WholePaced.l1 n xs l (atS l xs) (xs.length : Int) 1 false r 0 b 0) true := fun K hK => by
      refine ⟨K + 1, fun n hn => ?_⟩
      obtain ⟨q, rfl⟩ : ∃ q, n = q + 1 := ⟨n - 1, by omega⟩
      simp only [weighbridgetop_WholePaced.l1]
      rw [if_neg (by omega)]
      refine obind eB ?_
      rw [if_neg (by simp), hsl, w1, w2, if_pos (by omega), if_pos (by omega), if_pos (by omega), if_pos (by omega), if_pos (by omega), rdT_nat, rdT_nat, g1, g0]
      exact hK q (by omega)
    by_cases hgt : l.getD (m + 1) 0 > l.getD m 0
    · rw [decide_eq_true hgt] at hstart
      have hu1 := hU (m + 1) (by omega)
      have hu0 := hU m (by omega)
      have uT : U (l.getD (m + 1) 0 - 1) := by unfold U at *; omega
      obtain ⟨S', hS'⟩ : ∃ S', S' = (atS l xs).set (m + 1) (⟨l.getD (m + 1) 0 - 1, xs.getD (m + 1) 0⟩ : S68) := ⟨_, rfl⟩
      have hg' : ∀ j, S'.getD j z68 = if j = m + 1 then ⟨l.getD (m + 1) 0 - 1, xs.getD (m + 1) 0⟩ else (atS l xs).getD j z68 := fun j => by rw [hS']; exact set_get (by omega) j
      have hsl' : S'.length = xs.length := by rw [hS', List.length_set, hsl]
      have hok' : okS S' := fun j hj => by
        rw [hg']
        split
        · have := hsz (m + 1) (by omega); dsimp only; omega
        · exact hok j (by omega)
      have hSU' : ∀ x ∈ S', U x.f0 := getD_U fun j hj => by
        rw [hg']
        split
        · exact uT
        · rw [atS_get (by omega)]; exact hU j (by omega)
      have same : ∀ k, k ≤ m + 1 → wq r (pairS S') k = wq r (pairS (atS l xs)) k ∧ mst (tims (pairS S')) k = mst (tims (pairS (atS l xs))) k := fun k hk => wq_same k fun j hj => by
        rw [hg', if_neg (by omega)]
      have hlast : b * 1000000000 < wq r (pairS S') (m + 1 + 1) := by
        have hj1 := (hj (m + 1) (by omega)).1.2
        have hj0 := (hj m (by omega)).2
        rw [g1] at hj1
        dsimp only at hj1
        have := hj1 (by unfold U at hu0; omega) (by rw [hj0]; exact hgt)
        rw [wq_next', (same (m + 1) (Nat.le_refl _)).1, hg', if_pos rfl]
        unfold dtt
        rw [tims_getD, hg', if_pos rfl, (same (m + 1) (Nat.le_refl _)).2]
        exact this
      obtain ⟨z, hz⟩ := fjW_at (most := b * 1000000000) (rate := r) (l := S') (m := m + 1) (by omega) hlast S'.length 0 (by omega) (Nat.zero_le _) (fun j _ h3 => by
        rw [(same (j + 1) (by omega)).1]
        have := (hj j (by omega)).1.1
        omega)
      have eB' : curve_Breaks.f S' r b = some (z, ((m + 1 : Nat) : Int), 17, ((m + 1 : Nat) : Int)) := by rw [breaks_of (by omega) hok' hSU' hr hb, hz]
      refine hstart (K4 + 1) fun n hn => ?_
      obtain ⟨q, rfl⟩ : ∃ q, n = q + 1 := ⟨n - 1, by omega⟩
      simp only [weighbridgetop_WholePaced.j3]
      rw [if_pos trivial, if_pos (by omega), if_pos (by omega), Int.toNat_natCast, rdT_nat, g1]
      dsimp only
      rw [wU uT, ← hS']
      refine obind eB' ?_
      rw [if_neg (by simp)]
      show weighbridgetop_WholePaced.j4 q (((m + 1 : Nat) : Int) != ((m + 1 : Nat) : Int)) 1 false r 0 b 0 = some true
      rw [show ((((m + 1 : Nat) : Int) != ((m + 1 : Nat) : Int)) = false) by simp]
      exact h4 q (by omega)
    · rw [decide_eq_false hgt] at hstart
      exact hstart K3 h3
theorem paced_l1 {r b : Int} {l xs : List Int} (hlen : xs.length ≤ 30) (hl : l.length = xs.length) (hn : Ev (fun n => weighbridgetop_WholePaced.l1 n xs l (atS l xs) (xs.length : Int) 1 false r 0 b 0) true) :
    ∀ d i, i + d = xs.length → Ev (fun n => weighbridgetop_WholePaced.l1 n xs l ((atS l xs).take i) (i : Int) 1 false r 0 b 0) true := by
  intro d
  induction d with
  | zero =>
    intro i hi
    obtain rfl : i = xs.length := by omega
    rw [List.take_of_length_le (by rw [atS_length]; exact Nat.le_refl _)]
    exact hn
  | succ d ih =>
    intro i hi
    have hsl := atS_length l xs
    have e : (atS l xs).take (i + 1) = (atS l xs).take i ++ [⟨l.getD i 0, xs.getD i 0⟩] := by
      rw [List.take_succ_eq_append_getElem (by omega), ← atS_get (l := l) (show i < xs.length by omega), List.getD_eq_getElem?_getD, List.getElem?_eq_getElem (by omega)]
      rfl
    refine Ev.step (f := fun n => weighbridgetop_WholePaced.l1 n xs l ((atS l xs).take (i + 1)) ((i + 1 : Nat) : Int) 1 false r 0 b 0) (fun n => ?_) (ih (i + 1) (by omega))
    simp only [weighbridgetop_WholePaced.l1]
    rw [if_pos (by omega), if_pos (by omega), if_pos (by omega), if_pos (by rw [List.length_take]; omega), rd_nat, rd_nat, w64_up (by omega), e]
theorem paced_j1 {r b : Int} {xs : List Int} (hc : chkM 1 r 0 b 0 = 0) (hr : U r) (hb : U b) (b1 : 1 ≤ b) (hxs : ∀ z ∈ xs, 0 ≤ z ∧ z ≤ 65535) (hlen : xs.length ≤ 30) :
    Ev (fun n => weighbridgetop_WholePaced.j1 n xs 1 false r 0 b 0) true := by
  obtain ⟨l, f0, f1, hv⟩ : ∃ l f0 f1, paceV 1 false r 0 b 0 0 xs = (l, f0, f1) := ⟨_, _, _, rfl⟩
  obtain ⟨K, hK⟩ := pace_eq (k := 1) (a := false) (want := 0) hb U_zero hr U_zero (fun z hz => by have := hxs z hz; unfold I64; omega) (show xs.length ≤ 1000000 by omega)
  dsimp only at hK
  rw [hv] at hK
  have hkb := (chkM_ok hc).1
  unfold paceV at hv
  rw [if_neg (fun g => g hc), if_neg (by omega), Int.zero_mul] at hv
  rcases pace_just hc hr hb hxs xs.length 0 [] _ _ _ _ l f0 f1 (by omega) rfl (by unfold U at *; omega) U_zero U_zero hv with ⟨rfl, rfl⟩ | ⟨rfl, rfl, hl, _, hU, hjust⟩
  · refine ⟨K + 1, fun n hn => ?_⟩
    obtain ⟨m, rfl⟩ : ∃ m, n = m + 1 := ⟨n - 1, by omega⟩
    simp only [weighbridgetop_WholePaced.j1]
    refine obind (hK m (by omega)) ?_
    rw [if_pos (by simp), if_pos rfl]
    rfl
  · have hj := hjust ⟨by show b * 1000000000 = b * 1000000000 - 0; omega, by show (0 : Int) ≤ _; have := hb.1; omega, rfl, rfl, rfl⟩
    obtain ⟨K2, hK2⟩ := paced_l1 hlen hl (paced_end hc hr hb b1 hxs hlen hl (fun j h => hU j (Nat.zero_le _) h) fun j h => hj j (Nat.zero_le _) h) xs.length 0 (by omega)
    refine ⟨K + K2 + 1, fun n hn => ?_⟩
    obtain ⟨m, rfl⟩ : ∃ m, n = m + 1 := ⟨n - 1, by omega⟩
    have e2 := hK2 m (by omega)
    dsimp only at e2
    simp only [weighbridgetop_WholePaced.j1]
    refine obind (hK m (by omega)) ?_
    rw [if_neg (by simp), if_pos (by dsimp only; omega)]
    exact e2
theorem paced_l0 {r b : Int} {ys : List Int} (hys : ∀ z ∈ ys, 0 ≤ z ∧ z ≤ 65535) (hn : Ev (fun n => weighbridgetop_WholePaced.j1 n (ys.take 30) 1 false r 0 b 0) true) :
    ∀ d i, i + d = 30 → Ev (fun n => weighbridgetop_WholePaced.l0 n ys (ys.take i) (i : Int) 1 false r 0 b 0) true := by
  intro d
  induction d with
  | zero =>
    intro i hi
    obtain rfl : i = 30 := by omega
    refine Ev.step (f := fun n => weighbridgetop_WholePaced.j1 n (ys.take 30) 1 false r 0 b 0) (fun n => ?_) hn
    simp only [weighbridgetop_WholePaced.l0]
    split
    · rw [if_neg (by omega)]
    · rfl
  | succ d ih =>
    intro i hi
    by_cases hlt : i < ys.length
    · have hz : 0 ≤ ys.getD i 0 ∧ ys.getD i 0 ≤ 65535 := by
        rw [List.getD_eq_getElem?_getD, List.getElem?_eq_getElem hlt]
        exact hys _ (List.getElem_mem _)
      have e : ys.take (i + 1) = ys.take i ++ [ys.getD i 0] := by
        rw [List.take_succ_eq_append_getElem hlt, List.getD_eq_getElem?_getD, List.getElem?_eq_getElem hlt]
        rfl
      refine Ev.step (f := fun n => weighbridgetop_WholePaced.l0 n ys (ys.take (i + 1)) ((i + 1 : Nat) : Int) 1 false r 0 b 0) (fun n => ?_) (ih (i + 1) (by omega))
      simp only [weighbridgetop_WholePaced.l0]
      rw [if_pos (by omega), if_pos (by omega), if_pos (by omega), if_pos (by rw [List.length_take]; omega), rd_nat, w64_in (by omega), w64_up (by omega), e]
    · have e : ys.take i = ys.take 30 := by rw [List.take_of_length_le (by omega), List.take_of_length_le (by omega)]
      refine Ev.step (f := fun n => weighbridgetop_WholePaced.j1 n (ys.take 30) 1 false r 0 b 0) (fun n => ?_) hn
      simp only [weighbridgetop_WholePaced.l0]
      rw [if_neg (by omega), e]
theorem paced_ev {x y : Int} {ys : List Int} (hx : U x) (hy : U y) (hys : ∀ z ∈ ys, 0 ≤ z ∧ z ≤ 65535) : Ev (fun n => weighbridgetop_WholePaced.f n x y ys) true := by
  have er : Int.tmod x 1099511627777 = x % 1099511627777 := Int.tmod_eq_emod_of_nonneg hx.1
  have eb : Int.tmod y 4294967296 = y % 4294967296 := Int.tmod_eq_emod_of_nonneg hy.1
  obtain ⟨r, hr⟩ : ∃ r, r = x % 1099511627777 := ⟨_, rfl⟩
  obtain ⟨b, hb⟩ : ∃ b, b = 1 + y % 4294967296 := ⟨_, rfl⟩
  have hr2 : 0 ≤ r ∧ r ≤ 1099511627776 := by omega
  have hb2 : 1 ≤ b ∧ b ≤ 4294967296 := by omega
  have ur : U r := by unfold U; omega
  have ub : U b := by unfold U; omega
  have hc : chkM 1 r 0 b 0 = 0 := by
    rw [chkM_one (by decide)]
    unfold chkS
    rw [if_pos rfl, if_neg (by omega), if_neg (by omega)]
  refine Ev.congr (fun n => ?_) (paced_l0 hys (paced_j1 hc ur ub hb2.1 (fun z hz => hys z (List.mem_of_mem_take hz)) (by rw [List.length_take]; omega)) 30 0 (by omega))
  unfold weighbridgetop_WholePaced.f
  rw [er, eb, ← hr, ← hb, wU ub]
  rfl
end Go.Proofs.Ytiaoaoebghnpkaa.P.Cv
namespace Go.Proofs.Ytiaoaoebghnpkaa
open Go.ChangeShapes Go.WideShapes Go.ChangeAt Go.RowKit Go.Proofs.YtiaoaoebghnpkaaW.PrintWords
theorem numsP_list {k : IntKind} {w : World} {ao : Option Addr} {n : Nat} (hmax : n ≤ 9223372036854775807)
    (hL : ∀ j, j < n → ∃ (b off : Nat) (z : Int), ao = some ⟨b, off, none⟩ ∧ b < w.heap.size ∧ (Lit.int k z).wf = true ∧ w.cell? ⟨b, off + j, none⟩ = some (.int k z)) :
    ∃ l : List Int, l.length = n ∧ (∀ z ∈ l, (Lit.int k z).wf = true) ∧ Kd.C (Kd.int k) w ao n l := by
  obtain ⟨l, hl, hx⟩ := list_of (R := fun j (z : Int) => (Lit.int k z).wf = true ∧ ∃ b off, ao = some ⟨b, off, none⟩ ∧ w.cell? ⟨b, off + j, none⟩ = some (.int k z)) n fun j hj => by
    obtain ⟨b, off, z, hao, _, hw, hc⟩ := hL j hj
    exact ⟨z, hw, b, off, hao, hc⟩
  refine ⟨l, hl, fun z hz => ?_, Kd.C_of_reads (d := (0 : Int)) ⟨hl, hmax, fun hn => ?_⟩⟩
  · obtain ⟨j, hj, rfl⟩ := List.mem_iff_getElem.1 hz
    exact (hx j _ (List.getElem?_eq_getElem hj)).1
  obtain ⟨b, off, _, hao, _⟩ := hL 0 hn
  refine ⟨⟨b, off, none⟩, hao, fun j hj => ?_⟩
  obtain ⟨_, b', off', hao', hc⟩ := hx j _ (List.getElem?_eq_getElem (by omega))
  rw [hao] at hao'
  obtain ⟨rfl, rfl⟩ : b = b' ∧ off = off' := by simpa using hao'
  rw [add_mk, hc, List.getD_eq_getElem?_getD, List.getElem?_eq_getElem (by omega)]
  rfl
theorem u16_in {z : Int} (h : (Lit.int .u16 z).wf = true) : 0 ≤ z ∧ z ≤ 65535 := by
  simp [Lit.wf, IntKind.min, IntKind.max, IntKind.bits, IntKind.signed] at h
  omega
theorem paced_at (x y : Int) (A : Option Addr) (n cap : Nat) (w : World) (hx : U x) (hy : U y) (hle : n ≤ cap) (hmax : cap ≤ maxLen)
    (hL : ∀ j, j < n → ∃ (b off : Nat) (z : Int), A = some ⟨b, off, none⟩ ∧ b < w.heap.size ∧ (Lit.int .u16 z).wf = true ∧ w.cell? ⟨b, off + j, none⟩ = some (.int .u16 z)) :
    Calls Try.prog 10 #[.agg #[.int .u64 x, .int .u64 y], .slice A n cap] w fun e w' => e = .returned (.bool true) ∧ Below w.heap.size w w' := by
  obtain ⟨ys, rfl, hw, hC⟩ := numsP_list (Nat.le_trans hle hmax) hL
  obtain ⟨K, hK⟩ := P.Cv.paced_ev hx hy (fun z hz => u16_in (hw z hz))
  exact P.weighbridgetop_WholePaced.calls K x y A cap ys true w hC hle (hK K (Nat.le_refl _))
set_option maxRecDepth 100000 in
set_option maxHeartbeats 1000000 in
theorem paced_lifted (os : Os) (started : os.Started) (H : Type) (enc : TypeId × Value → H) :
    ReturnsInHanded {} Try.checked os 10 .any (Rows.wholePacedSpec.pre6 enc Try.prog Try.f10 Rows.wholePacedRow.domain false) (Rows.wholePacedSpec.post enc Try.prog Try.f10 false true false false) := by
  refine returnsInHanded_of_change_sized (C := Try.checked) Try.own started (by kernel_rfl) Try.func10
    (ChangeSpec.witness6 (enc := enc) (C := Try.checked) false ⟨#[], #[.agg #[.int .u64 0, .int .u64 0], .slice none 0 0], []⟩ 8 (by kernel_rfl) (by kernel_rfl) (by kernel_rfl) (by kernel_rfl)) ?_
  intro W base args ds gs before hval0 hW hcnd hsz0 _
  have hsz : (DataW.weightsEach Try.prog (Try.f10.params.toList ++ Rows.wholePacedSpec.plain.varTypes Try.prog) (ds ++ gs)).all (· ≤ reachBytes) = true := hsz0
  have hval : ∀ (j : Nat) t v, Try.f10.params[j]? = some t → args[j]? = some v → Value.okWide Try.prog W .any base t v := hval0
  have hW' := hW
  obtain ⟨p, q, hA0, hV, rfl, hfz, hnd⟩ := hW
  have hA : DataW.TrodAll enc Try.prog W 0 (fun _ => true) true Try.f10.params.toList args.toList ds p := hA0
  have hAk := hA
  rw [Try.params10] at hA hval hsz
  obtain ⟨v0, vs0, d0, ds0, p0, q0, hargs, rfl, rfl, h0, r0⟩ := trodAll_cons hA
  obtain ⟨v1, vs1, d1, ds1, p1, q1, rfl, rfl, rfl, h1, r1⟩ := trodAll_cons r0
  obtain ⟨rfl, rfl, rfl⟩ := trodAll_nil r1
  obtain rfl : args = #[v0, v1] := by simpa using congrArg List.toArray hargs
  obtain ⟨rfl, rfl⟩ := trodVars_none hV
  obtain ⟨zs0, rfl, hz0, hwz0⟩ := open_ints_by_value Try.underlying39 Try.underlying23 (by kernel_rfl) (by kernel_rfl) (hval 0 39 v0 rfl rfl) h0
  obtain ⟨x, y, rfl⟩ := two_of hz0
  have wx : U x := U_wf (hwz0 x (by simp))
  have wy : U y := U_wf (hwz0 y (by simp))
  obtain ⟨ao1, n1, cap1, rfl, hle1, hmax1, hL1⟩ := open_nums Try.underlying62 Try.underlying64 (by kernel_rfl) (hval 1 62 v1 rfl rfl) h1
  have hz1 := len_sized hsz (j := 1) rfl rfl Try.underlying62 rfl h1
  clear hA0 hval0 hsz0 hsz
  simp only [List.append_nil] at hW' hAk
  refine (paced_at x y ao1 n1 cap1 W wx wy hle1 hmax1 hL1).mono fun e W' ⟨he, hb⟩ => ?_
  subst he
  exact ⟨_, rfl, law_post Try.laidOut (by kernel_rfl) rfl Try.underlying4 rfl hW' hAk rfl hb⟩

/-- The law WholePaced answers true, whatever the input. Condition: none. -/
theorem wholePaced_holds : Rows.WholePacedSaid :=
  OpenClaim.holds_of_wide 10 Try.f10 rfl rfl rfl rfl rfl rfl rfl ⟨rfl, rfl, rfl, rfl, rfl⟩ rfl rfl rfl rfl rfl (by kernel_rfl) Try.func10 (by kernel_rfl)
    (of_decide_eq_true (by kernel_rfl)) (by unfold Func.isWrapper; rw [if_neg (of_decide_eq_false (by kernel_rfl))]; exact ⟨rfl, rfl⟩)
    (fun os started H enc _ => paced_lifted os started H enc)
end Go.Proofs.Ytiaoaoebghnpkaa
