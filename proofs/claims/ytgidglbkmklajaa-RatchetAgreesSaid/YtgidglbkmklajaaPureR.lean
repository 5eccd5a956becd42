/- What ratchet's functions and the document's answer, in closed form. -/
import Derived.Test.YtgidglbkmklajaaPF12
import Derived.Test.YtgidglbkmklajaaPF18
import Derived.Test.YtgidglbkmklajaaPF21
import Derived.Test.YtgidglbkmklajaaPF15
import Derived.Test.YtgidglbkmklajaaPF16
import Derived.Test.YtgidglbkmklajaaPF19
import Derived.Test.YtgidglbkmklajaaPF13
import Derived.Test.YtgidglbkmklajaaTime
namespace Go.Proofs.Ytgidglbkmklajaa.P
open Go.RowKit Go.Proofs.YtgidglbkmklajaaW.PrintWords Go.Proofs.YtgidglbkmklajaaW.PrintLast Go.Proofs.YtgidglbkmklajaaW.PrintMore

theorem live25_k (k : Nat) : weighbridgelaw25_live.f (k + 10) = some true := by kernel_rfl
theorem wrap_up {i n : Nat} (h : i < n) (hn : n ≤ 17592186044416) : wrap64 ((i : Int) + 1) = ((i + 1 : Nat) : Int) := by
  unfold wrap64; omega
theorem rd_nat (l : List Int) (i : Nat) : rd l (i : Int) = l.getD i 0 := by unfold rd; rw [Int.toNat_natCast]

theorem mst_le (l : List Int) (h : ∀ x ∈ l, U x) (j : Nat) : mst l j ≤ mst l (j + 1) := by
  have e : mst l (j + 1) = nowV (mst l j) (decide (0 < j)) (l.getD j 0) := rfl
  rw [e]
  unfold nowV
  split
  case isTrue h1 => exact Int.le_refl _
  case isFalse h1 =>
    rcases Nat.eq_zero_or_pos j with rfl | hj
    · exact (U_getD h 0).1
    · have : ¬ (l.getD j 0 ≤ mst l j) := fun hh => h1 ⟨by simpa using hj, hh⟩
      omega
theorem get_le (l : List Int) (j : Nat) : l.getD j 0 ≤ mst l (j + 1) := by
  have e : mst l (j + 1) = nowV (mst l j) (decide (0 < j)) (l.getD j 0) := rfl
  rw [e]
  unfold nowV
  split
  case isTrue h1 => exact h1.2
  case isFalse h1 => exact Int.le_refl _
theorem mx_mst (l : List Int) (h : ∀ x ∈ l, U x) (j : Nat) : mx (mst l j) (l.getD j 0) = mst l (j + 1) := by
  have h1 := mst_le l h j
  have h2 := get_le l j
  have e : mst l (j + 1) = nowV (mst l j) (decide (0 < j)) (l.getD j 0) := rfl
  have h3 : mst l (j + 1) = mst l j ∨ mst l (j + 1) = l.getD j 0 := by
    rw [e]; unfold nowV; split
    · exact .inl rfl
    · exact .inr rfl
  unfold mx
  split <;> omega
theorem dtt_eq (l : List Int) (j : Nat) (hj : 0 < j) : dtt l j = mst l (j + 1) - mst l j := by
  have e : mst l (j + 1) = nowV (mst l j) (decide (0 < j)) (l.getD j 0) := rfl
  rw [e]
  unfold dtt dtV nowV
  have : decide (0 < j) = true := by simpa using hj
  rw [this]
  by_cases hc : mst l j < l.getD j 0
  · rw [if_pos ⟨rfl, hc⟩, if_neg (fun hh => by have := hh.2; omega)]
  · rw [if_neg (fun hh => hc hh.2), if_pos ⟨rfl, by omega⟩]; omega

/-- The first j of what Run tells. -/
def runT (l : List Int) (j : Nat) : List Int := (List.range j).map fun k => mst l (k + 1)
theorem runT_succ (l : List Int) (j : Nat) : runT l (j + 1) = runT l j ++ [mst l (j + 1)] := by simp [runT, List.range_succ]
theorem runT_length (l : List Int) (j : Nat) : (runT l j).length = j := by simp [runT]
theorem runL_get (l : List Int) (j : Nat) (h : j < l.length) : (runL l).getD j 0 = mst l (j + 1) := by
  unfold runL
  rw [List.getD_eq_getElem?_getD, List.getElem?_map, List.getElem?_range h]
  rfl

theorem inner_ev (l : List Int) (h : ∀ x ∈ l, U x) (hl : l.length ≤ 17592186044416) (x3 : List Int) (i : Nat) (hi : i < l.length) (h3 : x3.length = i) (R : List Int)
    (hk : Ev (fun k => weighbridgeref25_Run.l0 k l (x3 ++ [mst l (i + 1)]) ((i + 1 : Nat) : Int)) R) : ∀ (d j : Nat), j + d = i + 1 →
    Ev (fun k => weighbridgeref25_Run.l1 k l x3 (i : Int) (mst l j) (j : Int)) R
  | 0, j, e => by
    refine Ev.step (f := fun k => weighbridgeref25_Run.l0 k l (x3 ++ [mst l (i + 1)]) ((i + 1 : Nat) : Int)) (fun k => ?_) hk
    simp only [weighbridgeref25_Run.l1]
    rw [if_neg (show ¬ ((j : Int) ≤ (i : Int)) by omega), if_pos (show x3.length < 17592186044416 by omega), wrap_up hi hl, show j = i + 1 from by omega]
  | d + 1, j, e => by
    refine Ev.step (f := fun k => weighbridgeref25_Run.l1 k l x3 (i : Int) (mst l (j + 1)) ((j + 1 : Nat) : Int)) (fun k => ?_) (inner_ev l h hl x3 i hi h3 R hk d (j + 1) (by omega))
    simp only [weighbridgeref25_Run.l1]
    rw [if_pos (show (j : Int) ≤ (i : Int) by omega), if_pos (show (0 : Int) ≤ (j : Int) by omega), if_pos (show (j : Int) < (l.length : Int) by omega), rd_nat, mx_mst l h, wrap_up (show j < l.length by omega) hl]

theorem run25_l0 (l : List Int) (h : ∀ x ∈ l, U x) (hl : l.length ≤ 17592186044416) : ∀ (d j : Nat), j + d = l.length → Ev (fun k => weighbridgeref25_Run.l0 k l (runT l j) (j : Int)) (runL l)
  | 0, j, e => by
    refine Ev.step (f := fun _ => some (runL l)) (fun k => ?_) (Ev.now _)
    simp only [weighbridgeref25_Run.l0]
    rw [if_neg (show ¬ ((j : Int) < (l.length : Int)) by omega), show j = l.length from by omega]
    rfl
  | d + 1, j, e => by
    have hrec := run25_l0 l h hl d (j + 1) (by omega)
    rw [show (fun k => weighbridgeref25_Run.l0 k l (runT l (j + 1)) ((j + 1 : Nat) : Int)) = (fun k => weighbridgeref25_Run.l0 k l (runT l j ++ [mst l (j + 1)]) ((j + 1 : Nat) : Int)) from by rw [runT_succ]] at hrec
    refine Ev.step (f := fun k => weighbridgeref25_Run.l1 k l (runT l j) (j : Int) (mst l 0) ((0 : Nat) : Int)) (fun k => ?_) (inner_ev l h hl (runT l j) j (by omega) (runT_length l j) _ hrec (j + 1) 0 (by omega))
    simp only [weighbridgeref25_Run.l0]
    rw [if_pos (show (j : Int) < (l.length : Int) by omega)]
    rfl
theorem run25_ev (l : List Int) (h : ∀ x ∈ l, U x) (hl : l.length ≤ 17592186044416) : Ev (fun k => weighbridgeref25_Run.f k l) (runL l) := run25_l0 l h hl l.length 0 (by omega)

theorem same18_l0 (l : List Int) (hl : l.length ≤ 17592186044416) : ∀ (d j : Nat), j + d = l.length → Ev (fun k => weighbridgeref18_Same.l0 k l l (j : Int)) true
  | 0, j, e => by
    refine Ev.step (f := fun _ => some true) (fun k => ?_) (Ev.now _)
    simp only [weighbridgeref18_Same.l0]
    rw [if_neg (show ¬ ((j : Int) < (l.length : Int)) by omega)]
  | d + 1, j, e => by
    refine Ev.step (f := fun k => weighbridgeref18_Same.l0 k l l ((j + 1 : Nat) : Int)) (fun k => ?_) (same18_l0 l hl d (j + 1) (by omega))
    simp only [weighbridgeref18_Same.l0]
    rw [if_pos (show (j : Int) < (l.length : Int) by omega), if_pos (show (0 : Int) ≤ (j : Int) by omega), if_pos (show (j : Int) < (l.length : Int) by omega), if_pos trivial, wrap_up (show j < l.length by omega) hl]
theorem same25_ev (l : List Int) (hl : l.length ≤ 17592186044416) : Ev (fun k => weighbridgeref25_Same.f k l l) true := by
  unfold weighbridgeref25_Same.f weighbridgeref18_Same.f
  refine Ev.bind (a := true) ?_ (Ev.now _)
  refine Ev.congr (fun k => if_pos rfl) ?_
  exact same18_l0 l hl l.length 0 (by omega)
theorem same08_l0 (l : List Int) (hl : l.length ≤ 17592186044416) : ∀ (d j : Nat), j + d = l.length → Ev (fun k => weighbridgeref08_SameInts.l0 k l l (j : Int)) true
  | 0, j, e => by
    refine Ev.step (f := fun _ => some true) (fun k => ?_) (Ev.now _)
    simp only [weighbridgeref08_SameInts.l0]
    rw [if_neg (show ¬ ((j : Int) < (l.length : Int)) by omega)]
  | d + 1, j, e => by
    refine Ev.step (f := fun k => weighbridgeref08_SameInts.l0 k l l ((j + 1 : Nat) : Int)) (fun k => ?_) (same08_l0 l hl d (j + 1) (by omega))
    simp only [weighbridgeref08_SameInts.l0]
    rw [if_pos (show (j : Int) < (l.length : Int) by omega), if_pos (show (0 : Int) ≤ (j : Int) by omega), if_pos (show (j : Int) < (l.length : Int) by omega), if_pos trivial, wrap_up (show j < l.length by omega) hl]
theorem same08_ev (l : List Int) (hl : l.length ≤ 17592186044416) : Ev (fun k => weighbridgeref08_SameInts.f k l l) true := by
  unfold weighbridgeref08_SameInts.f
  refine Ev.congr (fun k => if_pos rfl) ?_
  exact same08_l0 l hl l.length 0 (by omega)

theorem back25_l0 (l : List Int) (hl : l.length ≤ 17592186044416) : ∀ (d j : Nat), j + d = l.length → Ev (fun k => weighbridgeref25_Back.l0 k l (backL l j) (runL l) (j : Int)) (backL l l.length)
  | 0, j, e => by
    refine Ev.step (f := fun _ => some (backL l l.length)) (fun k => ?_) (Ev.now _)
    simp only [weighbridgeref25_Back.l0]
    rw [if_neg (show ¬ ((j : Int) < (l.length : Int)) by omega), show j = l.length from by omega]
  | d + 1, j, e => by
    have hj : j < l.length := by omega
    refine Ev.step (f := fun k => weighbridgeref25_Back.l0 k l (backL l (j + 1)) (runL l) ((j + 1 : Nat) : Int)) (fun k => ?_) (back25_l0 l hl d (j + 1) (by omega))
    simp only [weighbridgeref25_Back.l0]
    have hb := backL_length l j
    rw [if_pos (show (j : Int) < (l.length : Int) by omega), if_pos (show (0 : Int) ≤ (j : Int) by omega), if_pos (show (j : Int) < ((runL l).length : Int) by rw [runL_length]; omega), rd_nat, rd_nat, runL_get l j hj, wrap_up hj hl, backL_succ]
    by_cases hc : l.getD j 0 < mst l (j + 1)
    · rw [if_pos hc, if_pos hc, if_pos (show (backL l j).length < 17592186044416 by omega)]
    · rw [if_neg hc, if_neg hc]
theorem back25_ev (l : List Int) (h : ∀ x ∈ l, U x) (hl : l.length ≤ 17592186044416) : Ev (fun k => weighbridgeref25_Back.f k l) (backL l l.length) := by
  unfold weighbridgeref25_Back.f
  exact Ev.bind (run25_ev l h hl) (back25_l0 l hl l.length 0 (by omega))

theorem long25_l0 (l : List Int) (h : ∀ x ∈ l, U x) (hl : l.length ≤ 17592186044416) : ∀ (d j : Nat), j + 1 + d = l.length →
    Ev (fun k => weighbridgeref25_Longest.l0 k l (runL l) (longL l (j + 1)).1 (longL l (j + 1)).2 ((j + 1 : Nat) : Int)) (longL l l.length)
  | 0, j, e => by
    refine Ev.step (f := fun _ => some (longL l l.length)) (fun k => ?_) (Ev.now _)
    simp only [weighbridgeref25_Longest.l0]
    rw [if_neg (show ¬ (((j + 1 : Nat) : Int) < (l.length : Int)) by omega), show j + 1 = l.length from by omega]
  | d + 1, j, e => by
    have hj : j + 1 < l.length := by omega
    refine Ev.step (f := fun k => weighbridgeref25_Longest.l0 k l (runL l) (longL l (j + 1 + 1)).1 (longL l (j + 1 + 1)).2 ((j + 1 + 1 : Nat) : Int)) (fun k => ?_) (long25_l0 l h hl d (j + 1) (by omega))
    have e1 : wrap64 (((j + 1 : Nat) : Int) - 1) = (j : Int) := by unfold wrap64; omega
    have hd := dtt_eq l (j + 1) (by omega)
    have hU := U_dtt h (j + 1)
    have e2 : IntKind.u64.wrap (mst l (j + 1 + 1) - mst l (j + 1)) = dtt l (j + 1) := by
      rw [← hd, wrap_lo, lo_of_U hU]
    have hs : longL l (j + 1 + 1) = if 0 < j + 1 ∧ ((longL l (j + 1)).2 < 0 ∨ (longL l (j + 1)).1 < dtt l (j + 1)) then (dtt l (j + 1), ((j + 1 : Nat) : Int)) else longL l (j + 1) := rfl
    simp only [weighbridgeref25_Longest.l0]
    have q1 : ((j + 1 : Nat) : Int) < ((runL l).length : Int) := by rw [runL_length]; omega
    have q2 : (j : Int) < ((runL l).length : Int) := by rw [runL_length]; omega
    rw [if_pos (show ((j + 1 : Nat) : Int) < (l.length : Int) by omega), e1, rd_nat, rd_nat, runL_get l _ hj, runL_get l j (by omega), e2, wrap_up hj hl]
    simp only [if_pos (show (0 : Int) ≤ ((j + 1 : Nat) : Int) by omega), if_pos q1, if_pos (show (0 : Int) ≤ (j : Int) by omega), if_pos q2]
    rw [hs]
    by_cases c1 : (longL l (j + 1)).2 < 0
    · rw [if_pos c1, if_pos ⟨by omega, .inl c1⟩]
    · rw [if_neg c1]
      by_cases c2 : dtt l (j + 1) > (longL l (j + 1)).1
      · rw [if_pos c2, if_pos ⟨by omega, .inr c2⟩]
      · rw [if_neg c2, if_neg (by omega)]
theorem long25_ev (l : List Int) (h : ∀ x ∈ l, U x) (hl : l.length ≤ 17592186044416) : Ev (fun k => weighbridgeref25_Longest.f k l) (longL l l.length) := by
  unfold weighbridgeref25_Longest.f
  refine Ev.bind (run25_ev l h hl) ?_
  rcases Nat.eq_zero_or_pos l.length with h0 | h0
  · rw [h0]
    refine Ev.step (f := fun _ => some (longL l 0)) (fun k => ?_) (Ev.now _)
    simp only [weighbridgeref25_Longest.l0]
    rw [if_neg (show ¬ ((1 : Int) < (l.length : Int)) by omega)]
    rfl
  · exact long25_l0 l h hl (l.length - 1) 0 (by omega)

theorem U_wf1 {n : Int} (h : (Lit.int .u64 n).wf = true) : U n := by
  have := bounds_u64 h
  unfold U; omega
theorem U_wfL {l : List Int} (h : ∀ x ∈ l, (Lit.int .u64 x).wf = true) : ∀ x ∈ l, U x := fun x hx => U_wf1 (h x hx)
theorem run_f (l : List Int) (h : ∀ x ∈ l, U x) (hl : l.length * 8 ≤ 140737488351232) : ratchet_Run.f l = some (runL l) := by unfold ratchet_Run.f; rw [if_pos ⟨hl, h⟩]
theorem back_f (l : List Int) (h : ∀ x ∈ l, U x) (hl : l.length * 8 ≤ 140737488351232) : ratchet_Back.f l = some (backL l l.length) := by unfold ratchet_Back.f; rw [if_pos ⟨hl, h⟩]
theorem long_f (l : List Int) (h : ∀ x ∈ l, U x) (hl : l.length * 8 ≤ 140737488351232) : ratchet_Longest.f l = some (longL l l.length) := by unfold ratchet_Longest.f; rw [if_pos ⟨hl, h⟩]
theorem live25_ev : Ev (fun k => weighbridgelaw25_live.f k) true := ⟨10, fun k hk => by
  obtain ⟨d, rfl⟩ : ∃ d, k = d + 10 := ⟨k - 10, by omega⟩
  exact live25_k d⟩

theorem rstep_eq (a t : Int) (b : Bool) : ratchet_Step.f a b t = some (nowV a b t, IntKind.u64.wrap (dtV a b t)) := by
  unfold ratchet_Step.f nowV dtV
  cases b with
  | false => rw [if_neg (by simp), if_neg (by simp), if_neg (by simp)]; rfl
  | true =>
    rw [if_pos rfl]
    by_cases hc : t ≤ a
    · rw [if_pos hc, if_pos ⟨rfl, hc⟩, if_neg (by omega)]; rfl
    · rw [if_neg hc, if_neg (by omega), if_pos ⟨rfl, by omega⟩]
end Go.Proofs.Ytgidglbkmklajaa.P
