/- The answer is as the document says. -/
import Derived.Test.YtgidglbkmklajaaPureR
import Derived.Test.YtgidglbkmklajaaPF5
namespace Go.Proofs.Ytgidglbkmklajaa.Pure
open Go.RowKit Go.Proofs.Ytgidglbkmklajaa.P Go.Proofs.YtgidglbkmklajaaW.PrintWords Go.Proofs.YtgidglbkmklajaaW.PrintLast

theorem runL_U {l : List Int} (h : ∀ x ∈ l, U x) : ∀ x ∈ runL l, U x := fun x hx => by
  unfold runL at hx
  obtain ⟨k, _, rfl⟩ := List.mem_map.1 hx
  exact U_mst h _
theorem mst_run (l : List Int) (h : ∀ x ∈ l, U x) : ∀ k, k < l.length → mst (runL l) (k + 1) = mst l (k + 1)
  | 0, hk => by
    show nowV 0 false ((runL l).getD 0 0) = _
    rw [runL_get l 0 hk]
    rfl
  | k + 1, hk => by
    have e : mst (runL l) (k + 1 + 1) = nowV (mst (runL l) (k + 1)) (decide (0 < k + 1)) ((runL l).getD (k + 1) 0) := rfl
    have hm := mst_le l h (k + 1)
    rw [e, mst_run l h k (by omega), runL_get l (k + 1) hk]
    unfold nowV
    split
    case isTrue h1 => have := h1.2; omega
    case isFalse h1 => rfl
theorem runL_run (l : List Int) (h : ∀ x ∈ l, U x) : runL (runL l) = runL l := by
  refine List.ext_getElem (by rw [runL_length]) fun i h1 h2 => ?_
  rw [runL_length] at h2
  have e1 := runL_get (runL l) i (by rw [runL_length]; omega)
  have e2 := runL_get l i h2
  rw [List.getD_eq_getElem?_getD, List.getElem?_eq_getElem h1] at e1
  rw [List.getD_eq_getElem?_getD, List.getElem?_eq_getElem (by rw [runL_length]; omega)] at e2
  rw [mst_run l h i h2] at e1
  exact e1.trans e2.symm
theorem backL_run (l : List Int) (h : ∀ x ∈ l, U x) : ∀ k, k ≤ l.length → backL (runL l) k = []
  | 0, _ => rfl
  | k + 1, hk => by
    rw [backL_succ, backL_run l h k (by omega), mst_run l h k (by omega), runL_get l k (by omega), if_neg (Int.lt_irrefl _)]
theorem mst_first (l : List Int) (h : ∀ x ∈ l, U x) : ∀ j, 0 < j → mst l 1 ≤ mst l j
  | 1, _ => Int.le_refl _
  | j + 2, _ => Int.le_trans (mst_first l h (j + 1) (by omega)) (mst_le l h (j + 1))
/-- How far it came after j ones. -/
def smL (l : List Int) (j : Nat) : Int := if j = 0 then 0 else mst l j - mst l 1
theorem smL_succ (l : List Int) (h : ∀ x ∈ l, U x) (j : Nat) : IntKind.u64.wrap (smL l j + dtt l j) = smL l (j + 1) := by
  have hU := U_mst h (j + 1)
  have h1 := U_mst h 1
  have hm := mst_first l h (j + 1) (by omega)
  have e : smL l j + dtt l j = smL l (j + 1) := by
    unfold smL
    rw [if_neg (show ¬ (j + 1 = 0) by omega)]
    rcases Nat.eq_zero_or_pos j with rfl | hj
    · rw [if_pos rfl]
      have : dtt l 0 = 0 := by unfold dtt dtV; rw [if_neg (by simp)]
      rw [this]
      show (0 : Int) + 0 = mst l 1 - mst l 1
      omega
    · rw [if_neg (by omega), dtt_eq l j hj]; omega
  rw [e, wrap_lo, lo_of_U]
  unfold smL
  rw [if_neg (show ¬ (j + 1 = 0) by omega)]
  unfold U at *; omega

theorem agrees_j1 (l : List Int) (h : ∀ x ∈ l, U x) (h8 : l.length * 8 ≤ 140737488351232) : Ev (fun k => weighbridgelaw25_RatchetAgrees.j1 k (runL l) false) true := by
  have hr := runL_U h
  have hl : l.length ≤ 17592186044416 := by omega
  refine Ev.step (f := fun k => (weighbridgelaw25_live.f k).bind fun t111 => (if t111 = true then ((ratchet_Run.f (runL l)).bind fun t112 => ((weighbridgeref25_Same.f k t112 (runL l)).bind fun t115 => (if t115 = true then ((ratchet_Back.f (runL l)).bind fun t116 => (some ((t116.length : Int) == 0))) else (none)))) else (none))) (fun k => ?_) ?_
  · simp only [weighbridgelaw25_RatchetAgrees.j1]
    rw [if_neg (show ¬ (false = true) by simp)]
  refine Ev.bind live25_ev ?_
  refine Ev.congr (fun k => if_pos rfl) ?_
  rw [run_f (runL l) hr (by rw [runL_length]; exact h8), runL_run l h]
  refine Ev.congr (fun k => Option.bind_some _ _) ?_
  refine Ev.bind (same25_ev (runL l) (by rw [runL_length]; omega)) ?_
  refine Ev.congr (fun k => if_pos rfl) ?_
  rw [back_f (runL l) hr (by rw [runL_length]; exact h8), runL_length, backL_run l h l.length (Nat.le_refl _)]
  exact Ev.now _

theorem agrees_l0 (l : List Int) (h : ∀ x ∈ l, U x) (h8 : l.length * 8 ≤ 140737488351232) : ∀ (d j : Nat), j + d = l.length →
    Ev (fun k => weighbridgelaw25_RatchetAgrees.l0 k l (runL l) (mst l j) (smL l j) (j : Int)) true
  | 0, j, e => by
    refine Ev.step (f := fun k => weighbridgelaw25_RatchetAgrees.j1 k (runL l) false) (fun k => ?_) (agrees_j1 l h h8)
    simp only [weighbridgelaw25_RatchetAgrees.l0]
    rw [if_neg (show ¬ ((j : Int) < (l.length : Int)) by omega)]
    rcases Nat.eq_zero_or_pos j with h0 | h0
    · rw [if_neg (show ¬ ((l.length : Int) > 0) by omega)]
    · have q1 : wrap64 ((l.length : Int) - 1) = ((j - 1 : Nat) : Int) := by unfold wrap64; omega
      have q2 : ((j - 1 : Nat) : Int) < ((runL l).length : Int) := by rw [runL_length]; omega
      have q3 : (0 : Int) < ((runL l).length : Int) := by rw [runL_length]; omega
      have q4 : rd (runL l) 0 = mst l 1 := (rd_nat (runL l) 0).trans (runL_get l 0 (by omega))
      have q5 : mst l (j - 1 + 1) - mst l 1 = smL l j := by
        unfold smL
        rw [if_neg (by omega), show j - 1 + 1 = j from by omega]
      have q6 : U (smL l j) := by
        have hU := U_mst h j
        have h1 := U_mst h 1
        have hm := mst_first l h j h0
        unfold smL
        rw [if_neg (by omega)]
        unfold U at *; omega
      rw [if_pos (show (l.length : Int) > 0 by omega), q1, if_pos (show (0 : Int) ≤ ((j - 1 : Nat) : Int) by omega), if_pos q2, if_pos q3, rd_nat, runL_get l (j - 1) (by omega), q4, q5, wrap_lo, lo_of_U q6]
      rw [show (smL l j != smL l j) = false from bne_self_eq_false _]
  | d + 1, j, e => by
    have hj : j < l.length := by omega
    refine Ev.step (f := fun k => weighbridgelaw25_RatchetAgrees.l0 k l (runL l) (mst l (j + 1)) (smL l (j + 1)) ((j + 1 : Nat) : Int)) (fun k => ?_) (agrees_l0 l h h8 d (j + 1) (by omega))
    simp only [weighbridgelaw25_RatchetAgrees.l0]
    have hU := U_dtt h j
    have e1 : decide ((j : Int) > 0) = decide (0 < j) := by
      by_cases h0 : 0 < j
      · simp [h0]
      · simp [h0]
    have e2 : nowV (mst l j) (decide (0 < j)) (l.getD j 0) = mst l (j + 1) := rfl
    have e3 : IntKind.u64.wrap (dtV (mst l j) (decide (0 < j)) (l.getD j 0)) = dtt l j := by
      show IntKind.u64.wrap (dtt l j) = dtt l j
      rw [wrap_lo, lo_of_U hU]
    have hg := get_le l j
    rw [if_pos (show (j : Int) < (l.length : Int) by omega), if_pos (show (0 : Int) ≤ (j : Int) by omega), rd_nat, rd_nat, e1, rstep_eq, e2, e3, runL_get l j hj]
    simp only [Option.bind_some]
    rw [if_pos (show (j : Int) < ((runL l).length : Int) by rw [runL_length]; omega), if_pos trivial, if_neg (show ¬ (mst l (j + 1) < l.getD j 0) by omega), smL_succ l h j, wrap_up hj (by omega)]
    by_cases h0 : (j : Int) > 0
    · have e4 : IntKind.u64.wrap (mst l (j + 1) - mst l j) = dtt l j := by
        rw [← dtt_eq l j (by omega), wrap_lo, lo_of_U hU]
      rw [if_pos h0, e4, if_pos rfl]
    · rw [if_neg h0]

theorem RatchetAgrees : weighbridgelaw25_RatchetAgrees.Pure := by
  intro l hmax h8 hwf
  have h := U_wfL hwf
  refine Ev.rounds (r := true) (g := fun k => weighbridgelaw25_RatchetAgrees.f k l) ?_
  unfold weighbridgelaw25_RatchetAgrees.f
  rw [run_f l h h8]
  refine Ev.congr (fun k => Option.bind_some _ _) ?_
  refine Ev.congr (fun k => if_pos (show ((runL l).length : Int) = (l.length : Int) by rw [runL_length])) ?_
  exact agrees_l0 l h h8 l.length 0 (by omega)
end Go.Proofs.Ytgidglbkmklajaa.Pure
