/- Part of the proof. -/
import Derived.Test.YtiaoaoebghnpkaaKA42
import Derived.Test.YtiaoaoebghnpkaaKA30
/- What the code's answers on curves come to, in closed form: the same as the document's. -/
namespace Go.Proofs.Ytiaoaoebghnpkaa.P.Cv
open Go.RowKit Go.Proofs.YtiaoaoebghnpkaaW.PrintWords Go.Proofs.YtiaoaoebghnpkaaW.PrintLast Go.Proofs.YtiaoaoebghnpkaaW.PrintMore

theorem mul_f {x y : Int} (hx : U x) (hy : U y) : wide_Mul.f x y = some (hi (x * y), lo (x * y)) := by unfold wide_Mul.f; rw [if_pos ⟨hx, hy⟩]
theorem less_f {x y : Int} (hx : V x) (hy : V y) : wide_Less.f (hi x) (lo x) (hi y) (lo y) = some (decide (x < y)) := by
  unfold wide_Less.f
  rw [if_pos ⟨U_lo _, U_lo _⟩, wd_hi_lo hx, wd_hi_lo hy]
theorem cless_f {a b : Int} (ha : V a) (hb : V b) : curve_less.f (hi a) (lo a) (hi b) (lo b) = some (hi (lessV a b), lo (lessV a b)) := by
  unfold curve_less.f wide_Sub.f
  rw [if_pos ⟨U_lo _, U_lo _⟩]
  simp only [Option.bind_some]
  rw [wd_hi_lo ha, wd_hi_lo hb]
  unfold lessV
  by_cases h : a < b
  · rw [if_pos (decide_eq_true h), if_pos h]
    rfl
  · rw [if_neg (by simpa using h), if_neg h]
def getI (o : Option Nat) (j : Nat) : Int := match o with
  | some i => (i : Int)
  | none => (j : Int)
theorem from_l1 {l : List S68} {rate most : Int} (h : okS l) (hl : l.length ≤ 1000000) (hr : U rate) (hm : V most) (hU : ∀ x ∈ l, U x.f0) {j : Nat} (hj : j < l.length) :
    ∀ c d, c + d = j + 1 → Ev (fun n => curve_from.l1 n l rate (j : Int) (runL ((tims (pairS l)).take (j + 1))) (getI (fiI most rate l j d c) j) (psum (pairS l) (j + 1) - psum (pairS l) c) ((c : Int) - 1) (hi most) (lo most)) (getI (fiI most rate l j (j + 1) 0) j) := by
  intro c
  induction c with
  | zero =>
    intro d hd
    obtain rfl : d = j + 1 := by omega
    refine Ev.step (f := fun _ => some (getI (fiI most rate l j (j + 1) 0) j)) (fun n => ?_) (Ev.now _)
    simp only [curve_from.l1]
    rw [if_neg (by omega)]
  | succ c ih =>
    intro d hd
    have hrec := ih (d + 1) (by omega)
    obtain ⟨K, hK⟩ := hrec
    have hlt : ((tims (pairS l)).take (j + 1)).length = j + 1 := by rw [List.length_take, tims_length]; omega
    have g1 : rd (runL ((tims (pairS l)).take (j + 1))) (j : Int) = mst (tims (pairS l)) (j + 1) := by rw [rd_nat, runL_get _ _ (by omega), mst_take _ _ _ (by omega)]
    have g2 : rd (runL ((tims (pairS l)).take (j + 1))) (c : Int) = mst (tims (pairS l)) (c + 1) := by rw [rd_nat, runL_get _ _ (by omega), mst_take _ _ _ (by omega)]
    have hrl := runL_length ((tims (pairS l)).take (j + 1))
    have ug := gap_U (l := l) hU (show c ≤ j by omega)
    have h1 := psum_in h (j + 1) (by omega)
    have h2 := psum_in h c (by omega)
    have h3 := psum_mono h (j + 1 - c) c (by omega)
    have h4 := h c (by omega)
    have h5 := psum_succ l c
    rw [show c + (j + 1 - c) = j + 1 by omega] at h3
    have us : U (psum (pairS l) (j + 1) - psum (pairS l) c) := U_small (by omega)
    have va := V_mul us nanoU
    have vb := V_mul hr ug
    have e1 : IntKind.u64.wrap (psum (pairS l) (j + 1) - psum (pairS l) (c + 1) + IntKind.u64.wrap (l.getD c z68).f1) = psum (pairS l) (j + 1) - psum (pairS l) c := by
      rw [wU (show U (l.getD c z68).f1 by unfold U; omega), show psum (pairS l) (j + 1) - psum (pairS l) (c + 1) + (l.getD c z68).f1 = psum (pairS l) (j + 1) - psum (pairS l) c by omega, wU us]
    have e2 : ((c + 1 : Nat) : Int) - 1 = (c : Int) := by omega
    have e3 : wrap64 ((c : Int) - 1) = (c : Int) - 1 := w64_in (by omega)
    have vo := over_V h hl hr hU (show c ≤ j by omega) hj
    have hov : lessV ((psum (pairS l) (j + 1) - psum (pairS l) c) * 1000000000) (rate * (mst (tims (pairS l)) (j + 1) - mst (tims (pairS l)) (c + 1))) = overV rate l c j := rfl
    refine ⟨K + 1, fun n hn => ?_⟩
    obtain ⟨m, rfl⟩ : ∃ m, n = m + 1 := ⟨n - 1, by omega⟩
    have eK := hK m (by omega)
    dsimp only at eK
    simp only [curve_from.l1]
    rw [e2, if_pos (by omega), if_pos (by omega), if_pos (by omega), if_pos (by omega), if_pos (by omega), if_pos (by omega), g1, g2, rdT_nat, e1, e3, wU ug]
    refine obind (mul_f hr ug) (obind (mul_f us nanoU) (obind (cless_f va vb) ?_))
    rw [hov]
    refine obind (less_f hm vo) ?_
    unfold fiI at eK
    by_cases hc : most < overV rate l c j
    · rw [if_pos (decide_eq_true hc)]
      rw [if_pos hc] at eK
      exact eK
    · rw [if_neg (by simpa using hc)]
      rw [if_neg hc] at eK
      exact eK
theorem set_next (acc : List Int) (d : Nat) (v : Int) : (acc ++ List.replicate (d + 1) 0).set acc.length v = (acc ++ [v]) ++ List.replicate d 0 := by
  rw [List.set_append_right _ _ (Nat.le_refl _), Nat.sub_self, List.replicate_succ, List.set_cons_zero]
  simp
theorem take_up {l : List S68} {c : Nat} (hc : c < l.length) : (tims (pairS l)).take (c + 1) = (tims (pairS l)).take c ++ [(l.getD c z68).f0] := by
  rw [List.take_succ_eq_append_getElem (by rw [tims_length]; omega), ← tims_getD, List.getD_eq_getElem?_getD, List.getElem?_eq_getElem (by rw [tims_length]; omega)]
  rfl
theorem from_l0 {l : List S68} {rate most : Int} (h : okS l) (hl : l.length ≤ 1000000) (hr : U rate) (hm : V most) (hU : ∀ x ∈ l, U x.f0) {j : Nat} (hj : j < l.length) :
    ∀ d c, c + d = j + 1 → Ev (fun n => curve_from.l0 n l rate (j : Int) ((tims (pairS l)).take c ++ List.replicate d 0) ((j + 1 : Nat) : Int) (c : Int) (hi most) (lo most)) (getI (fiI most rate l j (j + 1) 0) j) := by
  intro d
  induction d with
  | zero =>
    intro c hc
    obtain rfl : c = j + 1 := by omega
    have hlt : ((tims (pairS l)).take (j + 1)).length = j + 1 := by rw [List.length_take, tims_length]; omega
    obtain ⟨K, hK⟩ := from_l1 h hl hr hm hU hj (j + 1) 0 (by omega)
    refine ⟨K + 1, fun n hn => ?_⟩
    obtain ⟨m, rfl⟩ : ∃ m, n = m + 1 := ⟨n - 1, by omega⟩
    have eK := hK m (by omega)
    dsimp only at eK
    have er : ratchet_Run.f ((tims (pairS l)).take (j + 1)) = some (runL ((tims (pairS l)).take (j + 1))) := by
      unfold ratchet_Run.f
      rw [if_pos ⟨by omega, fun x hx => tims_U hU x (List.mem_of_mem_take hx)⟩]
    have e2 : ((j + 1 : Nat) : Int) - 1 = (j : Int) := by omega
    rw [e2, Int.sub_self] at eK
    simp only [curve_from.l0]
    rw [if_neg (by omega), List.replicate_zero, List.append_nil]
    exact obind er eK
  | succ d ih =>
    intro c hc
    have hct : ((tims (pairS l)).take c).length = c := by rw [List.length_take, tims_length]; omega
    refine Ev.step (f := fun n => curve_from.l0 n l rate (j : Int) ((tims (pairS l)).take (c + 1) ++ List.replicate d 0) ((j + 1 : Nat) : Int) ((c + 1 : Nat) : Int) (hi most) (lo most)) (fun n => ?_) (ih (c + 1) (by omega))
    have es := set_next ((tims (pairS l)).take c) d (l.getD c z68).f0
    rw [hct] at es
    simp only [curve_from.l0]
    rw [if_pos (by omega), if_pos (by omega), if_pos (by omega), if_pos (by rw [List.length_append, hct, List.length_replicate]; omega), rdT_nat, w64_up (by omega), Int.toNat_natCast, es, ← take_up (by omega)]
theorem from_ev {l : List S68} {rate most : Int} (h : okS l) (hl : l.length ≤ 1000000) (hr : U rate) (hm : V most) (hU : ∀ x ∈ l, U x.f0) {j : Nat} (hj : j < l.length) :
    Ev (fun n => curve_from.f n l rate (hi most) (lo most) (j : Int)) (getI (fiI most rate l j (j + 1) 0) j) := by
  refine Ev.congr (fun n => ?_) (from_l0 h hl hr hm hU hj (j + 1) 0 (by omega))
  unfold curve_from.f
  rw [w64_up (by omega), if_pos (by omega), Int.toNat_natCast, if_pos (by omega)]
  refine obind rfl ?_
  rw [List.length_replicate, List.take_zero, List.nil_append]
  rfl

/-- What waits, and what comes beyond a rate. -/
theorem overV_A (rate : Int) (l : List S68) (i j : Nat) : overV rate l i j = max (overA rate (pairS l) i j) 0 := lessV_eq _ _
theorem wq_bound {l : List S68} {rate : Int} (h : okS l) (hr : 0 ≤ rate) (hU : ∀ x ∈ l, U x.f0) : ∀ k, k ≤ l.length → 0 ≤ wq rate (pairS l) k ∧ wq rate (pairS l) k ≤ psum (pairS l) k * 1000000000
  | 0, _ => ⟨Int.le_refl _, Int.le_refl _⟩
  | k + 1, hk => by
    have h1 := wq_bound h hr hU k (by omega)
    have h2 := h k (by omega)
    have h3 := psum_succ l k
    have h4 := (U_dtt (tims_U hU) k).1
    have h5 : 0 ≤ rate * dtt (tims (pairS l)) k := Int.mul_nonneg hr h4
    have e : wq rate (pairS l) (k + 1) = lessV (wq rate (pairS l) k) (rate * dtt (tims (pairS l)) k) + (l.getD k z68).f1 * 1000000000 := by
      show _ + ((pairS l).getD k (0, 0)).2 * 1000000000 = _
      rw [pairS_get]
    rw [lessV_eq, Int.max_def] at e
    split at e <;> omega
theorem wq_V {l : List S68} {rate : Int} (h : okS l) (hl : l.length ≤ 1000000) (hr : U rate) (hU : ∀ x ∈ l, U x.f0) (k : Nat) (hk : k ≤ l.length) : V (wq rate (pairS l) k) := by
  have h1 := wq_bound h hr.1 hU k hk
  have h2 := psum_in h k hk
  unfold V
  omega
theorem wq_over {l : List S68} {rate most : Int} (hm : 0 ≤ most) {j : Nat} : (most < wq rate (pairS l) (j + 1)) ↔ ∃ i, i ≤ j ∧ most < overV rate l i j := by
  obtain ⟨h1, i, hi, h2⟩ := wq_most rate (pairS l) j
  constructor
  · intro hc
    exact ⟨i, hi, by rw [overV_A, ← h2, Int.max_def]; split <;> omega⟩
  · rintro ⟨k, hk, hc⟩
    have h3 := h1 k hk
    rw [overV_A, Int.max_def] at hc
    split at hc <;> omega
/-- What Breaks tells, as the code goes: from the j-th packet on. -/
def fjW (most rate : Int) (l : List S68) : Nat → Nat → Int × Int × Int × Int
  | 0, _ => (0, 0, 0, 0)
  | d + 1, j => if most < wq rate (pairS l) (j + 1) then (getI (fiI most rate l j (j + 1) 0) j, (j : Int), 17, (j : Int)) else fjW most rate l d (j + 1)
theorem fjW_eq {l : List S68} {rate most : Int} (hm : 0 ≤ most) : ∀ d j, j + d = l.length → fjW most rate l d j = fiJ most rate l d j
  | 0, _, _ => rfl
  | d + 1, j, hj => by
    unfold fjW fiJ
    have hw := wq_over (l := l) (rate := rate) (j := j) hm
    rcases fiI_spec (most := most) (rate := rate) (l := l) (j := j) (j + 1) 0 with ⟨e, hall⟩ | ⟨k, e, h1, h2, h3, h4⟩
    · rw [if_neg (fun hc => by
        obtain ⟨i, hi, hc⟩ := hw.1 hc
        exact hall i (Nat.zero_le _) (by omega) hc), e, fjW_eq hm d (j + 1) (by omega)]
      rfl
    · rw [if_pos (hw.2 ⟨k, by omega, h3⟩), e]
      rfl

/-- The most that waits behind the first k packets. -/
def mW (rate : Int) (l : List S68) : Nat → Int
  | 0 => 0
  | k + 1 => if mW rate l k < wq rate (pairS l) (k + 1) then wq rate (pairS l) (k + 1) else mW rate l k
theorem mW_in {l : List S68} {rate : Int} (h : okS l) (hr : 0 ≤ rate) (hU : ∀ x ∈ l, U x.f0) : ∀ k, k ≤ l.length → 0 ≤ mW rate l k ∧ mW rate l k ≤ psum (pairS l) k * 1000000000
  | 0, _ => ⟨Int.le_refl _, Int.le_refl _⟩
  | k + 1, hk => by
    have h1 := mW_in h hr hU k (by omega)
    have h2 := wq_bound h hr hU (k + 1) hk
    have h3 := h k (by omega)
    have h4 := psum_succ l k
    unfold mW
    split <;> omega
theorem mW_V {l : List S68} {rate : Int} (h : okS l) (hl : l.length ≤ 1000000) (hr : U rate) (hU : ∀ x ∈ l, U x.f0) (k : Nat) (hk : k ≤ l.length) : V (mW rate l k) := by
  have h1 := mW_in h hr.1 hU k hk
  have h2 := psum_in h k hk
  unfold V
  omega
theorem mx1_wq {l : List S68} {rate : Int} (h : okS l) (hr : 0 ≤ rate) (hU : ∀ x ∈ l, U x.f0) {j : Nat} (hj : j < l.length) {m : Int} (hm : 0 ≤ m) : mx1 rate l j (j + 1) 0 m = if m < wq rate (pairS l) (j + 1) then wq rate (pairS l) (j + 1) else m := by
  obtain ⟨h1, h2, h3⟩ := mx1_spec (rate := rate) (l := l) (j := j) (j + 1) 0 m
  obtain ⟨h4, i, hi, h5⟩ := wq_most rate (pairS l) j
  have h6 := h2 i (Nat.zero_le _) (by omega)
  rw [overV_A, ← h5, Int.max_def] at h6
  have h7 := (wq_bound h hr hU (j + 1) (by omega)).1
  rcases h3 with e | ⟨k, hk1, hk2, e⟩
  · rw [e] at h6 ⊢
    split at h6 <;> split <;> omega
  · have h8 := h4 k (by omega)
    rw [overV_A, Int.max_def] at e
    split at h6 <;> split at e <;> split <;> omega
theorem mx0_eq {l : List S68} {rate : Int} (h : okS l) (hr : 0 ≤ rate) (hU : ∀ x ∈ l, U x.f0) : ∀ d j, j + d = l.length → mx0 rate l d j (mW rate l j) = mW rate l l.length
  | 0, j, hj => by
    obtain rfl : j = l.length := by omega
    rfl
  | d + 1, j, hj => by
    unfold mx0
    rw [mx1_wq h hr hU (by omega) (mW_in h hr hU j (by omega)).1]
    exact mx0_eq h hr hU d (j + 1) (by omega)
/-- What Least tells. -/
def lstV (rate : Int) (l : List S68) : Int × Int × Int := if (chkC l).1 = 0 then (ceilN (mW rate l l.length), 0, 0) else (0, (chkC l).1, (chkC l).2)
theorem rleast_ev {l : List S68} {rate : Int} (hl : l.length ≤ 1000000) (hr : U rate) (hU : ∀ x ∈ l, U x.f0) : Ev (fun n => weighbridgeref29_Least.f n l rate) (lstV rate l) := by
  refine Ev.bind (rcheck_ev (by omega)) ?_
  unfold lstV
  rcases chk_cases l with h | ⟨j, _, e⟩
  · rw [chk_ok h]
    have e0 := mx0_eq h hr.1 hU l.length 0 (by omega)
    have h1 := mW_in h hr.1 hU l.length (Nat.le_refl _)
    have h2 := psum_in h l.length (Nat.le_refl _)
    have hz : V (mW rate l 0) := mW_V h hl hr hU 0 (Nat.zero_le _)
    have hrec := rleast_l0 h hl hr hU l.length 0 (mW rate l 0) (by omega) hz (by rw [e0]; omega)
    rw [e0] at hrec
    refine Ev.congr (fun n => ?_) hrec
    rw [if_pos rfl]
    rfl
  · rw [e]
    exact Ev.now _
end Go.Proofs.Ytiaoaoebghnpkaa.P.Cv
