/- Part of the proof. -/
import Derived.Test.YtiaoaoebghnpkaaKA39
import Derived.Test.YtiaoaoebghnpkaaKA35
import Derived.Test.YtiaoaoebghnpkaaKA40
import Derived.Test.YtiaoaoebghnpkaaKA28
/- What the document's answers on curves come to, and the code's: plain numbers and lists. -/
namespace Go.Proofs.Ytiaoaoebghnpkaa.P.Cv
open Go.RowKit Go.Proofs.YtiaoaoebghnpkaaW.PrintWords Go.Proofs.YtiaoaoebghnpkaaW.PrintLast Go.Proofs.YtiaoaoebghnpkaaW.PrintMore

theorem w64_in {x : Int} (h : -9223372036854775808 ≤ x ∧ x < 9223372036854775808) : wrap64 x = x := by unfold wrap64; omega
theorem w64_up {j : Nat} (h : j < 1000000000) : wrap64 ((j : Int) + 1) = ((j + 1 : Nat) : Int) := by unfold wrap64; omega
def pairS (l : List S68) : List (Int × Int) := l.map fun x => (x.f0, x.f1)
theorem pairS_length (l : List S68) : (pairS l).length = l.length := List.length_map _
theorem pairS_get (l : List S68) (j : Nat) : (pairS l).getD j (0, 0) = ((l.getD j z68).f0, (l.getD j z68).f1) := by
  unfold pairS
  rw [List.getD_eq_getElem?_getD, List.getElem?_map, List.getD_eq_getElem?_getD]
  cases l[j]? <;> rfl
theorem tims_getD (l : List S68) (j : Nat) : (tims (pairS l)).getD j 0 = (l.getD j z68).f0 := by rw [tims_get, pairS_get]
theorem tims_length (l : List S68) : (tims (pairS l)).length = l.length := by unfold tims; rw [List.length_map, pairS_length]
theorem tims_U {l : List S68} (h : ∀ x ∈ l, U x.f0) : ∀ x ∈ tims (pairS l), U x := fun x hx => by
  unfold tims pairS at hx
  rw [List.map_map] at hx
  obtain ⟨y, hy, rfl⟩ := List.mem_map.1 hx
  exact h y hy
/-- Every packet may be. -/
def okS (l : List S68) : Prop := ∀ j, j < l.length → 0 ≤ (l.getD j z68).f1 ∧ (l.getD j z68).f1 ≤ 65575
theorem psum_succ (l : List S68) (k : Nat) : psum (pairS l) (k + 1) = psum (pairS l) k + (l.getD k z68).f1 := by
  show psum (pairS l) k + ((pairS l).getD k (0, 0)).2 = _
  rw [pairS_get]
theorem psum_in {l : List S68} (h : okS l) : ∀ k, k ≤ l.length → 0 ≤ psum (pairS l) k ∧ psum (pairS l) k ≤ 65575 * k
  | 0, _ => ⟨Int.le_refl _, Int.le_refl _⟩
  | k + 1, hk => by
    have h1 := psum_in h k (by omega)
    have h2 := h k (by omega)
    rw [psum_succ]
    omega
theorem psum_mono {l : List S68} (h : okS l) : ∀ d k, k + d ≤ l.length → psum (pairS l) k ≤ psum (pairS l) (k + d)
  | 0, _, _ => Int.le_refl _
  | d + 1, k, hk => by
    have h1 := psum_mono h d k (by omega)
    have h2 := h (k + d) (by omega)
    have h3 := psum_succ l (k + d)
    show _ ≤ psum (pairS l) (k + d + 1)
    omega
theorem chkL_ok {l : List S68} (h : okS l) : ∀ d i, i + d = l.length → chkL l d i = (0, 0)
  | 0, _, _ => rfl
  | d + 1, i, hi => by
    have := h i (by omega)
    unfold chkL
    rw [if_neg (by omega)]
    exact chkL_ok h d (i + 1) (by omega)
theorem chk_ok {l : List S68} (h : okS l) : chkC l = (0, 0) := chkL_ok h _ 0 (by omega)
theorem chk_cases (l : List S68) : okS l ∨ ∃ j : Nat, j < l.length ∧ chkC l = (1, (j : Int)) := by
  rcases chkL_eq (l := l) l.length 0 (by omega) with ⟨_, h⟩ | ⟨j, _, h2, e⟩
  · exact .inl fun j hj => h j (Nat.zero_le _) hj
  · exact .inr ⟨j, h2, e⟩

/-- How much comes in all. -/
def totV (l : List S68) : Int × Int × Int := if (chkC l).1 = 0 then (psum (pairS l) l.length, 0, 0) else (0, (chkC l).1, (chkC l).2)
theorem rtotal_l0 {l : List S68} (h : okS l) (hl : l.length ≤ 1000000) : ∀ d i, i + d = l.length → Ev (fun n => weighbridgeref29_Total.l0 n l (psum (pairS l) i) (i : Int)) (psum (pairS l) l.length, 0, 0)
  | 0, i, hi => by
    obtain rfl : i = l.length := by omega
    refine Ev.step (f := fun _ => some (psum (pairS l) l.length, 0, 0)) (fun n => ?_) (Ev.now _)
    simp only [weighbridgeref29_Total.l0]
    rw [if_neg (by omega)]
  | d + 1, i, hi => by
    have h1 := psum_in h i (by omega)
    have h2 := h i (by omega)
    refine Ev.step (f := fun n => weighbridgeref29_Total.l0 n l (psum (pairS l) (i + 1)) ((i + 1 : Nat) : Int)) (fun n => ?_) (rtotal_l0 h hl d (i + 1) (by omega))
    simp only [weighbridgeref29_Total.l0]
    rw [if_pos (by omega), if_pos (by omega), rdT_nat, w64_up (by omega), psum_succ, w64_in (by omega)]
theorem rtotal_ev {l : List S68} (hl : l.length ≤ 1000000) : Ev (fun n => weighbridgeref29_Total.f n l) (totV l) := by
  refine Ev.bind (rcheck_ev (by omega)) ?_
  rcases chk_cases l with h | ⟨j, _, e⟩
  · unfold totV
    rw [chk_ok h]
    refine Ev.congr (fun n => ?_) (rtotal_l0 h hl l.length 0 (by omega))
    rw [if_pos rfl]
    rfl
  · unfold totV
    rw [e]
    exact Ev.now _
theorem total_l0 {l : List S68} (h : okS l) (hl : l.length ≤ 1000000) : ∀ d i, i + d = l.length → Ev (fun n => curve_Total.l0 n (psum (pairS l) i) l (l.length : Int) (i : Int)) (psum (pairS l) l.length, 0, 0)
  | 0, i, hi => by
    obtain rfl : i = l.length := by omega
    refine Ev.step (f := fun _ => some (psum (pairS l) l.length, 0, 0)) (fun n => ?_) (Ev.now _)
    simp only [curve_Total.l0]
    rw [if_neg (by omega)]
  | d + 1, i, hi => by
    have h1 := psum_in h i (by omega)
    have h2 := h i (by omega)
    refine Ev.step (f := fun n => curve_Total.l0 n (psum (pairS l) (i + 1)) l (l.length : Int) ((i + 1 : Nat) : Int)) (fun n => ?_) (total_l0 h hl d (i + 1) (by omega))
    simp only [curve_Total.l0]
    rw [if_pos (by omega), if_pos (by omega), if_pos (by omega), rdT_nat, w64_up (by omega), psum_succ, w64_in (by omega)]
theorem total_ev {l : List S68} (hl : l.length ≤ 1000000) : Ev (fun n => curve_Total.f n l) (totV l) := by
  refine Ev.bind (check_ev (by omega)) ?_
  rcases chk_cases l with h | ⟨j, _, e⟩
  · unfold totV
    rw [chk_ok h]
    refine Ev.congr (fun n => ?_) (total_l0 h hl l.length 0 (by omega))
    rw [if_pos rfl]
    rfl
  · unfold totV
    rw [e]
    exact Ev.now _

/-- Packets from the i-th one to the j-th one. -/
def cutS (l : List S68) (i j : Nat) : List S68 := (l.take (j + 1)).drop i
theorem cut_length {l : List S68} {i j : Nat} (hj : j < l.length) : (cutS l i j).length = j + 1 - i := by
  unfold cutS
  rw [List.length_drop, List.length_take]
  omega
theorem cut_get {l : List S68} {i j k : Nat} (hk : i + k ≤ j) : (cutS l i j).getD k z68 = l.getD (i + k) z68 := by
  unfold cutS
  rw [List.getD_eq_getElem?_getD, List.getElem?_drop, List.getElem?_take, if_pos (by omega), ← List.getD_eq_getElem?_getD]
theorem cut_ok {l : List S68} (h : okS l) {i j : Nat} (hj : j < l.length) : okS (cutS l i j) := fun k hk => by
  rw [cut_length hj] at hk
  rw [cut_get (by omega)]
  exact h _ (by omega)
theorem cut_psum {l : List S68} {i j : Nat} (hij : i ≤ j + 1) : ∀ k, i + k ≤ j + 1 → psum (pairS (cutS l i j)) k = psum (pairS l) (i + k) - psum (pairS l) i
  | 0, _ => (Int.sub_self _).symm
  | k + 1, hk => by
    have h1 := cut_psum (l := l) (i := i) (j := j) hij k (by omega)
    have h2 := psum_succ l (i + k)
    rw [psum_succ, cut_get (by omega), h1]
    show _ = psum (pairS l) (i + k + 1) - _
    omega
theorem mulR_f {x y : Int} (hx : U x) (hy : U y) : weighbridgeref02_Mul.f x y = some (hi (x * y), lo (x * y)) := by unfold weighbridgeref02_Mul.f; rw [if_pos ⟨hx, hy⟩]
theorem lessR_f {x y : Int} (hx : V x) (hy : V y) : weighbridgeref02_Less.f (hi x) (lo x) (hi y) (lo y) = some (decide (x < y)) := by
  unfold weighbridgeref02_Less.f
  rw [if_pos ⟨U_hi _, U_lo _, U_hi _, U_lo _⟩, wd_hi_lo hx, wd_hi_lo hy]
theorem subR_f {x y : Int} (hx : V x) (hy : V y) : weighbridgeref02_Sub.f (hi x) (lo x) (hi y) (lo y) = some (hi (x - y), lo (x - y), decide (x < y)) := by
  unfold weighbridgeref02_Sub.f
  rw [if_pos ⟨U_hi _, U_lo _, U_hi _, U_lo _⟩, wd_hi_lo hx, wd_hi_lo hy]
theorem nanoU : U 1000000000 := by unfold U; omega
theorem U_small {x : Int} (h : 0 ≤ x ∧ x ≤ 70000000000) : U x := by unfold U; omega
theorem wU {x : Int} (h : U x) : IntKind.u64.wrap x = x := wrap_in h

/-- How much more than a rate lets go comes from one packet to another one; 0, if no more. -/
def overV (rate : Int) (l : List S68) (i j : Nat) : Int := lessV ((psum (pairS l) (j + 1) - psum (pairS l) i) * 1000000000) (rate * (mst (tims (pairS l)) (j + 1) - mst (tims (pairS l)) (i + 1)))
theorem gap_U {l : List S68} (hU : ∀ x ∈ l, U x.f0) {i j : Nat} (hij : i ≤ j) : U (mst (tims (pairS l)) (j + 1) - mst (tims (pairS l)) (i + 1)) := by
  have h1 := mst_mono (tims (pairS l)) (tims_U hU) (j - i) (i + 1)
  have h2 := U_mst (tims_U hU) (j + 1)
  have h3 := U_mst (tims_U hU) (i + 1)
  rw [show i + 1 + (j - i) = j + 1 by omega] at h1
  unfold U at *
  omega
theorem over_l0 {l : List S68} {rate : Int} (h : okS l) (hl : l.length ≤ 1000000) (hr : U rate) (hU : ∀ x ∈ l, U x.f0) {i j : Nat} (hij : i ≤ j) (hj : j < l.length) :
    ∀ d c, c + d = j + 1 → Ev (fun n => weighbridgeref29_over.l0 n l rate (i : Int) (j : Int) ((tims (pairS l)).take c) (psum (pairS l) (j + 1) - psum (pairS l) i) (c : Int)) (hi (overV rate l i j), lo (overV rate l i j))
  | 0, c, hc => by
    obtain rfl : c = j + 1 := by omega
    have hlt : ((tims (pairS l)).take (j + 1)).length = j + 1 := by rw [List.length_take, tims_length]; omega
    obtain ⟨K, hK⟩ := run25_ev ((tims (pairS l)).take (j + 1)) (fun x hx => tims_U hU x (List.mem_of_mem_take hx)) (by omega)
    have ug := gap_U (l := l) hU hij
    have h1 := psum_in h (j + 1) (by omega)
    have h2 := psum_in h i (by omega)
    have h3 := psum_mono h (j + 1 - i) i (by omega)
    rw [show i + (j + 1 - i) = j + 1 by omega] at h3
    have us : U (psum (pairS l) (j + 1) - psum (pairS l) i) := U_small (by omega)
    have va := V_mul us nanoU
    have vb := V_mul hr ug
    have g1 : rd (runL ((tims (pairS l)).take (j + 1))) (j : Int) = mst (tims (pairS l)) (j + 1) := by rw [rd_nat, runL_get _ _ (by omega), mst_take _ _ _ (by omega)]
    have g2 : rd (runL ((tims (pairS l)).take (j + 1))) (i : Int) = mst (tims (pairS l)) (i + 1) := by rw [rd_nat, runL_get _ _ (by omega), mst_take _ _ _ (by omega)]
    have hrl := runL_length ((tims (pairS l)).take (j + 1))
    refine ⟨K + 1, fun n hn => ?_⟩
    obtain ⟨m, rfl⟩ : ∃ m, n = m + 1 := ⟨n - 1, by omega⟩
    have e0 := hK m (by omega)
    dsimp only at e0
    simp only [weighbridgeref29_over.l0]
    rw [if_neg (by omega), e0]
    simp only [Option.bind_some]
    rw [wU us, mulR_f us nanoU]
    simp only [Option.bind_some]
    rw [if_pos (by omega), if_pos (by omega), if_pos (by omega), if_pos (by omega), g1, g2, wU ug, mulR_f hr ug]
    simp only [Option.bind_some]
    rw [lessR_f va vb]
    simp only [Option.bind_some]
    unfold overV lessV
    by_cases hc : (psum (pairS l) (j + 1) - psum (pairS l) i) * 1000000000 < rate * (mst (tims (pairS l)) (j + 1) - mst (tims (pairS l)) (i + 1))
    · rw [if_pos (decide_eq_true hc), if_pos hc]
      rfl
    · rw [if_neg (by simpa using hc), if_neg hc, subR_f va vb]
      rfl
  | d + 1, c, hc => by
    refine Ev.step (f := fun n => weighbridgeref29_over.l0 n l rate (i : Int) (j : Int) ((tims (pairS l)).take (c + 1)) (psum (pairS l) (j + 1) - psum (pairS l) i) ((c + 1 : Nat) : Int)) (fun n => ?_) (over_l0 h hl hr hU hij hj d (c + 1) (by omega))
    have e : (tims (pairS l)).take (c + 1) = (tims (pairS l)).take c ++ [(l.getD c z68).f0] := by
      rw [List.take_succ_eq_append_getElem (by rw [tims_length]; omega), ← tims_getD, List.getD_eq_getElem?_getD, List.getElem?_eq_getElem (by rw [tims_length]; omega)]
      rfl
    simp only [weighbridgeref29_over.l0]
    rw [if_pos (by omega), if_pos (by omega), if_pos (by omega), if_pos (by rw [List.length_take]; omega), rdT_nat, w64_up (by omega), e]
theorem over_ev {l : List S68} {rate : Int} (h : okS l) (hl : l.length ≤ 1000000) (hr : U rate) (hU : ∀ x ∈ l, U x.f0) {i j : Nat} (hij : i ≤ j) (hj : j < l.length) :
    Ev (fun n => weighbridgeref29_over.f n l rate (i : Int) (j : Int)) (hi (overV rate l i j), lo (overV rate l i j)) := by
  have e : totV (cutS l i j) = (psum (pairS l) (j + 1) - psum (pairS l) i, 0, 0) := by
    unfold totV
    rw [chk_ok (cut_ok h hj), if_pos rfl, cut_length hj, cut_psum (by omega) _ (by omega), show i + (j + 1 - i) = j + 1 by omega]
  have h1 := rtotal_ev (l := cutS l i j) (by rw [cut_length hj]; omega)
  rw [e] at h1
  refine Ev.congr (fun n => ?_) (Ev.bind h1 (f := fun n bt => weighbridgeref29_over.l0 n l rate (i : Int) (j : Int) ([] : List Int) bt.1 0) (over_l0 h hl hr hU hij hj (j + 1) 0 (by omega)))
  unfold weighbridgeref29_over.f
  rw [w64_up (by omega), if_pos (by omega), if_pos (by omega), if_pos (by omega), Int.toNat_natCast, Int.toNat_natCast]
  rfl
theorem over_V {l : List S68} {rate : Int} (h : okS l) (hl : l.length ≤ 1000000) (hr : U rate) (hU : ∀ x ∈ l, U x.f0) {i j : Nat} (hij : i ≤ j) (hj : j < l.length) : V (overV rate l i j) := by
  have h1 := psum_in h (j + 1) (by omega)
  have h2 := psum_in h i (by omega)
  have h3 := psum_mono h (j + 1 - i) i (by omega)
  rw [show i + (j + 1 - i) = j + 1 by omega] at h3
  exact V_less (V_mul (U_small (by omega)) nanoU) (V_mul hr (gap_U hU hij))

/-- The first packet from which on more than a burst comes up to the j-th one. -/
def fiI (most rate : Int) (l : List S68) (j : Nat) : Nat → Nat → Option Nat
  | 0, _ => none
  | d + 1, i => if most < overV rate l i j then some i else fiI most rate l j d (i + 1)
theorem fiI_spec {most rate : Int} {l : List S68} {j : Nat} : ∀ d i, (fiI most rate l j d i = none ∧ ∀ k, i ≤ k → k < i + d → ¬ most < overV rate l k j) ∨
    ∃ k, fiI most rate l j d i = some k ∧ i ≤ k ∧ k < i + d ∧ most < overV rate l k j ∧ ∀ m, i ≤ m → m < k → ¬ most < overV rate l m j
  | 0, i => .inl ⟨rfl, fun k h1 h2 => absurd h2 (by omega)⟩
  | d + 1, i => by
    unfold fiI
    by_cases h : most < overV rate l i j
    · rw [if_pos h]
      exact .inr ⟨i, rfl, Nat.le_refl _, by omega, h, fun m h1 h2 => absurd h2 (by omega)⟩
    · rw [if_neg h]
      rcases fiI_spec (most := most) (rate := rate) (l := l) (j := j) d (i + 1) with ⟨e, hall⟩ | ⟨k, e, h1, h2, h3, h4⟩
      · refine .inl ⟨e, fun k h1 h2 => ?_⟩
        rcases Nat.eq_or_lt_of_le h1 with h' | h'
        · exact h' ▸ h
        · exact hall k h' (by omega)
      · refine .inr ⟨k, e, by omega, by omega, h3, fun m h5 h6 => ?_⟩
        rcases Nat.eq_or_lt_of_le h5 with h' | h'
        · exact h' ▸ h
        · exact h4 m h' h6
def pickI (o : Option Nat) (j : Nat) (r : Int × Int × Int × Int) : Int × Int × Int × Int := match o with
  | some i => ((i : Int), (j : Int), 17, (j : Int))
  | none => r
/-- The first packets between which more comes. -/
def fiJ (most rate : Int) (l : List S68) : Nat → Nat → Int × Int × Int × Int
  | 0, _ => (0, 0, 0, 0)
  | d + 1, j => pickI (fiI most rate l j (j + 1) 0) j (fiJ most rate l d (j + 1))
/-- What Breaks tells. -/
def brkV (rate burst : Int) (l : List S68) : Int × Int × Int × Int := if (chkC l).1 = 0 then fiJ (burst * 1000000000) rate l l.length 0 else (0, 0, (chkC l).1, (chkC l).2)
end Go.Proofs.Ytiaoaoebghnpkaa.P.Cv
