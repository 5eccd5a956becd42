/- Part of the proof. -/
import Derived.Test.YtiaoaoebghnpkaaKA41
import Derived.Test.YtiaoaoebghnpkaaKA29
/- What the document's Breaks and Least come to. -/
namespace Go.Proofs.Ytiaoaoebghnpkaa.P.Cv
open Go.RowKit Go.Proofs.YtiaoaoebghnpkaaW.PrintWords Go.Proofs.YtiaoaoebghnpkaaW.PrintLast Go.Proofs.YtiaoaoebghnpkaaW.PrintMore

theorem obind {α β : Type} {x : Option α} {a : α} {f : α → Option β} {r : Option β} (h : x = some a) (k : f a = r) : x.bind f = r := by rw [h]; exact k
theorem rbreaks_l1 {l : List S68} {rate burst most : Int} (hm : burst * 1000000000 = most) (h : okS l) (hl : l.length ≤ 1000000) (hr : U rate) (hb : U burst) (hU : ∀ x ∈ l, U x.f0) {j : Nat} (hj : j < l.length) {r : Int × Int × Int × Int}
    (hn : Ev (fun n => weighbridgeref29_Breaks.l0 n l rate burst ((j + 1 : Nat) : Int)) r) :
    ∀ d i, i + d = j + 1 → Ev (fun n => weighbridgeref29_Breaks.l1 n l rate burst (j : Int) (i : Int)) (pickI (fiI most rate l j d i) j r) := by
  intro d
  induction d with
  | zero =>
    intro i hi
    refine Ev.step (f := fun n => weighbridgeref29_Breaks.l0 n l rate burst ((j + 1 : Nat) : Int)) (fun n => ?_) hn
    simp only [weighbridgeref29_Breaks.l1]
    rw [if_neg (by omega), w64_up (by omega)]
  | succ d ih =>
    intro i hi
    have vm : V most := hm ▸ V_mul hb nanoU
    obtain ⟨K, hK⟩ := over_ev h hl hr hU (show i ≤ j by omega) hj
    obtain ⟨K2, hK2⟩ := ih (i + 1) (by omega)
    refine ⟨K + K2 + 1, fun n hn => ?_⟩
    obtain ⟨m, rfl⟩ : ∃ m, n = m + 1 := ⟨n - 1, by omega⟩
    have e2 := hK m (by omega)
    have e3 := hK2 m (by omega)
    dsimp only at e2 e3
    simp only [weighbridgeref29_Breaks.l1]
    rw [if_pos (by omega)]
    refine obind (mulR_f hb nanoU) (obind e2 ?_)
    rw [hm]
    refine obind (lessR_f vm (over_V h hl hr hU (by omega) hj)) ?_
    unfold fiI
    by_cases hc : most < overV rate l i j
    · rw [if_pos (decide_eq_true hc), if_pos hc]
      rfl
    · rw [if_neg (by simpa using hc), if_neg hc, w64_up (by omega)]
      exact e3
theorem rbreaks_l0 {l : List S68} {rate burst most : Int} (hm : burst * 1000000000 = most) (h : okS l) (hl : l.length ≤ 1000000) (hr : U rate) (hb : U burst) (hU : ∀ x ∈ l, U x.f0) :
    ∀ d j, j + d = l.length → Ev (fun n => weighbridgeref29_Breaks.l0 n l rate burst (j : Int)) (fiJ most rate l d j)
  | 0, j, hj => by
    refine Ev.step (f := fun _ => some (0, 0, 0, 0)) (fun n => ?_) (Ev.now _)
    simp only [weighbridgeref29_Breaks.l0]
    rw [if_neg (by omega)]
  | d + 1, j, hj => by
    refine Ev.step (f := fun n => weighbridgeref29_Breaks.l1 n l rate burst (j : Int) ((0 : Nat) : Int)) (fun n => ?_) (rbreaks_l1 hm h hl hr hb hU (show j < l.length by omega) (rbreaks_l0 hm h hl hr hb hU d (j + 1) (by omega)) (j + 1) 0 (by omega))
    simp only [weighbridgeref29_Breaks.l0]
    rw [if_pos (by omega)]
    rfl
theorem rbreaks_ev {l : List S68} {rate burst : Int} (hl : l.length ≤ 1000000) (hr : U rate) (hb : U burst) (hU : ∀ x ∈ l, U x.f0) : Ev (fun n => weighbridgeref29_Breaks.f n l rate burst) (brkV rate burst l) := by
  refine Ev.bind (rcheck_ev (by omega)) ?_
  unfold brkV
  rcases chk_cases l with h | ⟨j, _, e⟩
  · rw [chk_ok h]
    refine Ev.congr (fun n => ?_) (rbreaks_l0 rfl h hl hr hb hU l.length 0 (by omega))
    rw [if_pos rfl]
    rfl
  · rw [e]
    exact Ev.now _

/-- The most of what comes beyond a rate up to the j-th packet, from the i-th one on. -/
def mx1 (rate : Int) (l : List S68) (j : Nat) : Nat → Nat → Int → Int
  | 0, _, m => m
  | d + 1, i, m => mx1 rate l j d (i + 1) (if m < overV rate l i j then overV rate l i j else m)
def mx0 (rate : Int) (l : List S68) : Nat → Nat → Int → Int
  | 0, _, m => m
  | d + 1, j, m => mx0 rate l d (j + 1) (mx1 rate l j (j + 1) 0 m)
theorem mx1_spec {rate : Int} {l : List S68} {j : Nat} : ∀ d i m, m ≤ mx1 rate l j d i m ∧ (∀ k, i ≤ k → k < i + d → overV rate l k j ≤ mx1 rate l j d i m) ∧ (mx1 rate l j d i m = m ∨ ∃ k, i ≤ k ∧ k < i + d ∧ mx1 rate l j d i m = overV rate l k j)
  | 0, i, m => ⟨Int.le_refl _, fun k h1 h2 => absurd h2 (by omega), .inl rfl⟩
  | d + 1, i, m => by
    obtain ⟨h1, h2, h3⟩ := mx1_spec (rate := rate) (l := l) (j := j) d (i + 1) (if m < overV rate l i j then overV rate l i j else m)
    unfold mx1
    have h4 : m ≤ (if m < overV rate l i j then overV rate l i j else m) ∧ overV rate l i j ≤ (if m < overV rate l i j then overV rate l i j else m) := by split <;> omega
    refine ⟨Int.le_trans h4.1 h1, fun k hk hk2 => ?_, ?_⟩
    · rcases Nat.eq_or_lt_of_le hk with h' | h'
      · exact h' ▸ Int.le_trans h4.2 h1
      · exact h2 k h' (by omega)
    · rcases h3 with h3 | ⟨k, h5, h6, h7⟩
      · rw [h3]
        split
        · exact .inr ⟨i, Nat.le_refl _, by omega, rfl⟩
        · exact .inl rfl
      · exact .inr ⟨k, by omega, by omega, h7⟩
def ceilN (m : Int) : Int := if m % 1000000000 > 0 then m / 1000000000 + 1 else m / 1000000000
theorem mx1_V {rate : Int} {l : List S68} (h : okS l) (hl : l.length ≤ 1000000) (hr : U rate) (hU : ∀ x ∈ l, U x.f0) {j : Nat} (hj : j < l.length) {m : Int} (hm : V m) (d i : Nat) (hd : i + d ≤ j + 1) : V (mx1 rate l j d i m) := by
  rcases (mx1_spec (rate := rate) (l := l) (j := j) d i m).2.2 with e | ⟨k, h1, h2, e⟩
  · rw [e]; exact hm
  · rw [e]; exact over_V h hl hr hU (by omega) hj
theorem rleast_l1 {l : List S68} {rate : Int} (h : okS l) (hl : l.length ≤ 1000000) (hr : U rate) (hU : ∀ x ∈ l, U x.f0) {j : Nat} (hj : j < l.length) {r : Int × Int × Int} :
    ∀ d i m, i + d = j + 1 → V m → Ev (fun n => weighbridgeref29_Least.l0 n l rate ((j + 1 : Nat) : Int) (hi (mx1 rate l j d i m)) (lo (mx1 rate l j d i m))) r → Ev (fun n => weighbridgeref29_Least.l1 n l rate (j : Int) (i : Int) (hi m) (lo m)) r := by
  intro d
  induction d with
  | zero =>
    intro i m hij _ hn
    refine Ev.step (f := fun n => weighbridgeref29_Least.l0 n l rate ((j + 1 : Nat) : Int) (hi m) (lo m)) (fun n => ?_) hn
    simp only [weighbridgeref29_Least.l1]
    rw [if_neg (by omega), w64_up (by omega)]
  | succ d ih =>
    intro i m hij vm hn
    have vo := over_V h hl hr hU (show i ≤ j by omega) hj
    obtain ⟨K, hK⟩ := over_ev h hl hr hU (show i ≤ j by omega) hj
    obtain ⟨K2, hK2⟩ := ih (i + 1) (if m < overV rate l i j then overV rate l i j else m) (by omega) (by split <;> assumption) hn
    refine ⟨K + K2 + 1, fun n hn => ?_⟩
    obtain ⟨m', rfl⟩ : ∃ m', n = m' + 1 := ⟨n - 1, by omega⟩
    have e2 := hK m' (by omega)
    have e3 := hK2 m' (by omega)
    dsimp only at e2 e3
    simp only [weighbridgeref29_Least.l1]
    rw [if_pos (by omega)]
    refine obind e2 (obind (lessR_f vm vo) ?_)
    by_cases hc : m < overV rate l i j
    · rw [if_pos (decide_eq_true hc), w64_up (by omega)]
      rw [if_pos hc] at e3
      exact e3
    · rw [if_neg (by simpa using hc), w64_up (by omega)]
      rw [if_neg hc] at e3
      exact e3
theorem ceil_end {m : Int} (hm : 0 ≤ m ∧ m ≤ 65575000000000000000000) : weighbridgeref02_Div.f (hi m) (lo m) 1000000000 = some (hi (m / 1000000000), lo (m / 1000000000), m % 1000000000) ∧ V (m / 1000000000) ∧ lo (m / 1000000000) = m / 1000000000 ∧ lo (m / 1000000000 + 1) = m / 1000000000 + 1 := by
  have vm : V m := by unfold V; omega
  refine ⟨?_, by unfold V; omega, by unfold lo; omega, by unfold lo; omega⟩
  unfold weighbridgeref02_Div.f
  rw [if_pos ⟨U_hi _, U_lo _, nanoU⟩, wd_hi_lo vm, if_neg (by omega)]
theorem rleast_l0 {l : List S68} {rate : Int} (h : okS l) (hl : l.length ≤ 1000000) (hr : U rate) (hU : ∀ x ∈ l, U x.f0) :
    ∀ d j m, j + d = l.length → V m → (0 ≤ mx0 rate l d j m ∧ mx0 rate l d j m ≤ 65575000000000000000000) → Ev (fun n => weighbridgeref29_Least.l0 n l rate (j : Int) (hi m) (lo m)) (ceilN (mx0 rate l d j m), 0, 0) := by
  intro d
  induction d with
  | zero =>
    intro j m hj vm hb
    replace hb : 0 ≤ m ∧ m ≤ 65575000000000000000000 := hb
    obtain ⟨e1, v1, e2, e3⟩ := ceil_end hb
    show Ev _ (ceilN m, 0, 0)
    refine Ev.step (f := fun _ => some (ceilN m, 0, 0)) (fun n => ?_) (Ev.now _)
    simp only [weighbridgeref29_Least.l0]
    rw [if_neg (by omega)]
    refine obind e1 ?_
    unfold ceilN
    by_cases hc : m % 1000000000 > 0
    · have eo : weighbridgeref02_Of.f 1 = some (0, 1) := by
        unfold weighbridgeref02_Of.f
        rw [if_pos (show U 1 by unfold U; omega)]
      have ea : weighbridgeref02_Add.f (hi (m / 1000000000)) (lo (m / 1000000000)) 0 1 = some (hi (m / 1000000000 + 1), lo (m / 1000000000 + 1), ov (m / 1000000000 + 1)) := by
        unfold weighbridgeref02_Add.f
        rw [if_pos ⟨U_hi _, U_lo _, U_zero, show U 1 by unfold U; omega⟩, wd_hi_lo v1]
        rfl
      rw [if_pos hc, if_pos hc]
      refine obind eo (obind ea ?_)
      show some (lo (m / 1000000000 + 1), (0 : Int), (0 : Int)) = _
      rw [e3]
    · rw [if_neg hc, if_neg hc]
      show some (lo (m / 1000000000), (0 : Int), (0 : Int)) = _
      rw [e2]
  | succ d ih =>
    intro j m hj vm hb
    have hl1 := rleast_l1 h hl hr hU (show j < l.length by omega) (r := (ceilN (mx0 rate l (d + 1) j m), 0, 0)) (j + 1) 0 m (by omega) vm (ih (j + 1) (mx1 rate l j (j + 1) 0 m) (by omega) (mx1_V h hl hr hU (by omega) vm _ _ (by omega)) hb)
    refine Ev.step (f := fun n => weighbridgeref29_Least.l1 n l rate (j : Int) ((0 : Nat) : Int) (hi m) (lo m)) (fun n => ?_) hl1
    simp only [weighbridgeref29_Least.l0]
    rw [if_pos (by omega)]
    rfl
end Go.Proofs.Ytiaoaoebghnpkaa.P.Cv
