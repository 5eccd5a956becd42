/- Part of the proof. -/
import Derived.Test.YtiaoaoebghnpkaaKA43
import Derived.Test.YtiaoaoebghnpkaaKA32
import Derived.Test.YtiaoaoebghnpkaaKA33
/- The most bytes that come within a time: what the code and the document answer. -/
namespace Go.Proofs.Ytiaoaoebghnpkaa.P.Cv
open Go.RowKit Go.Proofs.YtiaoaoebghnpkaaW.PrintWords Go.Proofs.YtiaoaoebghnpkaaW.PrintLast Go.Proofs.YtiaoaoebghnpkaaW.PrintMore
/-- The greatest time up to the j-th packet. -/
def gt (l : List S68) (j : Nat) : Int := mst (tims (pairS l)) (j + 1)
theorem gt_mono {l : List S68} (hU : ∀ x ∈ l, U x.f0) {i j : Nat} (h : i ≤ j) : gt l i ≤ gt l j := by
  have := mst_mono (tims (pairS l)) (tims_U hU) (j - i) (i + 1)
  rw [show i + 1 + (j - i) = j + 1 by omega] at this
  exact this
theorem gt_U {l : List S68} (hU : ∀ x ∈ l, U x.f0) (i : Nat) : U (gt l i) := U_mst (tims_U hU) (i + 1)
theorem gt_gap {l : List S68} (hU : ∀ x ∈ l, U x.f0) {i j : Nat} (h : i ≤ j) : IntKind.u64.wrap (gt l j - gt l i) = gt l j - gt l i := wU (gap_U hU h)
def run (l : List S68) : List Int := runL (tims (pairS l))
theorem run_length (l : List S68) : (run l).length = l.length := by unfold run; rw [runL_length, tims_length]
theorem run_get (l : List S68) {j : Nat} (h : j < l.length) : rd (run l) (j : Int) = gt l j := by rw [rd_nat]; exact runL_get _ _ (by rw [tims_length]; exact h)
def cum (l : List S68) (k : Nat) : Int := psum (pairS l) k
theorem cum_succ (l : List S68) (k : Nat) : cum l (k + 1) = cum l k + (l.getD k z68).f1 := psum_succ l k
theorem cum_mono {l : List S68} (h : okS l) {i j : Nat} (hij : i ≤ j) (hj : j ≤ l.length) : cum l i ≤ cum l j := by
  have := psum_mono h (j - i) i (by omega)
  rw [show i + (j - i) = j by omega] at this
  exact this
theorem cum_in {l : List S68} (h : okS l) {k : Nat} (hk : k ≤ l.length) : 0 ≤ cum l k ∧ cum l k ≤ 65575 * k := psum_in h k hk
/-- m is the most that comes within W, of the pairs of packets that Q lets in. -/
def IsMost (W : Int) (l : List S68) (Q : Nat → Nat → Prop) (m : Int) : Prop :=
  0 ≤ m ∧ (∀ i j, Q i j → i ≤ j → j < l.length → gt l j - gt l i ≤ W → cum l (j + 1) - cum l i ≤ m) ∧ (m = 0 ∨ ∃ i j, i ≤ j ∧ j < l.length ∧ gt l j - gt l i ≤ W ∧ m = cum l (j + 1) - cum l i)
def IsPeak (W : Int) (l : List S68) (m : Int) : Prop := IsMost W l (fun _ _ => True) m
theorem peak_unique {W : Int} {l : List S68} {m m' : Int} (h : IsPeak W l m) (h' : IsPeak W l m') : m = m' := by
  have a : m ≤ m' := by
    rcases h.2.2 with e | ⟨i, j, h1, h2, h3, e⟩
    · have := h'.1; omega
    · have := h'.2.1 i j trivial h1 h2 h3; omega
  have b : m' ≤ m := by
    rcases h'.2.2 with e | ⟨i, j, h1, h2, h3, e⟩
    · have := h.1; omega
    · have := h.2.1 i j trivial h1 h2 h3; omega
  omega
theorem peak_in {W : Int} {l : List S68} {m : Int} {Q : Nat → Nat → Prop} (hok : okS l) (h : IsMost W l Q m) : 0 ≤ m ∧ m ≤ 65575 * l.length := by
  refine ⟨h.1, ?_⟩
  rcases h.2.2 with e | ⟨i, j, h1, h2, h3, e⟩
  · omega
  · have a := cum_in hok (show j + 1 ≤ l.length by omega)
    have b := cum_in hok (show i ≤ l.length by omega)
    have : (65575 : Int) * ((j + 1 : Nat) : Int) ≤ 65575 * l.length := by omega
    omega
theorem mx_eq (a b : Int) : mx a b = max a b := by unfold mx; rw [Int.max_def]; split <;> split <;> omega

theorem peak_l2 {W : Int} {l : List S68} (hok : okS l) (hl : l.length ≤ 1000000) (hW : 0 ≤ W) (hU : ∀ x ∈ l, U x.f0) {j : Nat} (hj : j < l.length) {m0 : Int}
    (hn : ∀ f, f ≤ j → gt l j - gt l f ≤ W → (∀ i, i < f → W < gt l j - gt l i) → ∃ m, IsPeak W l m ∧ Ev (fun n => curve_Peak.l1 n l W (run l) (mx m0 (cum l (j + 1) - cum l f)) (cum l (j + 1) - cum l f) (f : Int) l (l.length : Int) ((j + 1 : Nat) : Int)) (m, 0, 0)) :
    ∀ d f, f + d = j → (∀ i, i < f → W < gt l j - gt l i) → ∃ m, IsPeak W l m ∧ Ev (fun n => curve_Peak.l2 n l W (run l) m0 (cum l (j + 1) - cum l f) (f : Int) (j : Int) l (l.length : Int) (j : Int)) (m, 0, 0) := by
  intro d
  have hrl := run_length l
  induction d with
  | zero =>
    intro f hf hb
    obtain rfl : f = j := by omega
    obtain ⟨m, hm, hev⟩ := hn f (Nat.le_refl _) (by omega) hb
    refine ⟨m, hm, Ev.step (f := fun n => curve_Peak.l1 n l W (run l) (mx m0 (cum l (f + 1) - cum l f)) (cum l (f + 1) - cum l f) (f : Int) l (l.length : Int) ((f + 1 : Nat) : Int)) (fun n => ?_) hev⟩
    simp only [curve_Peak.l2]
    rw [if_pos (by omega), if_pos (by omega), if_pos (by omega), if_pos (by omega), run_get l hj, gt_gap hU (Nat.le_refl _), if_neg (by omega), w64_up (by omega)]
  | succ d ih =>
    intro f hf hb
    by_cases hc : gt l j - gt l f ≤ W
    · obtain ⟨m, hm, hev⟩ := hn f (by omega) hc hb
      refine ⟨m, hm, Ev.step (f := fun n => curve_Peak.l1 n l W (run l) (mx m0 (cum l (j + 1) - cum l f)) (cum l (j + 1) - cum l f) (f : Int) l (l.length : Int) ((j + 1 : Nat) : Int)) (fun n => ?_) hev⟩
      simp only [curve_Peak.l2]
      rw [if_pos (by omega), if_pos (by omega), if_pos (by omega), if_pos (by omega), run_get l hj, run_get l (show f < l.length by omega), gt_gap hU (by omega), if_neg (by omega), w64_up (by omega)]
    · obtain ⟨m, hm, hev⟩ := ih (f + 1) (by omega) (fun i hi => by
        rcases Nat.lt_or_ge i f with h | h
        · exact hb i h
        · obtain rfl : i = f := by omega
          omega)
      have e1 := cum_succ l f
      have a1 := cum_in hok (show f + 1 ≤ l.length by omega)
      have a2 := cum_in hok (show j + 1 ≤ l.length by omega)
      have a3 := cum_mono hok (show f + 1 ≤ j + 1 by omega) (by omega)
      have a4 := hok f (by omega)
      refine ⟨m, hm, Ev.step (f := fun n => curve_Peak.l2 n l W (run l) m0 (cum l (j + 1) - cum l (f + 1)) ((f + 1 : Nat) : Int) (j : Int) l (l.length : Int) (j : Int)) (fun n => ?_) hev⟩
      have e2 : wrap64 (cum l (j + 1) - cum l f - (l.getD f z68).f1) = cum l (j + 1) - cum l (f + 1) := by rw [w64_in (by omega)]; omega
      simp only [curve_Peak.l2]
      rw [if_pos (by omega), if_pos (by omega), if_pos (by omega), if_pos (by omega), run_get l hj, run_get l (show f < l.length by omega), gt_gap hU (by omega), if_pos (by omega), if_pos (by omega), rdT_nat, e2, w64_up (by omega)]
theorem peak_l1 {W : Int} {l : List S68} (hok : okS l) (hl : l.length ≤ 1000000) (hW : 0 ≤ W) (hU : ∀ x ∈ l, U x.f0) :
    ∀ d j, j + d = l.length → ∀ f m0, f ≤ j → (∀ i, i < f → ∀ j', j ≤ j' → W < gt l j' - gt l i) → IsMost W l (fun _ j' => j' < j) m0 →
      ∃ m, IsPeak W l m ∧ Ev (fun n => curve_Peak.l1 n l W (run l) m0 (cum l j - cum l f) (f : Int) l (l.length : Int) (j : Int)) (m, 0, 0) := by
  intro d
  induction d with
  | zero =>
    intro j hj f m0 _ _ hm
    obtain rfl : j = l.length := by omega
    refine ⟨m0, ⟨hm.1, fun i j _ h1 h2 h3 => hm.2.1 i j h2 h1 h2 h3, hm.2.2⟩, Ev.step (f := fun _ => some (m0, 0, 0)) (fun n => ?_) (Ev.now _)⟩
    simp only [curve_Peak.l1]
    rw [if_neg (by omega)]
  | succ d ih =>
    intro j hj f m0 hf hb hm
    have e1 := cum_succ l j
    have a1 := cum_in hok (show f ≤ l.length by omega)
    have a2 := cum_in hok (show j ≤ l.length by omega)
    have a3 := cum_mono hok hf (by omega)
    have a4 := hok j (by omega)
    obtain ⟨m, hm', hev⟩ := peak_l2 (W := W) hok hl hW hU (show j < l.length by omega) (m0 := m0) (fun f' h1 h2 h3 => by
      refine ih (j + 1) (by omega) f' _ (by omega) (fun i hi j' hj' => ?_) ?_
      · have b1 := h3 i hi
        have b2 := gt_mono (l := l) hU (show j ≤ j' by omega)
        omega
      · rw [mx_eq]
        refine ⟨by have := hm.1; omega, fun i j' hq b1 b2 b3 => ?_, ?_⟩
        · rcases Nat.lt_or_ge j' j with h | h
          · have := hm.2.1 i j' h b1 b2 b3; omega
          · obtain rfl : j' = j := by omega
            have b4 : f' ≤ i := by
              rcases Nat.lt_or_ge i f' with h5 | h5
              · have := h3 i h5; omega
              · exact h5
            have b5 := cum_mono hok b4 (by omega)
            omega
        · rcases hm.2.2 with e | ⟨i, j', b1, b2, b3, e⟩
          · by_cases hc : m0 < cum l (j + 1) - cum l f'
            · exact .inr ⟨f', j, h1, by omega, h2, by omega⟩
            · exact .inl (by omega)
          · by_cases hc : m0 < cum l (j + 1) - cum l f'
            · exact .inr ⟨f', j, h1, by omega, h2, by omega⟩
            · exact .inr ⟨i, j', b1, b2, b3, by omega⟩) (j - f) f (by omega) (fun i hi => hb i hi j (Nat.le_refl _))
    refine ⟨m, hm', Ev.step (f := fun n => curve_Peak.l2 n l W (run l) m0 (cum l (j + 1) - cum l f) (f : Int) (j : Int) l (l.length : Int) (j : Int)) (fun n => ?_) hev⟩
    have e2 : wrap64 (cum l j - cum l f + (l.getD j z68).f1) = cum l (j + 1) - cum l f := by rw [w64_in (by omega)]; omega
    simp only [curve_Peak.l1]
    rw [if_pos (by omega), if_pos (by omega), if_pos (by omega), rdT_nat, e2]
theorem peak_l0 {W : Int} {l : List S68} (hl : l.length ≤ 1000000) (hU : ∀ x ∈ l, U x.f0) {r : Int × Int × Int} (hn : Ev (fun n => curve_Peak.l1 n l W (run l) 0 0 0 l (l.length : Int) 0) r) :
    ∀ d c, c + d = l.length → Ev (fun n => curve_Peak.l0 n l W ((tims (pairS l)).take c ++ List.replicate d 0) l (l.length : Int) (c : Int)) r := by
  intro d
  induction d with
  | zero =>
    intro c hc
    obtain rfl : c = l.length := by omega
    obtain ⟨K, hK⟩ := hn
    refine ⟨K + 1, fun n hn => ?_⟩
    obtain ⟨m, rfl⟩ : ∃ m, n = m + 1 := ⟨n - 1, by omega⟩
    have eK := hK m (by omega)
    dsimp only at eK
    have et : (tims (pairS l)).take l.length = tims (pairS l) := List.take_of_length_le (by rw [tims_length]; exact Nat.le_refl _)
    have er : ratchet_Run.f (tims (pairS l)) = some (runL (tims (pairS l))) := by
      unfold ratchet_Run.f
      rw [if_pos ⟨by rw [tims_length]; omega, tims_U hU⟩]
    simp only [curve_Peak.l0]
    rw [if_neg (by omega), List.replicate_zero, List.append_nil, et]
    exact obind er eK
  | succ d ih =>
    intro c hc
    have hct : ((tims (pairS l)).take c).length = c := by rw [List.length_take, tims_length]; omega
    refine Ev.step (f := fun n => curve_Peak.l0 n l W ((tims (pairS l)).take (c + 1) ++ List.replicate d 0) l (l.length : Int) ((c + 1 : Nat) : Int)) (fun n => ?_) (ih (c + 1) (by omega))
    have es := set_next ((tims (pairS l)).take c) d (l.getD c z68).f0
    rw [hct] at es
    simp only [curve_Peak.l0]
    rw [if_pos (by omega), if_pos (by omega), if_pos (by omega), if_pos (by rw [List.length_append, hct, List.length_replicate]; omega), rdT_nat, w64_up (by omega), Int.toNat_natCast, es, ← take_up (by omega)]
theorem peak_ev {W : Int} {l : List S68} (hok : okS l) (hl : l.length ≤ 1000000) (hW : 0 ≤ W) (hU : ∀ x ∈ l, U x.f0) : ∃ m, IsPeak W l m ∧ Ev (fun n => curve_Peak.f n l W) (m, 0, 0) := by
  obtain ⟨m, hm, hev⟩ := peak_l1 hok hl hW hU l.length 0 (by omega) 0 0 (Nat.le_refl _) (fun i hi => absurd hi (by omega)) ⟨Int.le_refl _, fun i j h => absurd h (by omega), .inl rfl⟩
  rw [Int.sub_self] at hev
  refine ⟨m, hm, ?_⟩
  refine Ev.congr (fun n => ?_) (Ev.bind (check_ev (l := l) (by omega)) (f := fun n bt => if bt.1 = 0 then curve_Peak.l0 n l W (List.replicate l.length 0) l (l.length : Int) 0 else some (0, bt.1, bt.2)) ?_)
  · unfold curve_Peak.f
    rw [if_pos (by omega), Int.toNat_natCast, if_pos (by omega)]
  · rw [chk_ok hok]
    refine Ev.congr (fun n => ?_) (peak_l0 hl hU hev l.length 0 (by omega))
    rw [if_pos rfl]
    rfl
theorem peak_bad {W : Int} {l : List S68} (hl : l.length ≤ 1000000) {a : Int} (h : chkC l = (1, a)) : Ev (fun n => curve_Peak.f n l W) (0, 1, a) := by
  refine Ev.bind (check_ev (l := l) (by omega)) ?_
  rw [h]
  exact Ev.now _

theorem rpeak_l2 {W : Int} {l : List S68} (hok : okS l) (hl : l.length ≤ 1000000) (hU : ∀ x ∈ l, U x.f0) {i : Nat} (hi : i < l.length) {m0 : Int}
    (hn : ∀ j, i ≤ j → j ≤ l.length → (∀ j', i ≤ j' → j' < j → gt l j' - gt l i ≤ W) → (∀ j', j ≤ j' → j' < l.length → W < gt l j' - gt l i) → ∃ m, IsPeak W l m ∧ Ev (fun n => weighbridgeref29_Peak.l1 n l W (run l) (mx m0 (cum l j - cum l i)) ((i + 1 : Nat) : Int)) (m, 0, 0)) :
    ∀ d j, j + d = l.length → i ≤ j → (∀ j', i ≤ j' → j' < j → gt l j' - gt l i ≤ W) → ∃ m, IsPeak W l m ∧ Ev (fun n => weighbridgeref29_Peak.l2 n l W (run l) m0 (i : Int) (cum l j - cum l i) (j : Int)) (m, 0, 0) := by
  intro d
  have hrl := run_length l
  induction d with
  | zero =>
    intro j hj hij hb
    obtain ⟨m, hm, hev⟩ := hn j hij (by omega) hb (fun j' h1 h2 => absurd h2 (by omega))
    refine ⟨m, hm, Ev.step (f := fun n => weighbridgeref29_Peak.l1 n l W (run l) (mx m0 (cum l j - cum l i)) ((i + 1 : Nat) : Int)) (fun n => ?_) hev⟩
    simp only [weighbridgeref29_Peak.l2]
    rw [if_neg (by omega), w64_up (by omega)]
  | succ d ih =>
    intro j hj hij hb
    by_cases hc : gt l j - gt l i ≤ W
    · obtain ⟨m, hm, hev⟩ := ih (j + 1) (by omega) (by omega) (fun j' h1 h2 => by
        rcases Nat.lt_or_ge j' j with h | h
        · exact hb j' h1 h
        · obtain rfl : j' = j := by omega
          exact hc)
      have e1 := cum_succ l j
      have a1 := cum_in hok (show j + 1 ≤ l.length by omega)
      have a2 := cum_in hok (show j ≤ l.length by omega)
      have a3 := cum_mono hok hij (by omega)
      have a4 := hok j (by omega)
      have a5 := cum_in hok (show i ≤ l.length by omega)
      have e2 : wrap64 (cum l j - cum l i + (l.getD j z68).f1) = cum l (j + 1) - cum l i := by rw [w64_in (by omega)]; omega
      refine ⟨m, hm, Ev.step (f := fun n => weighbridgeref29_Peak.l2 n l W (run l) m0 (i : Int) (cum l (j + 1) - cum l i) ((j + 1 : Nat) : Int)) (fun n => ?_) hev⟩
      simp only [weighbridgeref29_Peak.l2]
      rw [if_pos (by omega), if_pos (by omega), if_pos (by omega), if_pos (by omega), if_pos (by omega), run_get l (show j < l.length by omega), run_get l hi, gt_gap hU hij, if_pos hc, rdT_nat, e2, w64_up (by omega)]
    · obtain ⟨m, hm, hev⟩ := hn j hij (by omega) hb (fun j' h1 h2 => by
        have := gt_mono (l := l) hU h1
        omega)
      refine ⟨m, hm, Ev.step (f := fun n => weighbridgeref29_Peak.l1 n l W (run l) (mx m0 (cum l j - cum l i)) ((i + 1 : Nat) : Int)) (fun n => ?_) hev⟩
      simp only [weighbridgeref29_Peak.l2]
      rw [if_pos (by omega), if_pos (by omega), if_pos (by omega), if_pos (by omega), if_pos (by omega), run_get l (show j < l.length by omega), run_get l hi, gt_gap hU hij, if_neg hc, w64_up (by omega)]
theorem rpeak_l1 {W : Int} {l : List S68} (hok : okS l) (hl : l.length ≤ 1000000) (hU : ∀ x ∈ l, U x.f0) :
    ∀ d i, i + d = l.length → ∀ m0, IsMost W l (fun i' _ => i' < i) m0 → ∃ m, IsPeak W l m ∧ Ev (fun n => weighbridgeref29_Peak.l1 n l W (run l) m0 (i : Int)) (m, 0, 0) := by
  intro d
  induction d with
  | zero =>
    intro i hi m0 hm
    obtain rfl : i = l.length := by omega
    refine ⟨m0, ⟨hm.1, fun i j _ h1 h2 h3 => hm.2.1 i j (by omega) h1 h2 h3, hm.2.2⟩, Ev.step (f := fun _ => some (m0, 0, 0)) (fun n => ?_) (Ev.now _)⟩
    simp only [weighbridgeref29_Peak.l1]
    rw [if_neg (by omega)]
  | succ d ih =>
    intro i hi m0 hm
    obtain ⟨m, hm', hev⟩ := rpeak_l2 (W := W) hok hl hU (show i < l.length by omega) (m0 := m0) (fun j h1 h2 h3 h4 => by
      refine ih (i + 1) (by omega) _ ?_
      rw [mx_eq]
      refine ⟨by have := hm.1; omega, fun i' j' hq b1 b2 b3 => ?_, ?_⟩
      · rcases Nat.lt_or_ge i' i with h | h
        · have := hm.2.1 i' j' h b1 b2 b3; omega
        · obtain rfl : i' = i := by omega
          have b4 : j' < j := by
            rcases Nat.lt_or_ge j' j with h5 | h5
            · exact h5
            · have := h4 j' h5 b2; omega
          have b5 := cum_mono hok (show j' + 1 ≤ j by omega) h2
          omega
      · by_cases hc : m0 < cum l j - cum l i
        · have h5 : i < j := by
            rcases Nat.lt_or_ge i j with h | h
            · exact h
            · obtain rfl : i = j := by omega
              have := hm.1
              omega
          have e : j - 1 + 1 = j := by omega
          exact .inr ⟨i, j - 1, by omega, by omega, h3 (j - 1) (by omega) (by omega), by rw [e]; omega⟩
        · rcases hm.2.2 with e | ⟨i', j', b1, b2, b3, e⟩
          · exact .inl (by omega)
          · exact .inr ⟨i', j', b1, b2, b3, by omega⟩) (l.length - i) i (by omega) (Nat.le_refl _) (fun j' h1 h2 => absurd h2 (by omega))
    refine ⟨m, hm', Ev.step (f := fun n => weighbridgeref29_Peak.l2 n l W (run l) m0 (i : Int) (cum l i - cum l i) (i : Int)) (fun n => ?_) hev⟩
    simp only [weighbridgeref29_Peak.l1]
    rw [if_pos (by omega), Int.sub_self]
theorem rpeak_l0 {W : Int} {l : List S68} (hl : l.length ≤ 1000000) (hU : ∀ x ∈ l, U x.f0) {r : Int × Int × Int} (hn : Ev (fun n => weighbridgeref29_Peak.l1 n l W (run l) 0 0) r) :
    ∀ d c, c + d = l.length → Ev (fun n => weighbridgeref29_Peak.l0 n l W ((tims (pairS l)).take c) (c : Int)) r := by
  intro d
  induction d with
  | zero =>
    intro c hc
    obtain rfl : c = l.length := by omega
    obtain ⟨K, hK⟩ := hn
    have et : (tims (pairS l)).take l.length = tims (pairS l) := List.take_of_length_le (by rw [tims_length]; exact Nat.le_refl _)
    obtain ⟨K2, hK2⟩ := run25_ev (tims (pairS l)) (tims_U hU) (by rw [tims_length]; omega)
    refine ⟨K + K2 + 1, fun n hn => ?_⟩
    obtain ⟨m, rfl⟩ : ∃ m, n = m + 1 := ⟨n - 1, by omega⟩
    have eK := hK m (by omega)
    have eK2 := hK2 m (by omega)
    dsimp only at eK eK2
    simp only [weighbridgeref29_Peak.l0]
    rw [if_neg (by omega), et]
    exact obind eK2 eK
  | succ d ih =>
    intro c hc
    have hct : ((tims (pairS l)).take c).length = c := by rw [List.length_take, tims_length]; omega
    refine Ev.step (f := fun n => weighbridgeref29_Peak.l0 n l W ((tims (pairS l)).take (c + 1)) ((c + 1 : Nat) : Int)) (fun n => ?_) (ih (c + 1) (by omega))
    simp only [weighbridgeref29_Peak.l0]
    rw [if_pos (by omega), if_pos (by omega), if_pos (by omega), rdT_nat, w64_up (by omega), ← take_up (by omega)]
theorem rpeak_ev {W : Int} {l : List S68} (hok : okS l) (hl : l.length ≤ 1000000) (hU : ∀ x ∈ l, U x.f0) : ∃ m, IsPeak W l m ∧ Ev (fun n => weighbridgeref29_Peak.f n l W) (m, 0, 0) := by
  obtain ⟨m, hm, hev⟩ := rpeak_l1 (W := W) hok hl hU l.length 0 (by omega) 0 ⟨Int.le_refl _, fun i j h => absurd h (by omega), .inl rfl⟩
  refine ⟨m, hm, Ev.bind (rcheck_ev (l := l) (by omega)) ?_⟩
  rw [chk_ok hok]
  refine Ev.congr (fun n => ?_) (rpeak_l0 hl hU hev l.length 0 (by omega))
  rw [if_pos rfl]
  rfl
theorem rpeak_bad {W : Int} {l : List S68} (hl : l.length ≤ 1000000) {a : Int} (h : chkC l = (1, a)) : Ev (fun n => weighbridgeref29_Peak.f n l W) (0, 1, a) := by
  refine Ev.bind (rcheck_ev (l := l) (by omega)) ?_
  rw [h]
  exact Ev.now _

/-! ### What is asked of it -/
theorem peak_le {W W' : Int} {l : List S68} {m m' : Int} (h : IsPeak W l m) (h' : IsPeak W' l m') (hw : W ≤ W') : m ≤ m' := by
  rcases h.2.2 with e | ⟨i, j, h1, h2, h3, e⟩
  · have := h'.1; omega
  · have := h'.2.1 i j trivial h1 h2 (by omega); omega
theorem peak_all {l : List S68} {m : Int} (hok : okS l) (hU : ∀ x ∈ l, U x.f0) (h : IsPeak 18446744073709551615 l m) : m = psum (pairS l) l.length := by
  show m = cum l l.length
  have z : cum l 0 = 0 := rfl
  have a : m ≤ cum l l.length := by
    rcases h.2.2 with e | ⟨i, j, h1, h2, h3, e⟩
    · have := (cum_in hok (Nat.le_refl _)).1; omega
    · have := cum_mono hok (show j + 1 ≤ l.length by omega) (Nat.le_refl _)
      have := (cum_in hok (show i ≤ l.length by omega)).1
      omega
  rcases Nat.eq_zero_or_pos l.length with h0 | h0
  · rw [h0] at a ⊢
    have := h.1
    omega
  · have e : l.length - 1 + 1 = l.length := by omega
    have := h.2.1 0 (l.length - 1) trivial (by omega) (by omega) (by
      have u1 := gt_U (l := l) hU (l.length - 1)
      have u2 := gt_U (l := l) hU 0
      unfold U at u1 u2
      omega)
    rw [e] at this
    omega
theorem mW_ge {rate : Int} {l : List S68} : ∀ k j, j < k → wq rate (pairS l) (j + 1) ≤ mW rate l k
  | 0, j, h => absurd h (by omega)
  | k + 1, j, h => by
    unfold mW
    rcases Nat.lt_or_ge j k with h' | h'
    · have := mW_ge (rate := rate) (l := l) k j h'
      split <;> omega
    · obtain rfl : j = k := by omega
      split <;> omega
theorem ceil_ge {m : Int} : m ≤ ceilN m * 1000000000 := by unfold ceilN; split <;> omega
theorem peak_rate {W rate : Int} {l : List S68} {m : Int} (hok : okS l) (hr : 0 ≤ rate) (hW : 0 ≤ W) (hU : ∀ x ∈ l, U x.f0) (h : IsPeak W l m) : m * 1000000000 ≤ ceilN (mW rate l l.length) * 1000000000 + rate * W := by
  have hm := mW_in hok hr hU l.length (Nat.le_refl _)
  have hc := ceil_ge (m := mW rate l l.length)
  have hp : 0 ≤ rate * W := Int.mul_nonneg hr hW
  rcases h.2.2 with e | ⟨i, j, h1, h2, h3, e⟩
  · rw [e]; omega
  · have h4 := (wq_most rate (pairS l) j).1 i h1
    have h5 := mW_ge (rate := rate) (l := l) l.length j h2
    have h6 : rate * (gt l j - gt l i) ≤ rate * W := Int.mul_le_mul_of_nonneg_left h3 hr
    have h7 : overA rate (pairS l) i j = m * 1000000000 - rate * (gt l j - gt l i) := by rw [e]; rfl
    omega
end Go.Proofs.Ytiaoaoebghnpkaa.P.Cv
