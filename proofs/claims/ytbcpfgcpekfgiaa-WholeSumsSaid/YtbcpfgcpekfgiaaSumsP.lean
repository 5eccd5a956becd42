/- What the checksums come to: filled in, kept, filled in again. -/
import Derived.Test.YtbcpfgcpekfgiaaAdj
namespace Go.Proofs.Ytbcpfgcpekfgiaa
open Go.RowKit Go.Shelf

theorem put_at (g : Nat → Int) (j i : Nat) (x : Int) : putV g (2 * j) 2 x 2 i = if i = 2 * j then x / 256 % 256 else if i = 2 * j + 1 then x % 256 else g i := by
  simp only [putV, upd', Nat.sub_zero, Int.pow_zero, Int.ediv_one, Int.reducePow]
  by_cases h1 : i = 2 * j
  · rw [if_pos (by omega), if_pos h1]
  · rw [if_neg (by omega), if_neg h1]
    by_cases h2 : i = 2 * j + 1
    · rw [if_pos (by omega), if_pos h2]
    · rw [if_neg (by omega), if_neg h2]
theorem word_put (g : Nat → Int) (j i : Nat) {x : Int} (hx : W16 x) : wordV (putV g (2 * j) 2 x 2) i = if i = j then x else wordV g i := by
  unfold W16 at hx
  unfold wordV
  rw [put_at, put_at]
  by_cases h : i = j
  · subst h
    rw [if_pos rfl, if_neg (by omega), if_pos rfl, if_pos rfl]
    omega
  · rw [if_neg (by omega), if_neg (by omega), if_neg (by omega), if_neg (by omega), if_neg h]
theorem wsum_put (g : Nat → Int) (j : Nat) {x : Int} (hx : W16 x) : ∀ k, wsum (putV g (2 * j) 2 x 2) k = wsum g k + if j < k then x - wordV g j else 0
  | 0 => by simp [wsum]
  | k + 1 => by
    rw [wsum_up, wsum_up, wsum_put g j hx k, word_put g j k hx]
    by_cases h : k = j
    · subst h
      rw [if_pos rfl, if_neg (by omega), if_pos (by omega)]
      omega
    · rw [if_neg h]
      by_cases h2 : j < k
      · rw [if_pos h2, if_pos (by omega)]; omega
      · rw [if_neg h2, if_neg (by omega)]; omega
theorem word_le {b : Nat → Int} (hb : ∀ i, isByte (b i)) {j : Nat} : ∀ k, j < k → wordV b j ≤ wsum b k
  | 0, h => absurd h (by omega)
  | k + 1, h => by
    rw [wsum_up]
    by_cases e : j = k
    · subst e
      have := (wsum_in hb j).1
      omega
    · have := word_le hb (j := j) k (by omega)
      have := word_w hb k
      unfold W16 at this
      omega
structure Inv (f : Nat → Int) (m : Nat) : Prop where
  byte : ∀ i, isByte (f i)
  head : f 0 = 69
  sum : wsum f m % 65535 = 0
  chk : wordV f 1 ≤ 65534
theorem pos_of {f : Nat → Int} {m : Nat} (hb : ∀ i, isByte (f i)) (h0 : f 0 = 69) (hm : 2 ≤ m) : 0 < wsum f m := by
  have h1 := word_le hb (j := 0) m (by omega)
  have h2 : wordV f 0 = f 0 * 256 + f 1 := rfl
  have h3 := hb 1
  unfold isByte at h3
  omega
theorem Inv.good {f : Nat → Int} {m : Nat} (h : Inv f m) (hm : 2 ≤ m) : foldV (wsum f m) = 65535 := by
  have h1 := pos_of h.byte h.head hm
  have h2 := h.sum
  unfold foldV
  rw [if_neg (by omega)]
  omega
theorem z16 : W16 0 := by unfold W16; omega
theorem zero_at (f : Nat → Int) (i : Nat) : zeroB f i = if i = 2 then 0 else if i = 3 then 0 else f i := put_at f 1 i 0
theorem zero_head (f : Nat → Int) : zeroB f 0 = f 0 := by rw [zero_at]; rfl
theorem fill_at (f : Nat → Int) (m i : Nat) : fillB f m i = if i = 2 then chkV f m / 256 % 256 else if i = 3 then chkV f m % 256 else zeroB f i := put_at (zeroB f) 1 i (chkV f m)
theorem fill_inv {f : Nat → Int} {m : Nat} (hb : ∀ i, isByte (f i)) (h0 : f 0 = 69) (hm : 2 ≤ m) : Inv (fillB f m) m := by
  have hz := zeroB_byte hb
  have hp := pos_of hz (by rw [zero_head, h0]) hm
  have hc := chk_w hb m
  have hcv : chkV f m = 65535 - foldV (wsum (zeroB f) m) := rfl
  have hf : foldV (wsum (zeroB f) m) = (wsum (zeroB f) m - 1) % 65535 + 1 := by unfold foldV; rw [if_neg (by omega)]
  have hw1 : wordV (fillB f m) 1 = chkV f m := (word_put (zeroB f) 1 1 hc).trans (if_pos rfl)
  have hw0 : wordV (zeroB f) 1 = 0 := (word_put f 1 1 z16).trans (if_pos rfl)
  have hs : wsum (fillB f m) m = wsum (zeroB f) m + if 1 < m then chkV f m - wordV (zeroB f) 1 else 0 := wsum_put (zeroB f) 1 hc m
  rw [if_pos (by omega), hw0] at hs
  refine ⟨fillB_byte hb m, ?_, ?_, ?_⟩
  · rw [fill_at]
    exact (zero_head f).trans h0
  · rw [hs]
    omega
  · rw [hw1]
    omega
theorem Inv.fill {f : Nat → Int} {m : Nat} (h : Inv f m) (hm : 2 ≤ m) (i : Nat) : fillB f m i = f i := by
  have hb := h.byte
  have hz := zeroB_byte hb
  have hp := pos_of hz (by rw [zero_head, h.head]) hm
  have hcv : chkV f m = 65535 - foldV (wsum (zeroB f) m) := rfl
  have hf : foldV (wsum (zeroB f) m) = (wsum (zeroB f) m - 1) % 65535 + 1 := by unfold foldV; rw [if_neg (by omega)]
  have hs : wsum (zeroB f) m = wsum f m + if 1 < m then 0 - wordV f 1 else 0 := wsum_put f 1 z16 m
  rw [if_pos (by omega)] at hs
  have h1 := h.sum
  have h2 := h.chk
  have h3 := word_w hb 1
  have hw : wordV f 1 = f 2 * 256 + f 3 := rfl
  have b2 := hb 2
  have b3 := hb 3
  unfold W16 at h3
  unfold isByte at b2 b3
  have hc : chkV f m = wordV f 1 := by omega
  rw [fill_at, zero_at, hc, hw]
  by_cases e2 : i = 2
  · subst e2
    rw [if_pos rfl]
    omega
  · rw [if_neg e2]
    by_cases e3 : i = 3
    · subst e3
      rw [if_pos rfl]
      omega
    · rw [if_neg e3, if_neg e2, if_neg e3]
theorem Inv.adj {f : Nat → Int} {m j : Nat} {x : Int} (h : Inv f m) (hj : 2 ≤ j) (hjm : j < m) (hx : W16 x) : Inv (adjB f j x) m := by
  have hb := h.byte
  have hcw := adjC_w hb j hx
  have hs1 := wsum_put f j hx m
  rw [if_pos hjm] at hs1
  have hw1 := word_put f j 1 hx
  rw [if_neg (by omega)] at hw1
  have hs2 : wsum (adjB f j x) m = wsum (putV f (2 * j) 2 x 2) m + if 1 < m then adjC f j x - wordV (putV f (2 * j) 2 x 2) 1 else 0 := wsum_put (putV f (2 * j) 2 x 2) 1 hcw m
  rw [if_pos (by omega), hs1, hw1] at hs2
  have hw2 : wordV (adjB f j x) 1 = adjC f j x := (word_put (putV f (2 * j) 2 x 2) 1 1 hcw).trans (if_pos rfl)
  have hh : adjB f j x 0 = f 0 := by
    refine (put_at (putV f (2 * j) 2 x 2) 1 0 (adjC f j x)).trans ?_
    rw [if_neg (by omega), if_neg (by omega), put_at, if_neg (by omega), if_neg (by omega)]
  have pw := word_w hb 1
  have qw := word_w hb j
  have ew : adjC f j x = cleanV (adV (wordV f 1) (wordV f j) x) := rfl
  have ea : adV (wordV f 1) (wordV f j) x = 65535 - foldV (foldV ((65535 - wordV f 1) + (65535 - wordV f j)) + x) := rfl
  have hsum := h.sum
  generalize wordV f 1 = p at *
  generalize wordV f j = q at *
  unfold W16 at pw qw hx
  have g1 := fold_in (n := (65535 - p) + (65535 - q)) (by omega)
  generalize foldV ((65535 - p) + (65535 - q)) = A at *
  have g2 := fold_in (n := A + x) (by omega)
  generalize foldV (A + x) = B at *
  rw [ea] at ew
  obtain ⟨_, _, _, m1⟩ := g1
  obtain ⟨_, _, _, m2⟩ := g2
  have hcl : (adjC f j x = 0 ∧ B = 0) ∨ (adjC f j x = 65535 - B ∧ B ≠ 0) := by
    rw [ew]
    unfold cleanV
    split
    · exact .inl ⟨rfl, by omega⟩
    · exact .inr ⟨rfl, by omega⟩
  refine ⟨adjB_byte hb j x, hh.trans h.head, ?_, ?_⟩
  · rw [hs2]
    omega
  · rw [hw2]
    omega
end Go.Proofs.Ytbcpfgcpekfgiaa
