/- Part of the proof. -/
import Derived.Deep.Fields
import Derived.SizedLaws
import Derived.Test.YtiaoaoebghnpkaaKP20
/- Parameters that are structs of one-cell fields (whole numbers, bools), and slices of such structs, opened to their cells. No program is named here. -/
namespace Go.Proofs.Ytiaoaoebghnpkaa
open Go Go.ChangeShapes Go.WideShapes Go.ChangeAt Go.RowKit Go.Deep

section
variable {H : Type} {enc : TypeId × Value → H} {P : Program} {w : World} {base : Nat} {spare : Nat → Bool} {held : Bool}

end

/-- A list out of what each place has. -/
theorem list_of {α : Type} {R : Nat → α → Prop} : ∀ n : Nat, (∀ k, k < n → ∃ p, R k p) → ∃ xs : List α, xs.length = n ∧ ∀ (j : Nat) (p : α), xs[j]? = some p → R j p
  | 0, _ => ⟨[], rfl, fun j p h => by simp at h⟩
  | n + 1, h => by
    obtain ⟨xs, hl, hx⟩ := list_of n fun k hk => h k (by omega)
    obtain ⟨p, hp⟩ := h n (by omega)
    refine ⟨xs ++ [p], by simp [hl], fun j q hj => ?_⟩
    rcases Nat.lt_or_ge j n with hlt | hge
    · rw [List.getElem?_append_left (by omega)] at hj
      exact hx j q hj
    · rw [List.getElem?_append_right (by omega)] at hj
      have h0 : j - xs.length = 0 := by
        rcases Nat.eq_zero_or_pos (j - xs.length) with h0 | h0
        · exact h0
        · rw [List.getElem?_eq_none (by simp; omega)] at hj
          cases hj
      rw [h0] at hj
      obtain rfl : p = q := by simpa using hj
      obtain rfl : j = n := by omega
      exact hp
theorem add_mk (b off n : Nat) : (⟨b, off, none⟩ : Addr).add n = ⟨b, off + n, none⟩ := by
  unfold Addr.add
  by_cases h : n = 0
  · simp [h]
  · simp [h]
section
variable {H : Type} {enc : TypeId × Value → H} {P : Program} {w : World} {base : Nat} {spare : Nat → Bool} {held : Bool}
/-- A row's slice is no longer than its weight allows. -/
theorem len_sized {t e : TypeId} {ao : Option Addr} {len cap : Nat} {d : DataW H} {ps : List MemPlace} {ts : List TypeId} {ds : List (DataW H)} {j : Nat}
    (hsz : (DataW.weightsEach P ts ds).all (· ≤ reachBytes) = true) (ht : ts[j]? = some t) (hd : ds[j]? = some d) (hu : P.underlying t = some (.slice e)) {B : Nat} (hB : P.bytesOf e = B)
    (h : DataW.Trod enc P w base spare held t (.slice ao len cap) d ps) : len * B ≤ 140737488351232 := by
  obtain ⟨fuel, hf⟩ := h
  rcases Deep.open_slice hu hf with ⟨hcs, _⟩ | ⟨a, len', cap', m, n, D, Pl, hcs, _, hl, hm, hmm, hx, _⟩
  · simp only [Value.cells, List.cons.injEq, and_true, Value.slice.injEq] at hcs
    obtain ⟨rfl, rfl, rfl⟩ := hcs
    simp
  · simp only [Value.cells, List.cons.injEq, and_true, Value.slice.injEq] at hcs
    obtain ⟨rfl, rfl, rfl⟩ := hcs
    obtain ⟨hx, _⟩ := Prod.mk.inj hx
    subst hx
    have z := sized_slice hsz ht hd hu
    rw [hB] at z
    simp only [List.length_map, List.length_range] at z
    have : len * B ≤ (len + (m - len)) * B := Nat.mul_le_mul_right _ (by omega)
    exact Nat.le_trans this z

/-- A slice of whole numbers. -/
theorem open_nums {r : Reach} {b0 : Nat} {t e : TypeId} {k2 : IntKind} {v : Value} {d : DataW H} {ps : List MemPlace} (ht : P.underlying t = some (.slice e)) (he : P.underlying e = some (.int k2)) (hc : P.cellsOf e = 1)
    (hval : Value.okWide P w r b0 t v) (hd : DataW.Trod enc P w base spare held t v d ps) :
    ∃ (ao : Option Addr) (len cap : Nat), v = .slice ao len cap ∧ len ≤ cap ∧ cap ≤ maxLen ∧
      ∀ k, k < len → ∃ (b off : Nat) (z : Int), ao = some ⟨b, off, none⟩ ∧ b < w.heap.size ∧ (Lit.int k2 z).wf = true ∧ w.cell? ⟨b, off + k, none⟩ = some (.int k2 z) := by
  obtain ⟨ao, len, cap, rfl, h1, h2, h3⟩ := open_cells ht hc Nat.one_pos hval hd
  refine ⟨ao, len, cap, rfl, h1, h2, fun k hlt => ?_⟩
  obtain ⟨b, off, cs, m, x, hao, hb, hl, hcell, htrod⟩ := h3 k hlt
  obtain ⟨z, rfl, _, hw⟩ := DataW.trod_int he htrod
  refine ⟨b, off, z, hao, hb, hw, ?_⟩
  have := hcell 0 (by omega)
  simpa using this
end
end Go.Proofs.Ytiaoaoebghnpkaa
