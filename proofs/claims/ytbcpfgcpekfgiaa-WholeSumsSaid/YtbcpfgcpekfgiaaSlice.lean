/- A slice by its elements' cells, whatever the element type; elements that are arrays of integers. Nothing here speaks of a program. -/
import Derived.Test.YtbcpfgcpekfgiaaLaw
import Derived.Deep.Slices
namespace Go.Proofs.Ytbcpfgcpekfgiaa
open Go Go.ChangeShapes Go.WideShapes Go.ChangeAt Go.RowKit

section
variable {H : Type} {enc : TypeId × Value → H} {P : Program} {w : World} {base : Nat} {spare : Nat → Bool} {held : Bool}

theorem cell_lt {p : Addr} {v : Value} (h : w.cell? p = some v) : p.block < w.heap.size := by
  unfold World.cell? at h
  rcases Nat.lt_or_ge p.block w.heap.size with h' | h'
  · exact h'
  · rw [Array.getElem?_eq_none h'] at h; simp at h

/-- The k-th element's cells lie behind one another at the slice's address; they read as the element. -/
theorem open_cells {r : Reach} {b0 : Nat} {t e : TypeId} {c : Nat} {v : Value} {d : DataW H} {ps : List MemPlace} (ht : P.underlying t = some (.slice e)) (hc : P.cellsOf e = c) (hpos : 0 < c) (hval : Value.okWide P w r b0 t v) (hd : DataW.Trod enc P w base spare held t v d ps) :
    ∃ (ao : Option Addr) (len cap : Nat), v = .slice ao len cap ∧ len ≤ cap ∧ cap ≤ maxLen ∧
      ∀ k, k < len → ∃ (b off : Nat) (cs : List Value) (m : Nat) (x : DataW H × List MemPlace), ao = some ⟨b, off, none⟩ ∧ b < w.heap.size ∧ cs.length = c ∧ (∀ i, i < c → w.cell? ⟨b, off + k * c + i, none⟩ = cs[i]?) ∧ DataW.trod enc P w base spare held m e cs = some x := by
  obtain ⟨a0, len, cap, rfl⟩ := okWide_slice ht hval
  obtain ⟨fuel, hf⟩ := hd
  rcases Deep.open_slice ht hf with ⟨hcs, _⟩ | ⟨a, len', cap', m, n, D, Pl, hcs, _, hl, hm, hmm, _, hx⟩
  · simp only [Value.cells, List.cons.injEq, and_true, Value.slice.injEq] at hcs
    obtain ⟨rfl, rfl, rfl⟩ := hcs
    exact ⟨none, 0, 0, rfl, Nat.le_refl _, Nat.zero_le _, fun k hk => absurd hk (Nat.not_lt_zero _)⟩
  · simp only [Value.cells, List.cons.injEq, and_true, Value.slice.injEq] at hcs
    obtain ⟨rfl, rfl, rfl⟩ := hcs
    refine ⟨some a, len, cap, rfl, hl, hm, fun k hk => ?_⟩
    have hkm : k < m := by rw [hmm]; split <;> omega
    rw [hc] at hx
    have hspot : a.spot = none := by
      obtain ⟨cs0, h0, _⟩ := hx 0 (by omega)
      obtain ⟨_, hl0, hall⟩ := World.cells?_some h0
      have h1 := hall 0 hpos
      rw [List.getElem?_eq_getElem (by omega)] at h1
      have := World.cell?_spot h1
      simpa [Addr.add] using this
    obtain ⟨cs, h1, h2⟩ := hx k hkm
    obtain ⟨_, hlen, hall⟩ := World.cells?_some h1
    obtain ⟨b, off, sp⟩ := a
    have hsp : sp = none := hspot
    subst hsp
    have hcell : ∀ i, i < c → w.cell? ⟨b, off + k * c + i, none⟩ = cs[i]? := fun i hi => by
      rw [← hall i hi]
      unfold Addr.add
      by_cases h3 : k * c = 0
      · by_cases h4 : i = 0
        · simp [h3, h4]
        · simp [h3, h4]
      · by_cases h4 : i = 0
        · simp [h3, h4]
        · simp [h3, h4]
    refine ⟨b, off, cs, n, _, rfl, ?_, hlen, hcell, h2⟩
    have := hcell 0 hpos
    rw [List.getElem?_eq_getElem (by omega)] at this
    exact cell_lt this

/-- Elements that are arrays of integers. -/
theorem open_arrays {r : Reach} {b0 : Nat} {t e e2 : TypeId} {c : Nat} {k2 : IntKind} {v : Value} {d : DataW H} {ps : List MemPlace} (ht : P.underlying t = some (.slice e)) (he : P.underlying e = some (.array c e2)) (he2 : P.underlying e2 = some (.int k2)) (hc : P.cellsOf e = c) (hc2 : P.cellsOf e2 = 1) (hpos : 0 < c)
    (hval : Value.okWide P w r b0 t v) (hd : DataW.Trod enc P w base spare held t v d ps) :
    ∃ (ao : Option Addr) (len cap : Nat), v = .slice ao len cap ∧ len ≤ cap ∧ cap ≤ maxLen ∧
      ∀ k, k < len → ∃ (b off : Nat) (zs : List Int), ao = some ⟨b, off, none⟩ ∧ b < w.heap.size ∧ zs.length = c ∧ (∀ z ∈ zs, (Lit.int k2 z).wf = true) ∧ ∀ i z, zs[i]? = some z → w.cell? ⟨b, off + k * c + i, none⟩ = some (.int k2 z) := by
  obtain ⟨ao, len, cap, rfl, h1, h2, h3⟩ := open_cells ht hc hpos hval hd
  refine ⟨ao, len, cap, rfl, h1, h2, fun k hk => ?_⟩
  obtain ⟨b, off, cs, m, x, hao, hb, hlen, hcell, htrod⟩ := h3 k hk
  have hval' : ∃ zs : List Int, cs = zs.map (Value.int k2) ∧ zs.length = c ∧ ∀ z ∈ zs, (Lit.int k2 z).wf = true := by
    obtain ⟨xs, m', rfl, hx, hl, hxn, hall⟩ := DataW.trod_array he htrod
    have key : ∀ i, i < c → ∃ z, cs[i]? = some (.int k2 z) ∧ (Lit.int k2 z).wf = true := by
      intro i hi
      have h1 := hall i hi
      rw [hc2, Nat.mul_one, List.getElem?_eq_getElem (by omega)] at h1
      obtain ⟨z, hz, _, hw⟩ := DataW.trod_int he2 h1
      refine ⟨z, ?_, hw⟩
      have h2 := congrArg (·[0]?) hz
      simpa [List.getElem?_take, List.getElem?_drop] using h2
    exact ints_of cs c hlen key
  obtain ⟨zs, rfl, hz, hw⟩ := hval'
  refine ⟨b, off, zs, hao, hb, hz, hw, fun i z hi => ?_⟩
  have hic : i < c := by
    rw [← hz]
    exact (List.getElem?_eq_some_iff.1 hi).1
  rw [hcell i hic, List.getElem?_map, hi]
  rfl
end
end Go.Proofs.Ytbcpfgcpekfgiaa
