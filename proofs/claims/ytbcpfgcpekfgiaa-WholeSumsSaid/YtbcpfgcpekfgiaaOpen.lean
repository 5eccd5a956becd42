/- Parameters that are structs of one-cell fields (whole numbers, bools), and slices of such structs, opened to their cells. No program is named here. -/
import Derived.Test.YtbcpfgcpekfgiaaSlice
import Derived.Deep.Fields
import Derived.SizedLaws
namespace Go.Proofs.Ytbcpfgcpekfgiaa
open Go Go.ChangeShapes Go.WideShapes Go.ChangeAt Go.RowKit Go.Deep

/-- A cell: a bool, or a whole number of its kind. -/
def cellOk : Option IntKind → Value → Prop
  | none, v => ∃ b : Bool, v = .bool b
  | some k, v => ∃ z : Int, v = .int k z ∧ (Lit.int k z).wf = true
def cellsOk : List (Option IntKind) → List Value → Prop
  | [], vs => vs = []
  | k :: ks, vs => ∃ v rest, vs = v :: rest ∧ cellOk k v ∧ cellsOk ks rest
def kindB (P : Program) (f : Field) : Option IntKind → Bool
  | none => match P.underlying f.type with | some .bool => true | _ => false
  | some k => match P.underlying f.type with | some (.int k') => decide (k = k') | _ => false
def kindsB (P : Program) (fs : Array Field) (ks : List (Option IntKind)) : Bool :=
  ks.length == fs.size && (List.range ks.length).all fun i => match fs[i]?, ks[i]? with | some f, some k => kindB P f k | _, _ => false

theorem cellsOk_of : ∀ (ks : List (Option IntKind)) (cs : List Value), cs.length = ks.length → (∀ (j : Nat) (k : Option IntKind), ks[j]? = some k → ∃ v, cs[j]? = some v ∧ cellOk k v) → cellsOk ks cs
  | [], cs, hl, _ => by simpa [cellsOk] using hl
  | k :: ks, [], hl, _ => by simp at hl
  | k :: ks, c :: cs, hl, h => by
    obtain ⟨v, hv, hok⟩ := h 0 k rfl
    obtain rfl : c = v := by simpa using hv
    refine ⟨c, cs, rfl, hok, cellsOk_of ks cs (by simpa using hl) fun j k' hk => ?_⟩
    have := h (j + 1) k' (by simpa using hk)
    simpa using this
theorem cellsOk_length : ∀ (ks : List (Option IntKind)) (cs : List Value), cellsOk ks cs → cs.length = ks.length
  | [], cs, h => by rw [show cs = [] from h]; rfl
  | k :: ks, cs, h => by
    obtain ⟨v, rest, rfl, _, hr⟩ := h
    simp [cellsOk_length ks rest hr]

section
variable {H : Type} {enc : TypeId × Value → H} {P : Program} {w : World} {base : Nat} {spare : Nat → Bool} {held : Bool}

theorem struct_cells {t : TypeId} {fs : Array Field} {ks : List (Option IntKind)} {m : Nat} {cs : List Value} {x : DataW H × List MemPlace} (ht : P.underlying t = some (.struct fs)) (hone : oneCellFields P fs = true) (hk : kindsB P fs ks = true) (hC : P.cellsOf t = ks.length)
    (h : DataW.trod enc P w base spare held m t cs = some x) : cellsOk ks cs := by
  obtain ⟨xs, n, _, _, hlen, hxl, hf⟩ := DataW.trod_struct ht h
  simp only [kindsB, Bool.and_eq_true, beq_iff_eq, List.all_eq_true, List.mem_range] at hk
  obtain ⟨hk1, hk2⟩ := hk
  have hcl : cs.length = ks.length := hlen.trans hC
  refine cellsOk_of ks cs hcl fun j k hj => ?_
  have hjl : j < ks.length := (List.getElem?_eq_some_iff.1 hj).1
  have h2 := hk2 j hjl
  have hfj : fs[j]? = some (fs[j]'(by omega)) := Array.getElem?_eq_getElem (by omega)
  rw [hfj, hj] at h2
  obtain ⟨ho, hc1⟩ := hone_of hone j _ hfj
  have h3 := hf j _ hfj
  rw [ho, hc1] at h3
  have hcj : cs[j]? = some (cs[j]'(by omega)) := List.getElem?_eq_getElem (by omega)
  have h4 : (cs.drop j).take 1 = [cs[j]'(by omega)] := by
    rw [List.drop_eq_getElem_cons (by omega)]
    rfl
  rw [h4] at h3
  have hxj : xs[j]? = some (xs[j]'(by omega)) := List.getElem?_eq_getElem (by omega)
  rw [hxj] at h3
  refine ⟨_, hcj, ?_⟩
  cases k with
  | none =>
    simp only [kindB] at h2
    split at h2
    · rename_i hu
      obtain ⟨b, hb, _⟩ := DataW.trod_bool hu h3
      exact ⟨b, by simpa using hb⟩
    · cases h2
  | some k =>
    simp only [kindB] at h2
    split at h2
    · rename_i k' hu
      obtain rfl : k = k' := by simpa using h2
      obtain ⟨z, hz, _, hw⟩ := DataW.trod_int hu h3
      exact ⟨z, by simpa using hz, hw⟩
    · cases h2

/-- A struct of one-cell fields, by value. -/
theorem open_struct {r : Reach} {b0 : Nat} {t : TypeId} {fs : Array Field} {ks : List (Option IntKind)} {v : Value} {d : DataW H} {ps : List MemPlace} (ht : P.underlying t = some (.struct fs)) (hone : oneCellFields P fs = true) (hk : kindsB P fs ks = true) (hC : P.cellsOf t = ks.length)
    (hval : Value.okWide P w r b0 t v) (hd : DataW.Trod enc P w base spare held t v d ps) : ∃ cs : List Value, v = .agg cs.toArray ∧ cellsOk ks cs := by
  obtain ⟨cs, rfl, _⟩ := okWide_struct ht hval
  obtain ⟨fuel, hf⟩ := hd
  exact ⟨cs.toList, rfl, struct_cells ht hone hk hC hf⟩

/-- A slice of structs of one-cell fields. -/
theorem open_structs {r : Reach} {b0 : Nat} {t e : TypeId} {fs : Array Field} {ks : List (Option IntKind)} {c : Nat} {v : Value} {d : DataW H} {ps : List MemPlace} (ht : P.underlying t = some (.slice e)) (he : P.underlying e = some (.struct fs)) (hone : oneCellFields P fs = true) (hk : kindsB P fs ks = true) (hC : P.cellsOf e = c) (hc : c = ks.length) (hpos : 0 < c)
    (hval : Value.okWide P w r b0 t v) (hd : DataW.Trod enc P w base spare held t v d ps) :
    ∃ (ao : Option Addr) (len cap : Nat), v = .slice ao len cap ∧ len ≤ cap ∧ cap ≤ maxLen ∧
      ∀ k, k < len → ∃ (b off : Nat) (cs : List Value), ao = some ⟨b, off, none⟩ ∧ b < w.heap.size ∧ cellsOk ks cs ∧ ∀ i, i < c → w.cell? ⟨b, off + k * c + i, none⟩ = cs[i]? := by
  obtain ⟨ao, len, cap, rfl, h1, h2, h3⟩ := open_cells ht hC hpos hval hd
  refine ⟨ao, len, cap, rfl, h1, h2, fun k hlt => ?_⟩
  obtain ⟨b, off, cs, m, x, hao, hb, _, hcell, htrod⟩ := h3 k hlt
  exact ⟨b, off, cs, hao, hb, struct_cells he hone hk (hC.trans hc) htrod, hcell⟩
end

/-- A list out of what each place has. -/
theorem list_of {α : Type} {R : Nat → α → Prop} : ∀ n : Nat, (∀ k, k < n → ∃ p, R k p) → ∃ xs : List α, xs.length = n ∧ ∀ (j : Nat) (p : α), xs[j]? = some p → R j p
  | 0, _ => ⟨[], rfl, fun j p h => by simp at h⟩
  | n + 1, h => by
    obtain ⟨xs, hl, hx⟩ := list_of n fun k hk => h k (by omega)
    obtain ⟨p, hp⟩ := h n (by omega)
    refine ⟨xs ++ [p], by simp [hl], fun j q hj => ?_⟩
    rcases Nat.lt_or_ge j n with hlt | hge
    · rw [List.getElem?_append_left (by omega)] at hj
      exact hx j q hj
    · rw [List.getElem?_append_right (by omega)] at hj
      have h0 : j - xs.length = 0 := by
        rcases Nat.eq_zero_or_pos (j - xs.length) with h0 | h0
        · exact h0
        · rw [List.getElem?_eq_none (by simp; omega)] at hj
          cases hj
      rw [h0] at hj
      obtain rfl : p = q := by simpa using hj
      obtain rfl : j = n := by omega
      exact hp
theorem add_mk (b off n : Nat) : (⟨b, off, none⟩ : Addr).add n = ⟨b, off + n, none⟩ := by
  unfold Addr.add
  by_cases h : n = 0
  · simp [h]
  · simp [h]
section
variable {H : Type} {enc : TypeId × Value → H} {P : Program} {w : World} {base : Nat} {spare : Nat → Bool} {held : Bool}
/-- A row's slice is no longer than its weight allows. -/
theorem len_sized {t e : TypeId} {ao : Option Addr} {len cap : Nat} {d : DataW H} {ps : List MemPlace} {ts : List TypeId} {ds : List (DataW H)} {j : Nat}
    (hsz : (DataW.weightsEach P ts ds).all (· ≤ reachBytes) = true) (ht : ts[j]? = some t) (hd : ds[j]? = some d) (hu : P.underlying t = some (.slice e)) {B : Nat} (hB : P.bytesOf e = B)
    (h : DataW.Trod enc P w base spare held t (.slice ao len cap) d ps) : len * B ≤ 140737488351232 := by
  obtain ⟨fuel, hf⟩ := h
  rcases Deep.open_slice hu hf with ⟨hcs, _⟩ | ⟨a, len', cap', m, n, D, Pl, hcs, _, hl, hm, hmm, hx, _⟩
  · simp only [Value.cells, List.cons.injEq, and_true, Value.slice.injEq] at hcs
    obtain ⟨rfl, rfl, rfl⟩ := hcs
    simp
  · simp only [Value.cells, List.cons.injEq, and_true, Value.slice.injEq] at hcs
    obtain ⟨rfl, rfl, rfl⟩ := hcs
    obtain ⟨hx, _⟩ := Prod.mk.inj hx
    subst hx
    have z := sized_slice hsz ht hd hu
    rw [hB] at z
    simp only [List.length_map, List.length_range] at z
    have : len * B ≤ (len + (m - len)) * B := Nat.mul_le_mul_right _ (by omega)
    exact Nat.le_trans this z

/-- A slice of whole numbers. -/
theorem open_nums {r : Reach} {b0 : Nat} {t e : TypeId} {k2 : IntKind} {v : Value} {d : DataW H} {ps : List MemPlace} (ht : P.underlying t = some (.slice e)) (he : P.underlying e = some (.int k2)) (hc : P.cellsOf e = 1)
    (hval : Value.okWide P w r b0 t v) (hd : DataW.Trod enc P w base spare held t v d ps) :
    ∃ (ao : Option Addr) (len cap : Nat), v = .slice ao len cap ∧ len ≤ cap ∧ cap ≤ maxLen ∧
      ∀ k, k < len → ∃ (b off : Nat) (z : Int), ao = some ⟨b, off, none⟩ ∧ b < w.heap.size ∧ (Lit.int k2 z).wf = true ∧ w.cell? ⟨b, off + k, none⟩ = some (.int k2 z) := by
  obtain ⟨ao, len, cap, rfl, h1, h2, h3⟩ := open_cells ht hc Nat.one_pos hval hd
  refine ⟨ao, len, cap, rfl, h1, h2, fun k hlt => ?_⟩
  obtain ⟨b, off, cs, m, x, hao, hb, hl, hcell, htrod⟩ := h3 k hlt
  obtain ⟨z, rfl, _, hw⟩ := DataW.trod_int he htrod
  refine ⟨b, off, z, hao, hb, hw, ?_⟩
  have := hcell 0 (by omega)
  simpa using this
end
end Go.Proofs.Ytbcpfgcpekfgiaa
