/- An append of bytes, from nil or not; and the contracts of the checksums at a length that is given. -/
import Derived.Test.YtbcpfgcpekfgiaaSumsP
import Derived.Test.YtbcpfgcpekfgiaaRows
import Derived.Laws.AppendOwnNone
namespace Go.Proofs.Ytbcpfgcpekfgiaa
open Go.RowKit Go.Shelf

def bvs (m : Nat) (f : Nat → Int) : List Value := (List.range m).map fun i => Value.int .u8 (f i)
theorem bvs_length (m : Nat) (f : Nat → Int) : (bvs m f).length = m := by simp [bvs]
theorem bvs_get {m : Nat} (f : Nat → Int) {i : Nat} (h : i < m) : (bvs m f)[i]? = some (.int .u8 (f i)) := by simp [bvs, h]
theorem run_append_empty {P : Program} (w : World) (base : Nat) (t ty e : TypeId) (i : TypeInfo) (size : Nat) (ht : P.underlying t = some (.slice e)) (hi : P.info? e = some i)
    (g n cap : Nat) (xs : List Value) (hown : w.ownsRow base e size (.slice (some ⟨g, 0, none⟩) n cap) n xs) (c : Nat) :
    (Builtin.append_ #[t, t] ty #[.slice (some ⟨g, 0, none⟩) n cap, .slice none 0 c]).run P w = .ok (.slice (some ⟨g, 0, none⟩) n cap) w := by
  rcases hown.2 with ⟨h, rfl⟩ | ⟨g, cap, cur, h, _, _, hnc, _⟩
  · cases h
  · cases h
    simp [Builtin.append_, run_underlying ht, sizeOf, typeInfo, hi, Builtin.lenOf, Builtin.firstCells, hnc, storeCells]
theorem grown_self (w : World) (r : Option Nat) : w.grownBy w r := ⟨rfl, rfl, rfl, Nat.le_refl _, fun _ _ _ => rfl⟩
theorem own_some {w : World} {base n : Nat} {e : TypeId} {v : Value} {size : Nat} {xs : List Value} (h : w.ownsRow base e size v n xs) (hn : 0 < n) : ∃ g cap, v = .slice (some ⟨g, 0, none⟩) n cap := by
  rcases h.2 with ⟨_, h0⟩ | ⟨g, cap, _, hv, _⟩
  · omega
  · exact ⟨g, cap, hv⟩
theorem app_bytes {ops : Array Oper} {rest : List Oper} {o : Oper} {a : Act} {Q : Exit → Act → World → Prop} (w : World) (hgd : o.guard = none) (s x : Operand)
    (ho : o.op = .call { callee := .builtin .append, args := #[s, x], argTypes := #[59, 59] })
    (base g n cap : Nat) (xs : List Value) (hs : a.eval s = .slice (some ⟨g, 0, none⟩) n cap) (hown : w.ownsRow base 5 1 (.slice (some ⟨g, 0, none⟩) n cap) n xs)
    (A : Option Addr) (m c : Nat) (f : Nat → Int) (hx : a.eval x = .slice A m c) (hc : 0 < m → ∃ p q, A = some ⟨p, q, none⟩ ∧ ∀ i, i < m → w.cell? ⟨p, q + i, none⟩ = some (.int .u8 (f i)))
    (hb : n + m ≤ 140737488355328) (hbase : base ≤ w.heap.size)
    (h : ∀ g' cap' w', w'.ownsRow base 5 1 (.slice (some ⟨g', 0, none⟩) (n + m) cap') (n + m) (xs ++ bvs m f) → w.grownBy w' (some g) → wpList Try.prog ops Q rest (a.put o.dst (.slice (some ⟨g', 0, none⟩) (n + m) cap')) w') :
    wpList Try.prog ops Q (o :: rest) a w := by
  obtain ⟨i0, hi, hz0, hz1, hz2⟩ := info_parts' Try.infoByte
  by_cases hm : m = 0
  · subst hm
    have e0 : xs ++ bvs 0 f = xs := by simp [bvs]
    have hh := h g cap w (by rw [e0]; exact hown) (grown_self w _)
    cases A with
    | none =>
      refine wpList_plain hgd fun K hK => ?_
      have hrun := run_append_empty (P := Try.prog) w base 59 o.type 5 i0 1 Try.underlying59 hi g n cap xs hown c
      unfold Oper.wp
      simp [execOp, ho, resolve, invoke, builtin, hs, hx, hrun, Result.andThen]
      exact hK _ _ hh
    | some ad =>
      refine wpList_append_own w hgd s x 59 ho base 5 i0 (.int .u8 0) 1 1 Try.underlying59 hi hz0 hz1 hz2 rfl (by decide) _ n xs hs hown ad 0 c [] hx rfl (fun j u hu => by simp at hu) (fun u hu => by simp at hu) (by unfold maxLen; omega) (by omega) hbase ?_
      intro v' w' h1 h2 h3
      rcases h1.2 with ⟨hv, h0⟩ | ⟨g', cap', cur, hv, hr⟩
      · have := (h3.1 hv).1
        cases this
      · subst hv
        refine h g' cap' w' (by rw [e0, ← List.append_nil xs]; exact h1) h2
  · obtain ⟨p, q, rfl, hcc⟩ := hc (by omega)
    refine wpList_append_own w hgd s x 59 ho base 5 i0 (.int .u8 0) 1 1 Try.underlying59 hi hz0 hz1 hz2 rfl (by decide) _ n xs hs hown ⟨p, q, none⟩ m c (bvs m f) hx (by rw [bvs_length, Nat.mul_one]) (fun j u hu => ?_) (fun u hu => ?_) (by unfold maxLen; omega) (by omega) hbase ?_
    · have hj : j < m := by
        have := (List.getElem?_eq_some_iff.1 hu).1
        rw [bvs_length] at this
        exact this
      rw [bvs_get f hj] at hu
      rw [add_none, hcc j hj]
      exact hu
    · simp only [bvs, List.mem_map] at hu
      obtain ⟨_, _, rfl⟩ := hu
      rfl
    · intro v' w' h1 h2 _
      obtain ⟨g', cap', rfl⟩ := own_some h1 (by omega)
      exact h g' cap' w' h1 h2

theorem fill_n (g o n cap m : Nat) (b : Nat → Int) (w : World) (hn : n = 2 * m) (hm : 2 ≤ m) (hg : g < w.heap.size) (hb : ∀ i, isByte (b i)) (hcell : ∀ i, i < n → w.cell? ⟨g, o + i, none⟩ = some (.int .u8 (b i))) (hlen : n ≤ 140737488355328) :
    Calls Try.prog 33 #[.slice (some ⟨g, o, none⟩) n cap, .int .i64 2] w fun e w' => ∃ h, e = .returned (.tuple #[.slice (some ⟨h, 0, none⟩) n n, .int .i64 0]) ∧ w.heap.size ≤ h ∧ Blk w' h 5 (byA n (fillB b m)) ∧ Below w.heap.size w w' := by
  subst hn
  exact fill_any g o cap m b w hm hg hb hcell hlen
theorem good_n (g n m : Nat) (f : Nat → Int) (w : World) (hn : n = 2 * m) (hm : 2 ≤ m) (hf : Inv f m) (hg : Blk w g 5 (byA n f)) (hlen : n ≤ 140737488355328) :
    Calls Try.prog 34 #[.slice (some ⟨g, 0, none⟩) n n] w fun e w' => e = .returned (.bool true) ∧ Below w.heap.size w w' := by
  subst hn
  exact good_any g 0 (2 * m) m f w (Nat.le_refl _) hg.lt hf.byte (fun i hi => by rw [Nat.zero_add]; exact (hg.cell i).trans (byA_get _ hi)) hlen (hf.good hm)
theorem fill_again (g n m : Nat) (f : Nat → Int) (w : World) (hn : n = 2 * m) (hm : 2 ≤ m) (hf : Inv f m) (hg : Blk w g 5 (byA n f)) (hlen : n ≤ 140737488355328) :
    Calls Try.prog 33 #[.slice (some ⟨g, 0, none⟩) n n, .int .i64 2] w fun e w' => ∃ h, e = .returned (.tuple #[.slice (some ⟨h, 0, none⟩) n n, .int .i64 0]) ∧ w.heap.size ≤ h ∧ Blk w' h 5 (byA n f) ∧ Below w.heap.size w w' := by
  refine (fill_n g 0 n n m f w hn hm hg.lt hf.byte (fun i hi => by rw [Nat.zero_add]; exact (hg.cell i).trans (byA_get _ hi)) hlen).mono ?_
  rintro e w' ⟨h, rfl, hh, hb, hB⟩
  rw [byA_congr (g := f) fun i _ => hf.fill hm i] at hb
  exact ⟨h, rfl, hh, hb, hB⟩
end Go.Proofs.Ytbcpfgcpekfgiaa
