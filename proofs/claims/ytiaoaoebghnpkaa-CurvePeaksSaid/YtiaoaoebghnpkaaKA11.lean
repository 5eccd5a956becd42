/- Part of the proof. -/
import Derived.Test.YtiaoaoebghnpkaaKA10
/- The document's answers on wide numbers: Of, Add, Sub, Less, Cap. -/
namespace Go.Proofs.Ytiaoaoebghnpkaa
open Go.RowKit

theorem bits_zero : (Try.prog.info? 112).bind (·.zero) = some (.agg (A128 fun _ => 0)) := by
  rw [A128_zero]; kernel_rfl

theorem rof_any (a : Int) (w : World) : Calls Try.prog 48 #[.int .u64 a] w fun e w' => e = .returned (.agg #[.int .u64 0, .int .u64 a]) ∧ Below w.heap.size w w' := by
  go_enter Try.func48, Try.ntmps48
  go_wp2
  go_returns
  exact ⟨rfl, by go_grown⟩

set_option maxHeartbeats 2000000 in
theorem radd_any (a b c d : Int) (w : World) (ha : U a) (hb : U b) (hc : U c) (hd : U d) : Calls Try.prog 47 #[.agg #[.int .u64 a, .int .u64 b], .agg #[.int .u64 c, .int .u64 d]] w fun e w' => e = .returned (.tuple #[.agg #[.int .u64 (hi (wd a b + wd c d)), .int .u64 (lo (wd a b + wd c d))], .bool (ov (wd a b + wd c d))]) ∧ Below w.heap.size w w' := by
  have hX := V_wd ha hb
  have hY := V_wd hc hd
  go_enter Try.func47, Try.ntmps47
  go_wp2_with fail
  refine wp_region_loose' 6 (by kernel_rfl) (by kernel_rfl) ?_
  simp only [List.take_succ_cons, List.take_zero, List.drop_succ_cons, List.drop_zero, List.filter_cons, List.filter_nil, laysB, Bool.not_false, Bool.not_true, if_true, Bool.false_eq_true, if_false]
  refine walk1_open fun K hK => ?_
  repeat
    apply walk1_value (by rfl)
    · intro W hcl hsz; go_simp; rfl
    simp only [Act.put, List.setIfInBounds_toArray, List.set_cons_zero, List.set_cons_succ]
  apply walk1_call (by rfl)
  · intro W hsz; go_simp; first | exact ⟨rfl, rfl⟩ | rfl
  · intro W hlW; exact bits_any _ _ _ ha hb
  simp only [Act.put, List.setIfInBounds_toArray, List.set_cons_zero, List.set_cons_succ]
  repeat
    apply walk1_value (by rfl)
    · intro W hcl hsz; go_simp; rfl
    simp only [Act.put, List.setIfInBounds_toArray, List.set_cons_zero, List.set_cons_succ]
  apply walk1_call (by rfl)
  · intro W hsz; go_simp; first | exact ⟨rfl, rfl⟩ | rfl
  · intro W hlW; exact bits_any _ _ _ hc hd
  simp only [Act.put, List.setIfInBounds_toArray, List.set_cons_zero, List.set_cons_succ]
  refine walk1_nil (hK _ ?_); clear hK K
  refine walk2_alloc 112 (.agg (A128 fun _ => 0)) (A128 fun _ => 0) rfl bits_zero (by simp only [Value.cells]) (by rfl) fun g1 hg1 hd1 => ?_
  refine walk2_alloc 112 (.agg (A128 fun _ => 0)) (A128 fun _ => 0) rfl bits_zero (by simp only [Value.cells]) (by rfl) fun g2 hg2 hd2 => ?_
  refine walk2_nil ?_
  intro W hW
  simp only [Act.put, List.setIfInBounds_toArray, List.set_cons_zero, List.set_cons_succ]
  have b1 : Blk W g1 112 (A128 fun _ => 0) := hW.blk (List.mem_cons_of_mem _ (List.mem_cons_self ..))
  have b2 : Blk W g2 112 (A128 fun _ => 0) := hW.blk (List.mem_cons_self ..)
  have hne : g1 ≠ g2 := hd2 _ (List.mem_cons_self ..)
  have hB := below_of (w := w) (by go_grown) hW.1
  have b0 : Blk W (w.heap.size + 1 + 1) 42 #[.int .u64 0, .int .u64 0] := by
    have := (Blk.new ((w.alloc (.cells #[.int .u64 a, .int .u64 b] 42)).alloc (.cells #[.int .u64 c, .int .u64 d] 42)) 42 #[.int .u64 0, .int .u64 0]).step hW.1
    rwa [World.size_alloc, World.size_alloc] at this
  simp only [World.size_alloc] at hg1 hg2
  refine wpList_store_row rfl 112 (.tmp 6) (.tmp 12) rfl g1 (A128 (bit (wd a b))) rfl rfl 112 (A128 fun _ => 0) b1 (by rw [A128_size]; exact zero_bits.2) (by rw [A128_size, A128_size]) (A128_one _) ?_
  simp only [Act.put]
  refine wpList_store_row rfl 112 (.tmp 7) (.tmp 14) rfl g2 (A128 (bit (wd c d))) rfl rfl 112 (A128 fun _ => 0) (b2.rowFar (fun e => hne e.symm) _) (by rw [A128_size]; exact zero_bits.2) (by rw [A128_size, A128_size]) (A128_one _) ?_
  simp only [Act.put]
  have x1 := (b1.row (A128 (bit (wd a b)))).rowFar hne (A128 (bit (wd c d)))
  have x2 := (b2.rowFar (fun e => hne e.symm) (A128 (bit (wd a b)))).row (A128 (bit (wd c d)))
  have x0 := (b0.rowFar (show w.heap.size + 1 + 1 ≠ g1 by omega) (A128 (bit (wd a b)))).rowFar (show w.heap.size + 1 + 1 ≠ g2 by omega) (A128 (bit (wd c d)))
  have xB := below_row (below_row hB (show w.heap.size ≤ g1 by omega) (A128 (bit (wd a b)))) (show w.heap.size ≤ g2 by omega) (A128 (bit (wd c d)))
  generalize (W.setRow g1 (A128 (bit (wd a b)))).setRow g2 (A128 (bit (wd c d))) = W1 at x1 x2 x0 xB ⊢
  clear b0 b1 b2 hB hW hd1 hd2
  refine wpList_nil ?_
  go_wp2
  go_loopw [8, 9] (fun cv iv wr => ∃ (k : Nat) (f : Nat → Int) (e : Int), k ≤ 128 ∧ iv = .int .i64 k ∧ cv = .int .i64 e ∧ 0 ≤ e ∧ e ≤ 1 ∧ IsBits f ∧ Blk wr g1 112 (A128 f) ∧ Blk wr g2 112 (A128 (bit (wd c d))) ∧ Blk wr (w.heap.size + 1 + 1) 42 #[.int .u64 0, .int .u64 0] ∧ Below w.heap.size w wr ∧
      Hid (num f k + e * 2 ^ k = num (bit (wd a b)) k + num (bit (wd c d)) k ∧ ∀ j, k ≤ j → f j = bit (wd a b) j)) (fun _ iv _ => 128 - (intOf iv).toNat)
  case atStart => exact ⟨0, bit (wd a b), 0, by omega, rfl, rfl, by omega, by omega, isBits_bit _, x1, x2, x0, xB, ⟨by simp [num], fun _ _ => rfl⟩⟩
  case round =>
    obtain ⟨k, f, e, hk, rfl, rfl, he0, he1, hf, x1, x2, x0, xB, hid⟩ := hrel
    by_cases hlt : k < 128
    · have l1 := x1.lt
      have l2 := x2.lt
      have c1 := x1.cell k
      have c2 := x2.cell k
      rw [A128_get _ _ hlt] at c1 c2
      have hy := isBits_bit (wd c d) k
      have hfk := hf k
      have hfe := Lib.hid (hid.out.2 k (Nat.le_refl _))
      obtain ⟨y, hyy⟩ : ∃ y, y = bit (wd c d) k := ⟨_, rfl⟩
      obtain ⟨z, hz⟩ : ∃ z, z = f k := ⟨_, rfl⟩
      rw [← hyy] at c2 hy
      rw [← hz] at c1 hfk
      have hy0 : 0 ≤ y ∧ y ≤ 1 := by rcases hy with h | h <;> omega
      have hz0 : 0 ≤ z ∧ z ≤ 1 := by rcases hfk with h | h <;> omega
      have hk0 : (k : Int) < 128 := by omega
      obtain ⟨hy1, hy2⟩ := hy0
      obtain ⟨hz1, hz2⟩ := hz0
      have s1 : IntKind.i64.wrap (z + y) = z + y := IntWalk.i64_in _ (by omega)
      have s2 : IntKind.i64.wrap (z + y + e) = z + y + e := IntWalk.i64_in _ (by omega)
      have HY := Lib.hid hyy
      have HZ := Lib.hid hz
      have B1 := Lib.hid x1
      have B2 := Lib.hid x2
      have B0 := Lib.hid x0
      clear hyy hz hy hfk x1 x2 x0
      go_wp2_with fail
      refine wp_region_calls 9 (by kernel_rfl) (by kernel_rfl) ?_
      simp only [List.take_succ_cons, List.take_zero, List.drop_succ_cons, List.drop_zero]
      refine walk1_open fun K hK => ?_
      repeat
        apply walk1_value (by rfl)
        · intro W hcl hsz; go_simp; rfl
        simp only [Act.put, List.setIfInBounds_toArray, List.set_cons_zero, List.set_cons_succ]
      refine walk1_nil (hK _ ?_); clear hK K
      intro W2 hW2
      have B1' := Lib.hid (B1.out.step hW2)
      have B2' := Lib.hid (B2.out.step hW2)
      have B0' := Lib.hid (B0.out.step hW2)
      have hB2 := below_of xB hW2
      have m1 := B1'.out.cell k
      have n1 := B1'.out.frozen k
      rw [A128_get _ _ hlt] at m1
      clear B1 B2 B0 xB hW2 c1 c2 l1 l2
      go_wp2
      go_roundw
      case rel =>
        refine ⟨k + 1, upd f k ((z + y + e) % 2), (z + y + e) / 2, by omega, by go_num, rfl, by omega, by omega, isBits_upd hf k (by omega), ?_, ?_, ?_, ?_, ?_⟩
        · rw [← A128_put _ _ _ hlt]
          exact B1'.out.put k _
        · exact B2'.out.far (fun h => hne h.symm) _
        · exact B0'.out.far (by simp <;> omega) _
        · exact hB2.setCell (p := ⟨g1, k, none⟩) (by simp <;> omega) _
        · refine ⟨?_, fun j hj => ?_⟩
          · rw [HY.out, HZ.out]; exact add_step k hfe.out hid.out.1
          · unfold upd; rw [if_neg (by omega)]; exact hid.out.2 j (by omega)
      case measure => simp [intOf]; omega
    · have ek : k = 128 := by omega
      subst ek
      obtain ⟨r1, r2, r3⟩ := add_end hf hX hY (by omega) hid.out.1
      have R1 := Lib.hid r1
      have R2 := Lib.hid r2
      have R3 := Lib.hid r3
      clear r1 r2 r3 hid
      have B0 := Lib.hid x0
      clear x0 x2
      go_upto_region 9 with (fail)
      refine wp_region_lit ?_
      refine wpList_load_row rfl 112 (.tmp 6) rfl g1 rfl 112 (A128 f) (0, 0) _ x1 Try.underlying112 rfl (by rw [A128_size]; exact zero_bits.2) ?_
      simp only [Act.put, List.setIfInBounds_toArray, List.set_cons_zero, List.set_cons_succ]
      clear x1
      go_wp2_with fail
      refine (whole_any f _ hf).mono ?_
      rintro e W1 ⟨rfl, hW1⟩
      have B0' := Lib.hid (B0.out.step hW1)
      have hB1 := below_of xB hW1
      have c0 := B0'.out.cell 0
      have c1 := B0'.out.cell 1
      have f0 := B0'.out.frozen 0
      have f1 := B0'.out.frozen 1
      simp only [List.getElem?_toArray, List.getElem?_cons_zero, List.getElem?_cons_succ] at c0 c1
      go_wp2
      apply bodyPost_ret
      · simp [results, Try.results47, go_sem, c0, c1]; rfl
      · rfl
      · exact ⟨ret_wide_bool R1.out R2.out R3.out, by go_grown⟩

set_option maxHeartbeats 2000000 in
theorem rsub_any (a b c d : Int) (w : World) (ha : U a) (hb : U b) (hc : U c) (hd : U d) : Calls Try.prog 71 #[.agg #[.int .u64 a, .int .u64 b], .agg #[.int .u64 c, .int .u64 d]] w fun e w' => e = .returned (.tuple #[.agg #[.int .u64 (hi (wd a b - wd c d)), .int .u64 (lo (wd a b - wd c d))], .bool (decide (wd a b < wd c d))]) ∧ Below w.heap.size w w' := by
  have hX := V_wd ha hb
  have hY := V_wd hc hd
  go_enter Try.func71, Try.ntmps71
  go_wp2_with fail
  refine wp_region_loose' 6 (by kernel_rfl) (by kernel_rfl) ?_
  simp only [List.take_succ_cons, List.take_zero, List.drop_succ_cons, List.drop_zero, List.filter_cons, List.filter_nil, laysB, Bool.not_false, Bool.not_true, if_true, Bool.false_eq_true, if_false]
  refine walk1_open fun K hK => ?_
  repeat
    apply walk1_value (by rfl)
    · intro W hcl hsz; go_simp; rfl
    simp only [Act.put, List.setIfInBounds_toArray, List.set_cons_zero, List.set_cons_succ]
  apply walk1_call (by rfl)
  · intro W hsz; go_simp; first | exact ⟨rfl, rfl⟩ | rfl
  · intro W hlW; exact bits_any _ _ _ ha hb
  simp only [Act.put, List.setIfInBounds_toArray, List.set_cons_zero, List.set_cons_succ]
  repeat
    apply walk1_value (by rfl)
    · intro W hcl hsz; go_simp; rfl
    simp only [Act.put, List.setIfInBounds_toArray, List.set_cons_zero, List.set_cons_succ]
  apply walk1_call (by rfl)
  · intro W hsz; go_simp; first | exact ⟨rfl, rfl⟩ | rfl
  · intro W hlW; exact bits_any _ _ _ hc hd
  simp only [Act.put, List.setIfInBounds_toArray, List.set_cons_zero, List.set_cons_succ]
  refine walk1_nil (hK _ ?_); clear hK K
  refine walk2_alloc 112 (.agg (A128 fun _ => 0)) (A128 fun _ => 0) rfl bits_zero (by simp only [Value.cells]) (by rfl) fun g1 hg1 hd1 => ?_
  refine walk2_alloc 112 (.agg (A128 fun _ => 0)) (A128 fun _ => 0) rfl bits_zero (by simp only [Value.cells]) (by rfl) fun g2 hg2 hd2 => ?_
  refine walk2_nil ?_
  intro W hW
  simp only [Act.put, List.setIfInBounds_toArray, List.set_cons_zero, List.set_cons_succ]
  have b1 : Blk W g1 112 (A128 fun _ => 0) := hW.blk (List.mem_cons_of_mem _ (List.mem_cons_self ..))
  have b2 : Blk W g2 112 (A128 fun _ => 0) := hW.blk (List.mem_cons_self ..)
  have hne : g1 ≠ g2 := hd2 _ (List.mem_cons_self ..)
  have hB := below_of (w := w) (by go_grown) hW.1
  have b0 : Blk W (w.heap.size + 1 + 1) 42 #[.int .u64 0, .int .u64 0] := by
    have := (Blk.new ((w.alloc (.cells #[.int .u64 a, .int .u64 b] 42)).alloc (.cells #[.int .u64 c, .int .u64 d] 42)) 42 #[.int .u64 0, .int .u64 0]).step hW.1
    rwa [World.size_alloc, World.size_alloc] at this
  simp only [World.size_alloc] at hg1 hg2
  refine wpList_store_row rfl 112 (.tmp 6) (.tmp 12) rfl g1 (A128 (bit (wd a b))) rfl rfl 112 (A128 fun _ => 0) b1 (by rw [A128_size]; exact zero_bits.2) (by rw [A128_size, A128_size]) (A128_one _) ?_
  simp only [Act.put]
  refine wpList_store_row rfl 112 (.tmp 7) (.tmp 14) rfl g2 (A128 (bit (wd c d))) rfl rfl 112 (A128 fun _ => 0) (b2.rowFar (fun e => hne e.symm) _) (by rw [A128_size]; exact zero_bits.2) (by rw [A128_size, A128_size]) (A128_one _) ?_
  simp only [Act.put]
  have x1 := (b1.row (A128 (bit (wd a b)))).rowFar hne (A128 (bit (wd c d)))
  have x2 := (b2.rowFar (fun e => hne e.symm) (A128 (bit (wd a b)))).row (A128 (bit (wd c d)))
  have x0 := (b0.rowFar (show w.heap.size + 1 + 1 ≠ g1 by omega) (A128 (bit (wd a b)))).rowFar (show w.heap.size + 1 + 1 ≠ g2 by omega) (A128 (bit (wd c d)))
  have xB := below_row (below_row hB (show w.heap.size ≤ g1 by omega) (A128 (bit (wd a b)))) (show w.heap.size ≤ g2 by omega) (A128 (bit (wd c d)))
  generalize (W.setRow g1 (A128 (bit (wd a b)))).setRow g2 (A128 (bit (wd c d))) = W1 at x1 x2 x0 xB ⊢
  clear b0 b1 b2 hB hW hd1 hd2
  refine wpList_nil ?_
  go_wp2
  go_loopw [8, 9] (fun cv iv wr => ∃ (k : Nat) (f : Nat → Int) (e : Int), k ≤ 128 ∧ iv = .int .i64 k ∧ cv = .int .i64 e ∧ 0 ≤ e ∧ e ≤ 1 ∧ IsBits f ∧ Blk wr g1 112 (A128 f) ∧ Blk wr g2 112 (A128 (bit (wd c d))) ∧ Blk wr (w.heap.size + 1 + 1) 42 #[.int .u64 0, .int .u64 0] ∧ Below w.heap.size w wr ∧
      Hid (num f k - e * 2 ^ k = num (bit (wd a b)) k - num (bit (wd c d)) k ∧ ∀ j, k ≤ j → f j = bit (wd a b) j)) (fun _ iv _ => 128 - (intOf iv).toNat)
  case atStart => exact ⟨0, bit (wd a b), 0, by omega, rfl, rfl, by omega, by omega, isBits_bit _, x1, x2, x0, xB, ⟨by simp [num], fun _ _ => rfl⟩⟩
  case round =>
    obtain ⟨k, f, e, hk, rfl, rfl, he0, he1, hf, x1, x2, x0, xB, hid⟩ := hrel
    by_cases hlt : k < 128
    · have l1 := x1.lt
      have l2 := x2.lt
      have c1 := x1.cell k
      have c2 := x2.cell k
      rw [A128_get _ _ hlt] at c1 c2
      have hy := isBits_bit (wd c d) k
      have hfk := hf k
      have hfe := Lib.hid (hid.out.2 k (Nat.le_refl _))
      obtain ⟨y, hyy⟩ : ∃ y, y = bit (wd c d) k := ⟨_, rfl⟩
      obtain ⟨z, hz⟩ : ∃ z, z = f k := ⟨_, rfl⟩
      rw [← hyy] at c2 hy
      rw [← hz] at c1 hfk
      have hy0 : 0 ≤ y ∧ y ≤ 1 := by rcases hy with h | h <;> omega
      have hz0 : 0 ≤ z ∧ z ≤ 1 := by rcases hfk with h | h <;> omega
      have hk0 : (k : Int) < 128 := by omega
      obtain ⟨hy1, hy2⟩ := hy0
      obtain ⟨hz1, hz2⟩ := hz0
      have s1 : IntKind.i64.wrap (z - y) = z - y := IntWalk.i64_in _ (by omega)
      have s2 : IntKind.i64.wrap (z - y - e) = z - y - e := IntWalk.i64_in _ (by omega)
      have HY := Lib.hid hyy
      have HZ := Lib.hid hz
      have B1 := Lib.hid x1
      have B2 := Lib.hid x2
      have B0 := Lib.hid x0
      clear hyy hz hy hfk x1 x2 x0
      go_wp2_with fail
      refine wp_region_calls 9 (by kernel_rfl) (by kernel_rfl) ?_
      simp only [List.take_succ_cons, List.take_zero, List.drop_succ_cons, List.drop_zero]
      refine walk1_open fun K hK => ?_
      repeat
        apply walk1_value (by rfl)
        · intro W hcl hsz; go_simp; rfl
        simp only [Act.put, List.setIfInBounds_toArray, List.set_cons_zero, List.set_cons_succ]
      refine walk1_nil (hK _ ?_); clear hK K
      intro W2 hW2
      have B1' := Lib.hid (B1.out.step hW2)
      have B2' := Lib.hid (B2.out.step hW2)
      have B0' := Lib.hid (B0.out.step hW2)
      have hB2 := below_of xB hW2
      have m1 := B1'.out.cell k
      have n1 := B1'.out.frozen k
      rw [A128_get _ _ hlt] at m1
      clear B1 B2 B0 xB hW2 c1 c2 l1 l2
      have fin : ∀ v b' : Int, (v = 0 ∨ v = 1) → v - b' * 2 = z - y - e → 0 ≤ b' → b' ≤ 1 → ∃ (f' : Nat → Int), IsBits f' ∧ Blk (W2.setCell ⟨g1, k, none⟩ (.int .i64 v)) g1 112 (A128 f') ∧ Blk (W2.setCell ⟨g1, k, none⟩ (.int .i64 v)) g2 112 (A128 (bit (wd c d))) ∧
          Blk (W2.setCell ⟨g1, k, none⟩ (.int .i64 v)) (w.heap.size + 1 + 1) 42 #[.int .u64 0, .int .u64 0] ∧ Below w.heap.size w (W2.setCell ⟨g1, k, none⟩ (.int .i64 v)) ∧
          Hid (num f' (k + 1) - b' * 2 ^ (k + 1) = num (bit (wd a b)) (k + 1) - num (bit (wd c d)) (k + 1) ∧ ∀ j, k + 1 ≤ j → f' j = bit (wd a b) j) := by
        intro v b' hv hvb _ _
        refine ⟨upd f k v, isBits_upd hf k hv, ?_, ?_, ?_, ?_, ?_⟩
        · rw [← A128_put _ _ _ hlt]
          exact B1'.out.put k _
        · exact B2'.out.far (fun h => hne h.symm) _
        · exact B0'.out.far (by simp <;> omega) _
        · exact hB2.setCell (p := ⟨g1, k, none⟩) (by simp <;> omega) _
        · refine ⟨sub_step k hid.out.1 ?_, fun j hj => ?_⟩
          · rw [hvb, ← HY.out, ← hfe.out, ← HZ.out]
          · unfold upd; rw [if_neg (by omega)]; exact hid.out.2 j (by omega)
      have Fin := Lib.hid fin
      clear fin
      by_cases hneg : z - y - e < 0
      · go_wp2
        go_roundw
        case rel =>
          obtain ⟨f', r1, r2, r3, r4, r5, r6⟩ := Fin.out (z - y - e + 2) 1 (by omega) (by omega) (by omega) (by omega)
          exact ⟨k + 1, f', 1, by omega, by go_num, rfl, by omega, by omega, r1, r2, r3, r4, r5, r6⟩
        case measure => simp [intOf]; omega
      · go_wp2
        go_roundw
        case rel =>
          obtain ⟨f', r1, r2, r3, r4, r5, r6⟩ := Fin.out (z - y - e) 0 (by omega) (by omega) (by omega) (by omega)
          exact ⟨k + 1, f', 0, by omega, by go_num, rfl, by omega, by omega, r1, r2, r3, r4, r5, r6⟩
        case measure => simp [intOf]; omega
    · have ek : k = 128 := by omega
      subst ek
      obtain ⟨r1, r2, r3⟩ := sub_end hf hX hY (by omega) hid.out.1
      have R1 := Lib.hid r1
      have R2 := Lib.hid r2
      have R3 := Lib.hid r3
      clear r1 r2 r3 hid
      have B0 := Lib.hid x0
      clear x0 x2
      go_upto_region 12 with (fail)
      refine wp_region_lit ?_
      refine wpList_load_row rfl 112 (.tmp 6) rfl g1 rfl 112 (A128 f) (0, 0) _ x1 Try.underlying112 rfl (by rw [A128_size]; exact zero_bits.2) ?_
      simp only [Act.put, List.setIfInBounds_toArray, List.set_cons_zero, List.set_cons_succ]
      clear x1
      go_wp2_with fail
      refine (whole_any f _ hf).mono ?_
      rintro e W1 ⟨rfl, hW1⟩
      have B0' := Lib.hid (B0.out.step hW1)
      have hB1 := below_of xB hW1
      have c0 := B0'.out.cell 0
      have c1 := B0'.out.cell 1
      have f0 := B0'.out.frozen 0
      have f1 := B0'.out.frozen 1
      simp only [List.getElem?_toArray, List.getElem?_cons_zero, List.getElem?_cons_succ] at c0 c1
      go_wp2
      apply bodyPost_ret
      · simp [results, Try.results71, go_sem, c0, c1]; rfl
      · rfl
      · exact ⟨ret_wide_bool R1.out R2.out R3.out, by go_grown⟩


set_option maxRecDepth 100000 in
set_option maxHeartbeats 2000000 in
theorem rless_any (a b c d : Int) (w : World) (ha : U a) (hb : U b) (hc : U c) (hd : U d) : Calls Try.prog 41 #[.agg #[.int .u64 a, .int .u64 b], .agg #[.int .u64 c, .int .u64 d]] w fun e w' => e = .returned (.bool (decide (wd a b < wd c d))) ∧ Below w.heap.size w w' := by
  have hX := V_wd ha hb
  have hY := V_wd hc hd
  go_enter Try.func41, Try.ntmps41
  go_wp2_with fail
  refine wp_region_loose' 6 (by kernel_rfl) (by kernel_rfl) ?_
  simp only [List.take_succ_cons, List.take_zero, List.drop_succ_cons, List.drop_zero, List.filter_cons, List.filter_nil, laysB, Bool.not_false, Bool.not_true, if_true, Bool.false_eq_true, if_false]
  refine walk1_open fun K hK => ?_
  repeat
    apply walk1_value (by rfl)
    · intro W hcl hsz; go_simp; rfl
    simp only [Act.put, List.setIfInBounds_toArray, List.set_cons_zero, List.set_cons_succ]
  apply walk1_call (by rfl)
  · intro W hsz; go_simp; first | exact ⟨rfl, rfl⟩ | rfl
  · intro W hlW; exact bits_any _ _ _ ha hb
  simp only [Act.put, List.setIfInBounds_toArray, List.set_cons_zero, List.set_cons_succ]
  repeat
    apply walk1_value (by rfl)
    · intro W hcl hsz; go_simp; rfl
    simp only [Act.put, List.setIfInBounds_toArray, List.set_cons_zero, List.set_cons_succ]
  apply walk1_call (by rfl)
  · intro W hsz; go_simp; first | exact ⟨rfl, rfl⟩ | rfl
  · intro W hlW; exact bits_any _ _ _ hc hd
  simp only [Act.put, List.setIfInBounds_toArray, List.set_cons_zero, List.set_cons_succ]
  refine walk1_nil (hK _ ?_); clear hK K
  refine walk2_alloc 112 (.agg (A128 fun _ => 0)) (A128 fun _ => 0) rfl bits_zero (by simp only [Value.cells]) (by rfl) fun g1 hg1 hd1 => ?_
  refine walk2_alloc 112 (.agg (A128 fun _ => 0)) (A128 fun _ => 0) rfl bits_zero (by simp only [Value.cells]) (by rfl) fun g2 hg2 hd2 => ?_
  refine walk2_nil ?_
  intro W hW
  simp only [Act.put, List.setIfInBounds_toArray, List.set_cons_zero, List.set_cons_succ]
  have b1 : Blk W g1 112 (A128 fun _ => 0) := hW.blk (List.mem_cons_of_mem _ (List.mem_cons_self ..))
  have b2 : Blk W g2 112 (A128 fun _ => 0) := hW.blk (List.mem_cons_self ..)
  have hne : g1 ≠ g2 := hd2 _ (List.mem_cons_self ..)
  have hB := below_of (w := w) (by go_grown) hW.1
  simp only [World.size_alloc] at hg1 hg2
  refine wpList_store_row rfl 112 (.tmp 5) (.tmp 9) rfl g1 (A128 (bit (wd a b))) rfl rfl 112 (A128 fun _ => 0) b1 (by rw [A128_size]; exact zero_bits.2) (by rw [A128_size, A128_size]) (A128_one _) ?_
  simp only [Act.put]
  refine wpList_store_row rfl 112 (.tmp 6) (.tmp 11) rfl g2 (A128 (bit (wd c d))) rfl rfl 112 (A128 fun _ => 0) (b2.rowFar (fun e => hne e.symm) _) (by rw [A128_size]; exact zero_bits.2) (by rw [A128_size, A128_size]) (A128_one _) ?_
  simp only [Act.put]
  have x1 := (b1.row (A128 (bit (wd a b)))).rowFar hne (A128 (bit (wd c d)))
  have x2 := (b2.rowFar (fun e => hne e.symm) (A128 (bit (wd a b)))).row (A128 (bit (wd c d)))
  have xB := below_row (below_row hB (show w.heap.size ≤ g1 by omega) (A128 (bit (wd a b)))) (show w.heap.size ≤ g2 by omega) (A128 (bit (wd c d)))
  generalize (W.setRow g1 (A128 (bit (wd a b)))).setRow g2 (A128 (bit (wd c d))) = W1 at x1 x2 xB ⊢
  clear b1 b2 hB hW hd1 hd2
  refine wpList_nil ?_
  go_wp2
  go_loopw [7] (fun iv wr => ∃ (j : Int), -1 ≤ j ∧ j ≤ 127 ∧ iv = .int .i64 j ∧ Blk wr g1 112 (A128 (bit (wd a b))) ∧ Blk wr g2 112 (A128 (bit (wd c d))) ∧ Below w.heap.size w wr ∧
      Hid (wd a b - wd c d = num (bit (wd a b)) (j + 1).toNat - num (bit (wd c d)) (j + 1).toNat)) (fun iv _ => (intOf iv + 1).toNat)
  case atStart => exact ⟨127, by omega, by omega, rfl, x1, x2, xB, show wd a b - wd c d = num _ 128 - num _ 128 by rw [num128 hX, num128 hY]⟩
  case round =>
    obtain ⟨j, hj1, hj2, rfl, x1, x2, xB, hid⟩ := hrel
    by_cases hlt : 0 ≤ j
    · obtain ⟨k, rfl⟩ := Int.eq_ofNat_of_zero_le hlt
      rw [show ((k : Int) + 1).toNat = k + 1 by omega] at hid
      have l1 := x1.lt
      have l2 := x2.lt
      have c1 := x1.cell k
      have c2 := x2.cell k
      rw [A128_get _ _ (by omega)] at c1 c2
      obtain ⟨y, hyy⟩ : ∃ y, y = bit (wd c d) k := ⟨_, rfl⟩
      obtain ⟨z, hz⟩ : ∃ z, z = bit (wd a b) k := ⟨_, rfl⟩
      rw [← hyy] at c2
      rw [← hz] at c1
      have hk0 : (k : Int) < 128 := by omega
      have HY := Lib.hid hyy
      have HZ := Lib.hid hz
      have B1 := Lib.hid x1
      have B2 := Lib.hid x2
      clear hyy hz x1 x2
      go_wp2_with fail
      refine wp_region_calls 7 (by kernel_rfl) (by kernel_rfl) ?_
      simp only [List.take_succ_cons, List.take_zero, List.drop_succ_cons, List.drop_zero]
      refine walk1_open fun K hK => ?_
      repeat
        apply walk1_value (by rfl)
        · intro W hcl hsz; go_simp; rfl
        simp only [Act.put, List.setIfInBounds_toArray, List.set_cons_zero, List.set_cons_succ]
      refine walk1_nil (hK _ ?_); clear hK K
      intro W2 hW2
      have B1' := Lib.hid (B1.out.step hW2)
      have B2' := Lib.hid (B2.out.step hW2)
      have hB2 := below_of xB hW2
      clear B1 B2 xB hW2 c1 c2 l1 l2
      have l1 := B1'.out.lt
      have l2 := B2'.out.lt
      have c1 := B1'.out.cell k
      have c2 := B2'.out.cell k
      rw [A128_get _ _ (by omega)] at c1 c2
      rw [← HY.out] at c2
      rw [← HZ.out] at c1
      by_cases hne : (z != y) = true
      · go_wp2_with fail
        refine wp_region_calls 8 (by kernel_rfl) (by kernel_rfl) ?_
        simp only [List.take_succ_cons, List.take_zero, List.drop_succ_cons, List.drop_zero]
        refine walk1_open fun K hK => ?_
        repeat
          apply walk1_value (by rfl)
          · intro W hcl hsz; go_simp; rfl
          simp only [Act.put, List.setIfInBounds_toArray, List.set_cons_zero, List.set_cons_succ]
        refine walk1_nil (hK _ ?_); clear hK K
        intro W3 hW3
        have hB3 := below_of hB2 hW3
        go_wp2
        go_returns
        refine ⟨ret_bool ?_, hB3⟩
        rw [HY.out, HZ.out, less_step (isBits_bit _) (isBits_bit _) k hid.out (by rw [← HY.out, ← HZ.out]; simpa using hne), Bool.eq_iff_iff]
        simp only [decide_eq_true_eq]; omega
      · have hne' : (z != y) = false := by simpa using hne
        have heq : z = y := by simpa using hne
        have HE := Lib.hid heq
        clear hne heq
        go_wp2
        go_roundw
        case rel =>
          refine ⟨(k : Int) - 1, by omega, by omega, rfl, B1'.out, B2'.out, hB2, ?_⟩
          rw [show ((k : Int) - 1 + 1).toNat = k by omega]
          exact less_same k hid.out (by rw [← HY.out, ← HZ.out]; exact HE.out)
        case measure => simp [intOf]
    · obtain rfl : j = -1 := by omega
      have hd : decide (wd a b < wd c d) = false := by
        have h := hid.out
        rw [show ((-1 : Int) + 1).toNat = 0 by decide, show num (bit (wd a b)) 0 = 0 from rfl, show num (bit (wd c d)) 0 = 0 from rfl] at h
        rw [decide_eq_false_iff_not]; omega
      have Hd := Lib.hid hd
      clear hd
      go_wp2
      go_returns
      exact ⟨ret_bool Hd.out.symm, xB⟩

end Go.Proofs.Ytiaoaoebghnpkaa
