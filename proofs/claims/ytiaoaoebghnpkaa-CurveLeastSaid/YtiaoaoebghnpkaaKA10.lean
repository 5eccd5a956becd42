/- Part of the proof. -/
import Derived.Test.YtiaoaoebghnpkaaProg
import Derived.Handy
import Derived.Deep.WholeRow
import Derived.Lib.Hide
import Derived.Deep.DeepCutAuto
import Derived.Test.YtiaoaoebghnpkaaKA3
import Derived.Test.YtiaoaoebghnpkaaKA9
import Derived.Test.YtiaoaoebghnpkaaKA7
/- The document's answers on wide numbers, bit by bit: Bits, whole. -/
namespace Go.Proofs.Ytiaoaoebghnpkaa
open Go.RowKit

theorem zero_bits : (∀ w, (zeroValue 112).run Try.prog w = .ok (.agg (Array.replicate 128 (.int .i64 0))) w) ∧ (Try.prog.info? 112).map (·.size) = some 128 :=
  zero_of_info (by kernel_rfl)

set_option maxHeartbeats 1000000 in
theorem bits_any (h l : Int) (w : World) (ha : U h) (hb : U l) : Calls Try.prog 70 #[.agg #[.int .u64 h, .int .u64 l]] w fun e w' => e = .returned (.agg (A128 (bit (wd h l)))) ∧ Below w.heap.size w w' := by
  have hz := zero_bits.1
  rw [← bitsTo_zero h l] at hz
  go_enter Try.func70, Try.ntmps70
  go_wp2
  go_loopw [4] (fun i wr => ∃ (k : Nat) (x y : Int), k ≤ 64 ∧ i = .int .i64 k ∧ U x ∧ U y ∧ Blk wr w.heap.size 42 #[.int .u64 x, .int .u64 y] ∧ Blk wr (w.heap.size + 1) 112 (A128 (bitsTo 0 h l)) ∧ Blk wr (w.heap.size + 1 + 1) 112 (A128 (bitsTo k h l)) ∧ Below w.heap.size w wr ∧ Hid (x = h / 2 ^ k ∧ y = l / 2 ^ k)) (fun i _ => 64 - (intOf i).toNat)
  case atStart =>
    refine ⟨0, h, l, by omega, rfl, ha, hb, ((Blk.new _ _ _).alloc _).alloc _, ?_, ?_, by go_grown, ⟨by simp, by simp⟩⟩
    · have := (Blk.new (w.alloc (.cells #[.int .u64 h, .int .u64 l] 42)) 112 (A128 (bitsTo 0 h l))).alloc (.cells (A128 (bitsTo 0 h l)) 112)
      rwa [World.size_alloc] at this
    · have := Blk.new ((w.alloc (.cells #[.int .u64 h, .int .u64 l] 42)).alloc (.cells (A128 (bitsTo 0 h l)) 112)) 112 (A128 (bitsTo 0 h l))
      rwa [World.size_alloc, World.size_alloc] at this
  case round =>
    obtain ⟨k, x, y, hk, rfl, hx, hy, b0, b1, b2, hB, hid⟩ := hrel
    have hx0 := hx.1
    have hy0 := hy.1
    have c0 := b0.cell 0
    have c1 := b0.cell 1
    have f0 := b0.frozen 0
    have f1 := b0.frozen 1
    simp only [List.getElem?_toArray, List.getElem?_cons_zero, List.getElem?_cons_succ] at c0 c1
    by_cases hlt : k < 64
    · have c2 := b2.cell k
      have c3 := b2.cell (64 + k)
      have f2 := b2.frozen k
      have f3 := b2.frozen (64 + k)
      rw [Array.getElem?_eq_getElem (by rw [A128_size]; omega)] at c2 c3
      have B0 := Lib.hid b0
      have B1 := Lib.hid b1
      have B2 := Lib.hid b2
      clear b0 b1 b2
      go_wp2
      go_roundw
      case rel =>
        refine ⟨k + 1, x / 2, y / 2, by omega, by go_num, U_half hx, U_half hy, ?_, ?_, ?_, by go_grown, ?_⟩
        · rw [tdiv_two hx, tdiv_two hy]
          exact (((B0.out.far (by simp <;> omega) _).far (by simp <;> omega) _).put 1 _).put 0 _
        · exact (((B1.out.far (by simp <;> omega) _).far (by simp <;> omega) _).far (by simp <;> omega) _).far (by simp <;> omega) _
        · rw [← bits_step k h l hlt, ← hid.out.1, ← hid.out.2]
          exact (((B2.out.put k _).put (64 + k) _).far (by simp <;> omega) _).far (by simp <;> omega) _
        · refine ⟨?_, ?_⟩
          · rw [hid.out.1, Int.pow_succ, Int.ediv_ediv_of_nonneg (Int.pow_nonneg (by omega))]
          · rw [hid.out.2, Int.pow_succ, Int.ediv_ediv_of_nonneg (Int.pow_nonneg (by omega))]
      case measure => simp [intOf]; omega
    · have e : k = 64 := by omega
      subst e
      clear hid c0 c1 f0 f1 b0 hx hy hx0 hy0
      go_upto_region 8 with (fail)
      refine wp_region_lit ?_
      refine wpList_load_row rfl 112 (.tmp 3) rfl (w.heap.size + 1 + 1) rfl 112 (A128 (bitsTo 64 h l)) (0, 0) _ b2 Try.underlying112 rfl (by rw [A128_size]; exact zero_bits.2) ?_
      simp only [Act.put, List.setIfInBounds_toArray, List.set_cons_zero, List.set_cons_succ]
      refine wpList_store_row rfl 112 (.tmp 2) (.tmp 30) rfl (w.heap.size + 1) (A128 (bitsTo 64 h l)) rfl rfl 112 (A128 (bitsTo 0 h l)) b1 (by rw [A128_size]; exact zero_bits.2) (by rw [A128_size, A128_size]) (A128_one _) ?_
      simp only [Act.put]
      have hr := b1.row (A128 (bitsTo 64 h l))
      have hBr := below_row hB (show w.heap.size ≤ w.heap.size + 1 by omega) (A128 (bitsTo 64 h l))
      generalize wr.setRow (w.heap.size + 1) (A128 (bitsTo 64 h l)) = wf at hr hBr ⊢
      refine wpList_nil ?_
      rename_i hfin
      exact hfin _ _ (wp_ret (bodyPost_ret (results_cell_row rfl _ _ (w.heap.size + 1) 112 (A128 (bitsTo 64 h l)) (0, 0) _ rfl hr Try.underlying112 rfl (by rw [A128_size]; exact zero_bits.2)) rfl ⟨by rw [bits_all h l hb], hBr⟩))

set_option maxHeartbeats 1000000 in
theorem whole_any (f : Nat → Int) (w : World) (hf : IsBits f) : Calls Try.prog 74 #[.agg (A128 f)] w fun e w' => e = .returned (.agg #[.int .u64 (hi (num f 128)), .int .u64 (lo (num f 128))]) ∧ Below w.heap.size w w' := by
  go_enter Try.func74, Try.ntmps74
  go_wp2
  go_loopw [4] (fun i wr => ∃ (j A B : Int), -1 ≤ j ∧ j ≤ 63 ∧ i = .int .i64 j ∧ U A ∧ U B ∧ Blk wr w.heap.size 112 (A128 f) ∧ Blk wr (w.heap.size + 1) 42 #[.int .u64 0, .int .u64 0] ∧ Blk wr (w.heap.size + 1 + 1) 42 #[.int .u64 B, .int .u64 A] ∧ Below w.heap.size w wr ∧
      Hid (num f 64 = num f (j + 1).toNat + 2 ^ (j + 1).toNat * A ∧ num (fun i => f (64 + i)) 64 = num (fun i => f (64 + i)) (j + 1).toNat + 2 ^ (j + 1).toNat * B)) (fun i _ => (intOf i + 1).toNat)
  case atStart =>
    refine ⟨63, 0, 0, by omega, by omega, rfl, U_zero, U_zero, ((Blk.new _ _ _).alloc _).alloc _, ?_, ?_, by go_grown, ⟨by simp, by simp⟩⟩
    · have := (Blk.new (w.alloc (.cells (A128 f) 112)) 42 #[.int .u64 0, .int .u64 0]).alloc (.cells #[.int .u64 0, .int .u64 0] 42)
      rwa [World.size_alloc] at this
    · have := Blk.new ((w.alloc (.cells (A128 f) 112)).alloc (.cells #[.int .u64 0, .int .u64 0] 42)) 42 #[.int .u64 0, .int .u64 0]
      rwa [World.size_alloc, World.size_alloc] at this
  case round =>
    obtain ⟨j, A, B, hj1, hj2, rfl, hA, hB', b0, b1, b2, hB, hid⟩ := hrel
    have hs := b2.lt
    have hs0 : w.heap.size < wr.heap.size := by omega
    have c0 := b2.cell 0
    have c1 := b2.cell 1
    have f0 := b2.frozen 0
    have f1 := b2.frozen 1
    simp only [List.getElem?_toArray, List.getElem?_cons_zero, List.getElem?_cons_succ] at c0 c1
    have B0 := Lib.hid b0
    have B1 := Lib.hid b1
    have B2 := Lib.hid b2
    by_cases hlt : 0 ≤ j
    · obtain ⟨k, rfl⟩ := Int.eq_ofNat_of_zero_le hlt
      have d0 := b0.cell k
      have d1 := b0.cell (64 + k)
      rw [A128_get _ _ (by omega)] at d0 d1
      have hid' : Hid _ := hid
      have i1 : (k : Int) < 128 := by omega
      have i2 : (64 : Int) + k < 128 := by omega
      have i3 : (0 : Int) ≤ 64 + k := by omega
      have i4 : IntKind.i64.wrap (64 + (k : Int)) = 64 + k := IntWalk.i64_in _ (by omega)
      have i5 : (64 + (k : Int)).toNat = 64 + k := by omega
      clear b0 b1 b2 hid
      go_wp2_with fail
      refine wp_region_calls 9 (by kernel_rfl) (by kernel_rfl) ?_
      simp only [List.take_succ_cons, List.take_zero, List.drop_succ_cons, List.drop_zero]
      refine walk1_open fun K hK => ?_
      repeat
        apply walk1_value (by rfl)
        · intro W hcl hsz; go_simp; rfl
        simp only [Act.put, List.setIfInBounds_toArray, List.set_cons_zero, List.set_cons_succ]
      refine walk1_nil (hK _ ?_); clear hK K
      intro W1 hW1
      have B0' := Lib.hid (B0.out.step hW1)
      have B1' := Lib.hid (B1.out.step hW1)
      have B2' := Lib.hid (B2.out.step hW1)
      have hB1 := below_of hB hW1
      have g0 := B2'.out.cell 0
      have g1 := B2'.out.cell 1
      have e0 := B2'.out.frozen 0
      have e1 := B2'.out.frozen 1
      have hs1 := B2'.out.lt
      have hs2 := B0'.out.lt
      have m1 := B0'.out.cell (64 + k)
      rw [A128_get _ _ (by omega)] at m1
      simp only [List.getElem?_toArray, List.getElem?_cons_zero, List.getElem?_cons_succ] at g0 g1
      clear B0 B1 B2 hB c0 c1 f0 f1 hs hs0 d0 d1 hW1
      go_wp2_with fail
      refine wp_region_calls 10 (by kernel_rfl) (by kernel_rfl) ?_
      simp only [List.take_succ_cons, List.take_zero, List.drop_succ_cons, List.drop_zero]
      refine walk1_open fun K hK => ?_
      repeat
        apply walk1_value (by rfl)
        · intro W hcl hsz; go_simp; rfl
        simp only [Act.put, List.setIfInBounds_toArray, List.set_cons_zero, List.set_cons_succ]
      refine walk1_nil (hK _ ?_); clear hK K
      intro W2 hW2
      have B0 := Lib.hid ((B0'.out.far (by simp <;> omega) _).step hW2)
      have B1 := Lib.hid ((B1'.out.far (by simp <;> omega) _).step hW2)
      have B2 := Lib.hid ((B2'.out.put 1 _).step hW2)
      have hB2 : Below w.heap.size w W2 := below_of (by go_grown) hW2
      have n0 := B2.out.cell 0
      have o0 := B2.out.frozen 0
      simp only [List.setIfInBounds_toArray, List.set_cons_zero, List.set_cons_succ, List.getElem?_toArray, List.getElem?_cons_zero] at n0
      clear B0' B1' B2' hB1 g0 g1 e0 e1 hs1 hs2 m1 hW2
      obtain ⟨p1, p2, p3⟩ := whole_step hf k hA.1 hid'.out.1
      obtain ⟨q1, q2, q3⟩ := whole_step (f := fun i => f (64 + i)) (fun i => hf _) k hB'.1 hid'.out.2
      have P1 := Lib.hid p1
      have P2 := Lib.hid p2
      have Q1 := Lib.hid q1
      have Q2 := Lib.hid q2
      clear p1 p2 q1 q2 hid'
      go_wp2
      go_roundw
      case rel =>
        refine ⟨(k : Int) - 1, 2 * A + f k, 2 * B + f (64 + k), by omega, by omega, rfl, p3, q3, ?_, ?_, ?_, by go_grown, ?_⟩
        · exact B0.out.far (by simp <;> omega) _
        · exact B1.out.far (by simp <;> omega) _
        · rw [← P1.out, ← Q1.out]
          exact B2.out.put 0 _
        · rw [show ((k : Int) - 1 + 1).toNat = k by omega]
          exact ⟨P2.out, Q2.out⟩
      case measure => simp [intOf]
    · obtain rfl : j = -1 := by omega
      have hid' := hid.out
      clear hid
      have h1 := whole_end hid'.1
      have h2 := whole_end (f := fun i => f (64 + i)) hid'.2
      have d0 := b1.cell 0
      have d1 := b1.cell 1
      have e0 := b1.frozen 0
      have e1 := b1.frozen 1
      simp only [List.getElem?_toArray, List.getElem?_cons_zero, List.getElem?_cons_succ] at d0 d1
      have hH := Lib.hid (num_halves hf)
      have H1 := Lib.hid h1
      have H2 := Lib.hid h2
      clear b0 b1 b2 hid' B0 B1 B2 h1 h2
      go_wp2
      apply bodyPost_ret
      · simp [results, Try.results74, go_sem, d0, d1]; rfl
      · rfl
      · exact ⟨ret_wide (by rw [hH.out.1, H2.out]) (by rw [hH.out.2, H1.out]), by go_grown⟩

end Go.Proofs.Ytiaoaoebghnpkaa
