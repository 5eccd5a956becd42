/- Part of the proof. -/
import Derived.Test.YtiaoaoebghnpkaaKA11
/- The document's answers on wide numbers: Cap, Mul. -/
namespace Go.Proofs.Ytiaoaoebghnpkaa
open Go.RowKit

set_option maxHeartbeats 1000000 in
theorem rcap_any (k l m : Int) (w : World) (hk : U k) (hl : U l) (hm : U m) : Calls Try.prog 96 #[.agg #[.int .u64 k, .int .u64 l], .int .u64 m] w fun e w' => e = .returned (.int .u64 (min (wd k l) m)) ∧ Below w.heap.size w w' := by
  go_enter Try.func96, Try.ntmps96
  go_wp2_with fail
  refine wp_region_calls 4 (by kernel_rfl) (by kernel_rfl) ?_
  simp only [List.take_succ_cons, List.take_zero, List.drop_succ_cons, List.drop_zero]
  refine walk1_open fun K hK => ?_
  repeat
    apply walk1_value (by rfl)
    · intro W hcl hsz; go_simp; rfl
    simp only [Act.put, List.setIfInBounds_toArray, List.set_cons_zero, List.set_cons_succ]
  apply walk1_call (by rfl)
  · intro W hsz; go_simp; first | exact ⟨rfl, rfl⟩ | rfl
  · intro W hlW; exact rof_any _ _
  simp only [Act.put, List.setIfInBounds_toArray, List.set_cons_zero, List.set_cons_succ]
  apply walk1_call (by rfl)
  · intro W hsz; go_simp; first | exact ⟨rfl, rfl⟩ | rfl
  · intro W hlW; exact rless_any _ _ _ _ _ hk hl U_zero hm
  simp only [Act.put, List.setIfInBounds_toArray, List.set_cons_zero, List.set_cons_succ]
  refine walk1_nil (hK _ ?_); clear hK K
  intro W1 hW1; obtain ⟨hcl1, hfl1, hzl1⟩ := bcell hW1; repeat (first | simp only [World.size_alloc] at hzl1 | simp only [World.size_drew] at hzl1 | simp only [World.size_setCell] at hzl1)
  have hB1 : Below w.heap.size w W1 := below_of (by go_grown) hW1
  have hz1_w0 : w.heap.size < W1.heap.size := by omega
  have c1_w0_1 := hcl1 (w.heap.size) 1 (by first | assumption | (simp; done) | (simp; omega)); simp [go_sem] at c1_w0_1
  clear hcl1 hfl1
  have hd : wd 0 m = m := wd_zero m
  have Hd := Lib.hid hd
  clear hd
  by_cases hlt : wd k l < wd 0 m
  · have hc : decide (wd k l < wd 0 m) = true := by simpa using hlt
    go_wp2
    go_returns
    refine ⟨ret_int ?_, by go_grown⟩
    rw [Hd.out] at hlt
    unfold U at hk hl hm; unfold wd at *
    rw [Int.min_def]; split <;> omega
  · have hc : decide (wd k l < wd 0 m) = false := by simpa using hlt
    go_wp2
    go_returns
    refine ⟨ret_int ?_, by go_grown⟩
    rw [Hd.out] at hlt
    rw [Int.min_def]; split <;> omega

set_option maxRecDepth 100000 in
set_option maxHeartbeats 2000000 in
theorem rmul_any (a b : Int) (w : World) (ha : U a) (hb : U b) : Calls Try.prog 42 #[.int .u64 a, .int .u64 b] w fun e w' => e = .returned (.agg #[.int .u64 (hi (a * b)), .int .u64 (lo (a * b))]) ∧ Below w.heap.size w w' := by
  go_enter Try.func42, Try.ntmps42
  go_wp2_with fail
  refine (rof_any _ _).mono ?_
  rintro e W1 ⟨rfl, hW1⟩
  have p0 := ((Blk.new w 42 #[.int .u64 0, .int .u64 0]).alloc (.cells #[.int .u64 0, .int .u64 0] 42)).step hW1
  have p1 := (Blk.new (w.alloc (.cells #[.int .u64 0, .int .u64 0] 42)) 42 #[.int .u64 0, .int .u64 0]).step hW1
  rw [World.size_alloc] at p1
  have hB1 : Below w.heap.size w W1 := below_of (by go_grown) hW1
  clear hW1
  go_wp2_with fail
  refine (bits_any _ _ _ U_zero hb).mono ?_
  rintro e W2 ⟨rfl, hW2⟩
  have q0 := p0.step hW2
  have q1 := p1.step hW2
  have hB2 : Below w.heap.size w W2 := below_of hB1 hW2
  clear hW2 p0 p1 hB1
  rename_i hcont
  refine hcont _ _ ?_
  clear hcont
  refine wpList_alloc_any rfl 112 (.agg (A128 fun _ => 0)) (A128 fun _ => 0) rfl bits_zero (by simp only [Value.cells]) ?_
  simp only [Act.put, List.setIfInBounds_toArray, List.set_cons_zero, List.set_cons_succ]
  have b0 := Blk.new W2 112 (A128 fun _ => 0)
  refine wpList_store_row rfl 112 (.tmp 6) (.tmp 11) rfl W2.heap.size (A128 (bit (wd 0 b))) rfl rfl 112 (A128 fun _ => 0) b0 (by rw [A128_size]; exact zero_bits.2) (by rw [A128_size, A128_size]) (A128_one _) ?_
  simp only [Act.put]
  have r0 := q0.alloc (.cells (A128 (bit (wd 0 b))) 112)
  have r1 := q1.alloc (.cells (A128 (bit (wd 0 b))) 112)
  have r2 := Blk.new W2 112 (A128 (bit (wd 0 b)))
  have hB3 := hB2.alloc hB2.size (.cells (A128 (bit (wd 0 b))) 112)
  rw [World.setRow_alloc_new, wd_zero] at *
  have hg6 : w.heap.size + 1 < W2.heap.size := q1.lt
  generalize W2.heap.size = g6 at *
  generalize W2.alloc (.cells (A128 (bit b)) 112) = W3 at *
  clear b0 q0 q1 hB2
  refine wpList_nil ?_
  go_wp2_with fail
  refine (rof_any _ _).mono ?_
  rintro e W4 ⟨rfl, hW4⟩
  have s0 := (r0.step hW4).alloc (.cells #[.int .u64 0, .int .u64 a] 42)
  have s1 := (r1.step hW4).alloc (.cells #[.int .u64 0, .int .u64 a] 42)
  have s2 := (r2.step hW4).alloc (.cells #[.int .u64 0, .int .u64 a] 42)
  have s3 := Blk.new W4 42 #[.int .u64 0, .int .u64 a]
  have hB4 : Below w.heap.size w (W4.alloc (.cells #[.int .u64 0, .int .u64 a] 42)) := (below_of hB3 hW4).alloc (below_of hB3 hW4).size _
  have hg7 : g6 < W4.heap.size := (r2.step hW4).lt
  have S0 := Lib.hid s0
  have S1 := Lib.hid s1
  have S2 := Lib.hid s2
  have S3 := Lib.hid s3
  clear hW4 r0 r1 r2 hB3 s0 s1 s2 s3
  go_wp2
  generalize W4.heap.size = g7 at *
  go_loopw [8] (fun iv wr => ∃ (k : Nat), k ≤ 64 ∧ iv = .int .i64 k ∧ Blk wr w.heap.size 42 #[.int .u64 0, .int .u64 0] ∧ Blk wr (w.heap.size + 1) 42 #[.int .u64 (hi (a * num (bit b) k)), .int .u64 (lo (a * num (bit b) k))] ∧
      Blk wr g6 112 (A128 (bit b)) ∧ Blk wr g7 42 #[.int .u64 (hi (a * 2 ^ k)), .int .u64 (lo (a * 2 ^ k))] ∧ Below w.heap.size w wr) (fun iv _ => 64 - (intOf iv).toNat)
  case atStart =>
    refine ⟨0, by omega, rfl, S0.out, ?_, S2.out, ?_, hB4⟩
    · have := S1.out
      rwa [show num (bit b) 0 = 0 from rfl, Int.mul_zero, hi_of_U U_zero, lo_of_U U_zero]
    · have := S3.out
      rwa [Int.pow_zero, Int.mul_one, hi_of_U ha, lo_of_U ha]
  case round =>
    obtain ⟨k, hk, rfl, x0, x1, x6, x7, xB⟩ := hrel
    by_cases hlt : k < 64
    · have c6 := x6.cell k
      rw [A128_get _ _ (by omega)] at c6
      have c70 := x7.cell 0
      have c71 := x7.cell 1
      have f70 := x7.frozen 0
      have f71 := x7.frozen 1
      have c10 := x1.cell 0
      have c11 := x1.cell 1
      have f10 := x1.frozen 0
      have f11 := x1.frozen 1
      simp only [List.getElem?_toArray, List.getElem?_cons_zero, List.getElem?_cons_succ] at c70 c71 c10 c11
      have hk0 : (k : Int) < 128 := by omega
      have ub := U_num b (show k ≤ 64 by omega)
      have v1 := V_mul ha ub
      have v2 := V_shift ha (show k ≤ 64 by omega)
      have e2 := shift_step a k
      have E2 := Lib.hid e2
      clear e2
      have X0 := Lib.hid x0
      have X1 := Lib.hid x1
      have X6 := Lib.hid x6
      have X7 := Lib.hid x7
      clear x0 x1 x6 x7
      by_cases hbit : bit b k = 1
      · have m1 := Lib.hid (mul_step (a := a) k hbit)
        have ht : (bit b k == 1) = true := by simpa using hbit
        clear hbit
        go_wp2_with fail
        refine (radd_any _ _ _ _ _ (U_hi _) (U_lo _) (U_hi _) (U_lo _)).mono ?_
        rintro e W5 ⟨rfl, hW5⟩
        rw [wd_hi_lo v1, wd_hi_lo v2, show a * num (bit b) k + a * 2 ^ k = a * num (bit b) (k + 1) by rw [m1.out]; omega]
        have Y0 := Lib.hid (X0.out.step hW5)
        have Y1 := Lib.hid (X1.out.step hW5)
        have Y6 := Lib.hid (X6.out.step hW5)
        have Y7 := Lib.hid (X7.out.step hW5)
        have hB5 := below_of xB hW5
        clear X0 X1 X6 X7 xB hW5 c6 c70 c71 f70 f71 c10 c11 f10 f11 ht
        have c70 := Y7.out.cell 0
        have c71 := Y7.out.cell 1
        have f70 := Y7.out.frozen 0
        have f71 := Y7.out.frozen 1
        have c10 := Y1.out.cell 0
        have c11 := Y1.out.cell 1
        have f10 := Y1.out.frozen 0
        have f11 := Y1.out.frozen 1
        simp only [List.getElem?_toArray, List.getElem?_cons_zero, List.getElem?_cons_succ] at c70 c71 c10 c11
        have hn17 : ¬ w.heap.size + 1 = g7 := by omega
        have hn71 : ¬ g7 = w.heap.size + 1 := by omega
        go_wp2_with fail
        refine (radd_any _ _ _ _ _ (U_hi _) (U_lo _) (U_hi _) (U_lo _)).mono ?_
        rintro e W6 ⟨rfl, hW6⟩
        rw [wd_hi_lo v2, E2.out]
        have Z0 := Lib.hid (((Y0.out.far (by simp <;> omega) _).far (by simp <;> omega) _).step hW6)
        have Z1 := Lib.hid (((Y1.out.put 0 _).put 1 _).step hW6)
        have Z6 := Lib.hid (((Y6.out.far (by simp <;> omega) _).far (by simp <;> omega) _).step hW6)
        have Z7 := Lib.hid (((Y7.out.far (by simp <;> omega) _).far (by simp <;> omega) _).step hW6)
        have hB6 : Below w.heap.size w W6 := below_of (by go_grown) hW6
        clear Y0 Y1 Y6 Y7 hB5 hW6 c70 c71 f70 f71 c10 c11 f10 f11
        have c70 := Z7.out.cell 0
        have c71 := Z7.out.cell 1
        have f70 := Z7.out.frozen 0
        have f71 := Z7.out.frozen 1
        simp only [List.getElem?_toArray, List.getElem?_cons_zero, List.getElem?_cons_succ] at c70 c71
        go_wp2
        go_roundw
        case rel =>
          refine ⟨k + 1, by omega, by go_num, ?_, ?_, ?_, ?_, by go_grown⟩
          · exact (Z0.out.far (by simp <;> omega) _).far (by simp <;> omega) _
          · exact (Z1.out.far (by simp <;> omega) _).far (by simp <;> omega) _
          · exact (Z6.out.far (by simp <;> omega) _).far (by simp <;> omega) _
          · exact (Z7.out.put 0 _).put 1 _
        case measure => simp [intOf]; omega
      · have hbit0 : bit b k = 0 := by rcases isBits_bit b k with h | h; exact h; exact absurd h hbit
        have m1 := mul_step (a := a) k hbit0
        rw [Int.zero_mul, Int.add_zero] at m1
        have X1' := X1
        rw [← m1] at X1'
        have ht : (bit b k == 1) = false := by simpa using hbit
        clear hbit hbit0 m1
        go_wp2_with fail
        refine (radd_any _ _ _ _ _ (U_hi _) (U_lo _) (U_hi _) (U_lo _)).mono ?_
        rintro e W6 ⟨rfl, hW6⟩
        rw [wd_hi_lo v2, E2.out]
        have Z0 := Lib.hid (X0.out.step hW6)
        have Z1 := Lib.hid (X1'.out.step hW6)
        have Z6 := Lib.hid (X6.out.step hW6)
        have Z7 := Lib.hid (X7.out.step hW6)
        have hB6 : Below w.heap.size w W6 := below_of (by go_grown) hW6
        clear X0 X1 X1' X6 X7 xB hW6 c6 c70 c71 f70 f71 c10 c11 f10 f11 ht
        have c70 := Z7.out.cell 0
        have c71 := Z7.out.cell 1
        have f70 := Z7.out.frozen 0
        have f71 := Z7.out.frozen 1
        simp only [List.getElem?_toArray, List.getElem?_cons_zero, List.getElem?_cons_succ] at c70 c71
        go_wp2
        go_roundw
        case rel =>
          refine ⟨k + 1, by omega, by go_num, ?_, ?_, ?_, ?_, by go_grown⟩
          · exact (Z0.out.far (by simp <;> omega) _).far (by simp <;> omega) _
          · exact (Z1.out.far (by simp <;> omega) _).far (by simp <;> omega) _
          · exact (Z6.out.far (by simp <;> omega) _).far (by simp <;> omega) _
          · exact (Z7.out.put 0 _).put 1 _
        case measure => simp [intOf]; omega
    · have ek : k = 64 := by omega
      subst ek
      have e : a * num (bit b) 64 = a * b := by
        rw [num_bit, show (2 : Int) ^ 64 = 18446744073709551616 by decide, Int.emod_eq_of_lt hb.1 hb.2]
      rw [e] at x1
      clear e
      have c10 := x1.cell 0
      have c11 := x1.cell 1
      have c00 := x0.cell 0
      have c01 := x0.cell 1
      have f00 := x0.frozen 0
      have f01 := x0.frozen 1
      simp only [List.getElem?_toArray, List.getElem?_cons_zero, List.getElem?_cons_succ] at c00 c01 c10 c11
      clear x0 x1 x6 x7
      go_wp2
      apply bodyPost_ret
      · simp [results, Try.results42, go_sem, c00, c01]; rfl
      · rfl
      · exact ⟨rfl, by go_grown⟩

end Go.Proofs.Ytiaoaoebghnpkaa
