/- Part of the proof. -/
import Derived.Test.YtiaoaoebghnpkaaKA12
import Derived.Test.YtiaoaoebghnpkaaKA13
/- The document's answers on wide numbers: Div. -/
namespace Go.Proofs.Ytiaoaoebghnpkaa
open Go.RowKit

set_option linter.unusedSimpArgs false in
set_option maxRecDepth 100000 in
set_option maxHeartbeats 4000000 in
theorem rdiv_any (a b n : Int) (w : World) (ha : U a) (hb : U b) (hn : U n) : Calls Try.prog 46 #[.agg #[.int .u64 a, .int .u64 b], .int .u64 n] w fun e w' => e = .returned (.tuple #[.agg #[.int .u64 (hi (wd a b / n)), .int .u64 (lo (wd a b / n))], .int .u64 (if n = 0 then 0 else wd a b % n)]) ∧ Below w.heap.size w w' := by
  go_enter Try.func46, Try.ntmps46
  by_cases h0 : n = 0
  · subst h0
    go_wp2
    go_returns
    refine ⟨?_, by go_grown⟩
    rw [hi_of_U U_zero, lo_of_U U_zero]
  · have hX := V_wd ha hb
    have ht : (n == 0) = false := by simpa using h0
    have hpos : 0 < n := by unfold U at hn; omega
    rw [if_neg h0]
    clear h0
    go_wp2_with fail
    refine (bits_any _ _ _ ha hb).mono ?_
    rintro e W2 ⟨rfl, hW2⟩
    have q1 := (Blk.new (w.alloc (.cells #[.int .u64 a, .int .u64 b] 42)) 42 #[.int .u64 0, .int .u64 0]).step hW2
    rw [World.size_alloc] at q1
    have hB2 : Below w.heap.size w W2 := below_of (by go_grown) hW2
    clear hW2
    rename_i hcont
    refine hcont _ _ ?_
    clear hcont
    refine wpList_alloc_any rfl 112 (.agg (A128 fun _ => 0)) (A128 fun _ => 0) rfl bits_zero (by simp only [Value.cells]) ?_
    simp only [Act.put, List.setIfInBounds_toArray, List.set_cons_zero, List.set_cons_succ]
    have b0 := Blk.new W2 112 (A128 fun _ => 0)
    refine wpList_store_row rfl 112 (.tmp 6) (.tmp 14) rfl W2.heap.size (A128 (bit (wd a b))) rfl rfl 112 (A128 fun _ => 0) b0 (by rw [A128_size]; exact zero_bits.2) (by rw [A128_size, A128_size]) (A128_one _) ?_
    simp only [Act.put]
    have r1 := q1.alloc (.cells (A128 (bit (wd a b))) 112)
    have r6 := Blk.new W2 112 (A128 (bit (wd a b)))
    have hB3 := hB2.alloc hB2.size (.cells (A128 (bit (wd a b))) 112)
    rw [World.setRow_alloc_new] at *
    have hg6 : w.heap.size + 1 < W2.heap.size := q1.lt
    generalize W2.heap.size = g6 at *
    generalize W2.alloc (.cells (A128 (bit (wd a b))) 112) = W3 at *
    clear b0 q1 hB2
    refine wpList_nil ?_
    go_upto_region 4 with (fail)
    refine wp_region_lit ?_
    refine wpList_alloc_any rfl 112 (.agg (A128 fun _ => 0)) (A128 fun _ => 0) rfl bits_zero (by simp only [Value.cells]) ?_
    simp only [Act.put, List.setIfInBounds_toArray, List.set_cons_zero, List.set_cons_succ]
    have s1 := r1.alloc (.cells (A128 fun _ => 0) 112)
    have s6 := r6.alloc (.cells (A128 fun _ => 0) 112)
    have s7 := Blk.new W3 112 (A128 fun _ => 0)
    have hB4 := hB3.alloc hB3.size (.cells (A128 fun _ => 0) 112)
    have hg7 : g6 < W3.heap.size := r6.lt
    generalize W3.heap.size = g7 at *
    generalize W3.alloc (.cells (A128 fun _ => 0) 112) = W4 at *
    clear r1 r6 hB3
    have t1 := s1.alloc (.cells #[.int .u64 0, .int .u64 0] 42)
    have t6 := s6.alloc (.cells #[.int .u64 0, .int .u64 0] 42)
    have t7 := s7.alloc (.cells #[.int .u64 0, .int .u64 0] 42)
    have t8 := Blk.new W4 42 #[.int .u64 0, .int .u64 0]
    have hg8 : g7 < W4.heap.size := s7.lt
    have S1 := Lib.hid t1
    have S6 := Lib.hid t6
    have S7 := Lib.hid t7
    have S8 := Lib.hid t8
    clear t1 t6 t7 t8 s1 s6 s7
    refine wpList_nil ?_
    go_wp2
    generalize W4.heap.size = g8 at *
    have hD := V_div hX hpos
    have HX := Lib.hid hX
    clear hX
    go_loopw [9] (fun iv wr => ∃ (m : Nat), m ≤ 128 ∧ iv = .int .i64 ((m : Int) - 1) ∧ Blk wr (w.heap.size + 1) 42 #[.int .u64 0, .int .u64 0] ∧
        Blk wr g6 112 (A128 (bit (wd a b))) ∧ Blk wr g7 112 (A128 (qv (wd a b) n m)) ∧ Blk wr g8 42 #[.int .u64 (hi (rm (wd a b) n m)), .int .u64 (lo (rm (wd a b) n m))] ∧ Below w.heap.size w wr) (fun iv _ => (intOf iv + 1).toNat)
    case atStart =>
      refine ⟨128, by omega, rfl, S1.out, S6.out, ?_, ?_, hB4.alloc hB4.size _⟩
      · rw [qv_start]; exact S7.out
      · rw [rm_start HX.out]; exact S8.out
    case round =>
      obtain ⟨m, hm, rfl, x1, x6, x7, x8, xB⟩ := hrel
      by_cases hlt : 0 < m
      · obtain ⟨k, rfl⟩ : ∃ k, m = k + 1 := ⟨m - 1, by omega⟩
        have e1 : ((k + 1 : Nat) : Int) - 1 = (k : Int) := by omega
        rw [e1]
        clear e1 hlt
        have hk0 : (k : Int) < 128 := by omega
        have hrb := rm_bound (wd a b) hpos (k + 1)
        have hds := Lib.hid (div_step (wd a b) hpos k)
        have hbb := isBits_bit (wd a b) k
        have hRV : V (rm (wd a b) n (k + 1)) := by unfold U at hn; unfold V; omega
        obtain ⟨R, hR⟩ : ∃ R, R = rm (wd a b) n (k + 1) := ⟨_, rfl⟩
        rw [← hR] at hrb hds hRV x8
        obtain ⟨t, hbt⟩ : ∃ t, t = bit (wd a b) k := ⟨_, rfl⟩
        rw [← hbt] at hds hbb
        have c6 := x6.cell k
        rw [A128_get _ _ (by omega), ← hbt] at c6
        have c80 := x8.cell 0
        have c81 := x8.cell 1
        have f80 := x8.frozen 0
        have f81 := x8.frozen 1
        simp only [List.getElem?_toArray, List.getElem?_cons_zero, List.getElem?_cons_succ] at c80 c81
        have X1 := Lib.hid x1
        have X6 := Lib.hid x6
        have X7 := Lib.hid x7
        have X8 := Lib.hid x8
        have HBT := Lib.hid hbt
        clear x1 x6 x7 x8 hR hbt
        go_wp2_with fail
        refine (radd_any _ _ _ _ _ (U_hi _) (U_lo _) (U_hi _) (U_lo _)).mono ?_
        rintro e W5 ⟨rfl, hW5⟩
        rw [wd_hi_lo hRV]
        have hRR : V (R + R) := by unfold U at hn; unfold V; omega
        have Y1 := Lib.hid (X1.out.step hW5)
        have Y6 := Lib.hid (X6.out.step hW5)
        have Y7 := Lib.hid (X7.out.step hW5)
        have Y8 := Lib.hid (X8.out.step hW5)
        have hB5 := below_of xB hW5
        clear X1 X6 X7 X8 hW5 c6 c80 c81 f80 f81 xB
        have c6 := Y6.out.cell k
        have c80 := Y8.out.cell 0
        have c81 := Y8.out.cell 1
        have f80 := Y8.out.frozen 0
        have f81 := Y8.out.frozen 1
        simp only [List.getElem?_toArray, List.getElem?_cons_zero, List.getElem?_cons_succ] at c80 c81
        have hz8 := Y8.out.lt
        rw [A128_get _ _ (by omega), ← HBT.out] at c6
        go_upto_if 28 with (fail)
        have Z1 := Lib.hid ((Y1.out.far (p := ⟨g8, 0, none⟩) (by simp <;> omega) (.int .u64 (hi (R+R)))).far (p := ⟨g8, 1, none⟩) (by simp <;> omega) (.int .u64 (lo (R+R))))
        have Z6 := Lib.hid ((Y6.out.far (p := ⟨g8, 0, none⟩) (by simp <;> omega) (.int .u64 (hi (R+R)))).far (p := ⟨g8, 1, none⟩) (by simp <;> omega) (.int .u64 (lo (R+R))))
        have Z7 := Lib.hid ((Y7.out.far (p := ⟨g8, 0, none⟩) (by simp <;> omega) (.int .u64 (hi (R+R)))).far (p := ⟨g8, 1, none⟩) (by simp <;> omega) (.int .u64 (lo (R+R))))
        have Z8 := Lib.hid ((Y8.out.put 0 (.int .u64 (hi (R+R)))).put 1 (.int .u64 (lo (R+R))))
        have hB6 : Below w.heap.size w ((W5.setCell ⟨g8, 0, none⟩ (.int .u64 (hi (R+R)))).setCell ⟨g8, 1, none⟩ (.int .u64 (lo (R+R)))) := by go_grown
        simp only [List.setIfInBounds_toArray, List.set_cons_zero, List.set_cons_succ] at Z8
        clear Y1 Y6 Y7 Y8 hB5 c80 c81 f80 f81 hz8
        generalize ((W5.setCell ⟨g8, 0, none⟩ (.int .u64 (hi (R+R)))).setCell ⟨g8, 1, none⟩ (.int .u64 (lo (R+R)))) = W6 at *
        rcases hbb with rfl | rfl
        · rw [Int.add_zero] at hds
          have c80 := Z8.out.cell 0
          have c81 := Z8.out.cell 1
          have f80 := Z8.out.frozen 0
          have f81 := Z8.out.frozen 1
          have hz8 := Z8.out.lt
          simp only [List.getElem?_toArray, List.getElem?_cons_zero, List.getElem?_cons_succ] at c80 c81
          by_cases hge : n ≤ (R+R)
          · have hc : decide (wd (hi (R+R)) (lo (R+R)) < wd 0 n) = false := by rw [wd_hi_lo hRR, wd_zero]; simpa using hge
            obtain ⟨hr, hq⟩ := hds.out.1 hge
            have HR := Lib.hid hr
            have HQ := Lib.hid hq
            clear hr hq hds
            go_upto_region 12 with (fail)
            refine wp_region_calls 5 (by kernel_rfl) (by kernel_rfl) ?_
            simp only [List.take_succ_cons, List.take_zero, List.drop_succ_cons, List.drop_zero]
            refine walk1_open fun K hK => ?_
            repeat
              apply walk1_value (by rfl)
              · intro W hcl hsz; go_simp; rfl
              simp only [Act.put, List.setIfInBounds_toArray, List.set_cons_zero, List.set_cons_succ]
            apply walk1_call (by rfl)
            · intro W hsz; go_simp; first | exact ⟨rfl, rfl⟩ | rfl
            · intro W hlW; exact rof_any _ _
            simp only [Act.put, List.setIfInBounds_toArray, List.set_cons_zero, List.set_cons_succ]
            apply walk1_call (by rfl)
            · intro W hsz; go_simp; first | exact ⟨rfl, rfl⟩ | rfl
            · intro W hlW; exact rless_any _ _ _ _ _ (U_hi _) (U_lo _) U_zero hn
            simp only [Act.put, List.setIfInBounds_toArray, List.set_cons_zero, List.set_cons_succ]
            repeat
              apply walk1_value (by rfl)
              · intro W hcl hsz; go_simp; rfl
              simp only [Act.put, List.setIfInBounds_toArray, List.set_cons_zero, List.set_cons_succ]
            refine walk1_nil (hK _ ?_); clear hK K
            intro V1 hV1
            have M1 := Lib.hid (Z1.out.step hV1)
            have M6 := Lib.hid (Z6.out.step hV1)
            have M7 := Lib.hid (Z7.out.step hV1)
            have M8 := Lib.hid (Z8.out.step hV1)
            have hM1 := below_of hB6 hV1
            clear Z1 Z6 Z7 Z8 hB6 hV1 c80 c81 f80 f81 hz8
            have c80 := M8.out.cell 0
            have c81 := M8.out.cell 1
            have f80 := M8.out.frozen 0
            have f81 := M8.out.frozen 1
            have hz8 := M8.out.lt
            simp only [List.getElem?_toArray, List.getElem?_cons_zero, List.getElem?_cons_succ] at c80 c81
            go_upto_region 13 with (fail)
            refine wp_region_text (by kernel_rfl) (by kernel_rfl) fun Q2 hQ2 => ?_
            refine drawn_calls 7 (by kernel_rfl) ?_
            simp only [List.take_succ_cons, List.take_zero, List.drop_succ_cons, List.drop_zero]
            refine walk1_open fun K hK => ?_
            repeat
              apply walk1_value (by rfl)
              · intro W hcl hsz; go_simp; rfl
              simp only [Act.put, List.setIfInBounds_toArray, List.set_cons_zero, List.set_cons_succ]
            apply walk1_call (by rfl)
            · intro W hsz; go_simp; first | exact ⟨rfl, rfl⟩ | rfl
            · intro W hlW; exact rof_any _ _
            simp only [Act.put, List.setIfInBounds_toArray, List.set_cons_zero, List.set_cons_succ]
            apply walk1_call (by rfl)
            · intro W hsz; go_simp; first | exact ⟨rfl, rfl⟩ | rfl
            · intro W hlW; exact rsub_any _ _ _ _ _ (U_hi _) (U_lo _) U_zero hn
            simp only [Act.put, List.setIfInBounds_toArray, List.set_cons_zero, List.set_cons_succ]
            repeat
              apply walk1_value (by rfl)
              · intro W hcl hsz; go_simp; rfl
              simp only [Act.put, List.setIfInBounds_toArray, List.set_cons_zero, List.set_cons_succ]
            refine walk1_nil (hK _ ?_); clear hK K
            intro V2 hV2
            rw [wd_hi_lo hRR, wd_zero]
            have N1 := Lib.hid (M1.out.step hV2)
            have N6 := Lib.hid (M6.out.step hV2)
            have N7 := Lib.hid (M7.out.step hV2)
            have N8 := Lib.hid (M8.out.step hV2)
            have hM2 := below_of hM1 hV2
            clear M1 M6 M7 M8 hM1 hV2 c80 c81 f80 f81 hz8
            have c80 := N8.out.cell 0
            have c81 := N8.out.cell 1
            have f80 := N8.out.frozen 0
            have f81 := N8.out.frozen 1
            have hz8 := N8.out.lt
            simp only [List.getElem?_toArray, List.getElem?_cons_zero, List.getElem?_cons_succ] at c80 c81
            go_upto_region 14 with (fail)
            have L1 := Lib.hid ((N1.out.far (p := ⟨g8, 0, none⟩) (by simp <;> omega) (.int .u64 (hi ((R+R)-n)))).far (p := ⟨g8, 1, none⟩) (by simp <;> omega) (.int .u64 (lo ((R+R)-n))))
            have L6 := Lib.hid ((N6.out.far (p := ⟨g8, 0, none⟩) (by simp <;> omega) (.int .u64 (hi ((R+R)-n)))).far (p := ⟨g8, 1, none⟩) (by simp <;> omega) (.int .u64 (lo ((R+R)-n))))
            have L7 := Lib.hid ((N7.out.far (p := ⟨g8, 0, none⟩) (by simp <;> omega) (.int .u64 (hi ((R+R)-n)))).far (p := ⟨g8, 1, none⟩) (by simp <;> omega) (.int .u64 (lo ((R+R)-n))))
            have L8 := Lib.hid ((N8.out.put 0 (.int .u64 (hi ((R+R)-n)))).put 1 (.int .u64 (lo ((R+R)-n))))
            have hM3 : Below w.heap.size w ((V2.setCell ⟨g8, 0, none⟩ (.int .u64 (hi ((R+R)-n)))).setCell ⟨g8, 1, none⟩ (.int .u64 (lo ((R+R)-n)))) := by go_grown
            simp only [List.setIfInBounds_toArray, List.set_cons_zero, List.set_cons_succ] at L8
            clear N1 N6 N7 N8 hM2 c80 c81 f80 f81 hz8
            generalize ((V2.setCell ⟨g8, 0, none⟩ (.int .u64 (hi ((R+R)-n)))).setCell ⟨g8, 1, none⟩ (.int .u64 (lo ((R+R)-n)))) = V3 at *
            have c7 := L7.out.cell k
            have f7 := L7.out.frozen k
            rw [A128_get _ _ (by omega)] at c7
            go_wp2
            go_roundw
            case rel =>
              refine ⟨k, by omega, rfl, ?_, ?_, ?_, ?_, ?_⟩
              · exact L1.out.far (by simp <;> omega) _
              · exact L6.out.far (by simp <;> omega) _
              · rw [← qv_one HQ.out, ← A128_put _ _ _ (by omega)]; exact L7.out.put k _
              · rw [HR.out]; exact L8.out.far (by simp <;> omega) _
              · exact hM3.setCell (p := ⟨g7, k, none⟩) (by simp <;> omega) _
            case measure => simp [intOf]
          · have hc : decide (wd (hi (R+R)) (lo (R+R)) < wd 0 n) = true := by rw [wd_hi_lo hRR, wd_zero]; simpa using hge
            obtain ⟨hr, hq⟩ := hds.out.2 (by omega)
            have HR := Lib.hid hr
            have HQ := Lib.hid hq
            clear hr hq hds
            go_upto_region 12 with (fail)
            refine wp_region_calls 5 (by kernel_rfl) (by kernel_rfl) ?_
            simp only [List.take_succ_cons, List.take_zero, List.drop_succ_cons, List.drop_zero]
            refine walk1_open fun K hK => ?_
            repeat
              apply walk1_value (by rfl)
              · intro W hcl hsz; go_simp; rfl
              simp only [Act.put, List.setIfInBounds_toArray, List.set_cons_zero, List.set_cons_succ]
            apply walk1_call (by rfl)
            · intro W hsz; go_simp; first | exact ⟨rfl, rfl⟩ | rfl
            · intro W hlW; exact rof_any _ _
            simp only [Act.put, List.setIfInBounds_toArray, List.set_cons_zero, List.set_cons_succ]
            apply walk1_call (by rfl)
            · intro W hsz; go_simp; first | exact ⟨rfl, rfl⟩ | rfl
            · intro W hlW; exact rless_any _ _ _ _ _ (U_hi _) (U_lo _) U_zero hn
            simp only [Act.put, List.setIfInBounds_toArray, List.set_cons_zero, List.set_cons_succ]
            repeat
              apply walk1_value (by rfl)
              · intro W hcl hsz; go_simp; rfl
              simp only [Act.put, List.setIfInBounds_toArray, List.set_cons_zero, List.set_cons_succ]
            refine walk1_nil (hK _ ?_); clear hK K
            intro V1 hV1
            have M1 := Lib.hid (Z1.out.step hV1)
            have M6 := Lib.hid (Z6.out.step hV1)
            have M7 := Lib.hid (Z7.out.step hV1)
            have M8 := Lib.hid (Z8.out.step hV1)
            have hM1 := below_of hB6 hV1
            clear Z1 Z6 Z7 Z8 hB6 hV1 c80 c81 f80 f81 hz8
            go_wp2
            go_roundw
            case rel =>
              refine ⟨k, by omega, rfl, M1.out, M6.out, ?_, ?_, hM1⟩
              · rw [← qv_zero HQ.out]; exact M7.out
              · rw [HR.out]; exact M8.out
            case measure => simp [intOf]
        · have hRR1 : V (R + R + 1) := by unfold U at hn; unfold V; omega
          have c80 := Z8.out.cell 0
          have c81 := Z8.out.cell 1
          have f80 := Z8.out.frozen 0
          have f81 := Z8.out.frozen 1
          have hz8 := Z8.out.lt
          simp only [List.getElem?_toArray, List.getElem?_cons_zero, List.getElem?_cons_succ] at c80 c81
          go_upto_region 11 with (fail)
          refine wp_region_text (by kernel_rfl) (by kernel_rfl) fun Q2 hQ2 => ?_
          refine drawn_calls 6 (by kernel_rfl) ?_
          simp only [List.take_succ_cons, List.take_zero, List.drop_succ_cons, List.drop_zero]
          refine walk1_open fun K hK => ?_
          repeat
            apply walk1_value (by rfl)
            · intro W hcl hsz; go_simp; rfl
            simp only [Act.put, List.setIfInBounds_toArray, List.set_cons_zero, List.set_cons_succ]
          apply walk1_call (by rfl)
          · intro W hsz; go_simp; first | exact ⟨rfl, rfl⟩ | rfl
          · intro W hlW; exact rof_any _ _
          simp only [Act.put, List.setIfInBounds_toArray, List.set_cons_zero, List.set_cons_succ]
          apply walk1_call (by rfl)
          · intro W hsz; go_simp; first | exact ⟨rfl, rfl⟩ | rfl
          · intro W hlW; exact radd_any _ _ _ _ _ (U_hi _) (U_lo _) U_zero U_one
          simp only [Act.put, List.setIfInBounds_toArray, List.set_cons_zero, List.set_cons_succ]
          repeat
            apply walk1_value (by rfl)
            · intro W hcl hsz; go_simp; rfl
            simp only [Act.put, List.setIfInBounds_toArray, List.set_cons_zero, List.set_cons_succ]
          refine walk1_nil (hK _ ?_); clear hK K
          intro W7 hW7
          rw [wd_hi_lo hRR, wd_zero]
          have T1 := Lib.hid (Z1.out.step hW7)
          have T6 := Lib.hid (Z6.out.step hW7)
          have T7 := Lib.hid (Z7.out.step hW7)
          have T8 := Lib.hid (Z8.out.step hW7)
          have hB7 := below_of hB6 hW7
          clear Z1 Z6 Z7 Z8 hB6 hW7 c80 c81 f80 f81 hz8
          have c80 := T8.out.cell 0
          have c81 := T8.out.cell 1
          have f80 := T8.out.frozen 0
          have f81 := T8.out.frozen 1
          have hz8 := T8.out.lt
          simp only [List.getElem?_toArray, List.getElem?_cons_zero, List.getElem?_cons_succ] at c80 c81
          go_upto_region 12 with (fail)
          have S1 := Lib.hid ((T1.out.far (p := ⟨g8, 0, none⟩) (by simp <;> omega) (.int .u64 (hi (R+R+1)))).far (p := ⟨g8, 1, none⟩) (by simp <;> omega) (.int .u64 (lo (R+R+1))))
          have S6 := Lib.hid ((T6.out.far (p := ⟨g8, 0, none⟩) (by simp <;> omega) (.int .u64 (hi (R+R+1)))).far (p := ⟨g8, 1, none⟩) (by simp <;> omega) (.int .u64 (lo (R+R+1))))
          have S7 := Lib.hid ((T7.out.far (p := ⟨g8, 0, none⟩) (by simp <;> omega) (.int .u64 (hi (R+R+1)))).far (p := ⟨g8, 1, none⟩) (by simp <;> omega) (.int .u64 (lo (R+R+1))))
          have S8 := Lib.hid ((T8.out.put 0 (.int .u64 (hi (R+R+1)))).put 1 (.int .u64 (lo (R+R+1))))
          have hB8 : Below w.heap.size w ((W7.setCell ⟨g8, 0, none⟩ (.int .u64 (hi (R+R+1)))).setCell ⟨g8, 1, none⟩ (.int .u64 (lo (R+R+1)))) := by go_grown
          simp only [List.setIfInBounds_toArray, List.set_cons_zero, List.set_cons_succ] at S8
          clear T1 T6 T7 T8 hB7 c80 c81 f80 f81 hz8
          generalize ((W7.setCell ⟨g8, 0, none⟩ (.int .u64 (hi (R+R+1)))).setCell ⟨g8, 1, none⟩ (.int .u64 (lo (R+R+1)))) = W8 at *
          have c80 := S8.out.cell 0
          have c81 := S8.out.cell 1
          have f80 := S8.out.frozen 0
          have f81 := S8.out.frozen 1
          have hz8 := S8.out.lt
          simp only [List.getElem?_toArray, List.getElem?_cons_zero, List.getElem?_cons_succ] at c80 c81
          by_cases hge : n ≤ (R+R+1)
          · have hc : decide (wd (hi (R+R+1)) (lo (R+R+1)) < wd 0 n) = false := by rw [wd_hi_lo hRR1, wd_zero]; simpa using hge
            obtain ⟨hr, hq⟩ := hds.out.1 hge
            have HR := Lib.hid hr
            have HQ := Lib.hid hq
            clear hr hq hds
            go_upto_region 12 with (fail)
            refine wp_region_calls 5 (by kernel_rfl) (by kernel_rfl) ?_
            simp only [List.take_succ_cons, List.take_zero, List.drop_succ_cons, List.drop_zero]
            refine walk1_open fun K hK => ?_
            repeat
              apply walk1_value (by rfl)
              · intro W hcl hsz; go_simp; rfl
              simp only [Act.put, List.setIfInBounds_toArray, List.set_cons_zero, List.set_cons_succ]
            apply walk1_call (by rfl)
            · intro W hsz; go_simp; first | exact ⟨rfl, rfl⟩ | rfl
            · intro W hlW; exact rof_any _ _
            simp only [Act.put, List.setIfInBounds_toArray, List.set_cons_zero, List.set_cons_succ]
            apply walk1_call (by rfl)
            · intro W hsz; go_simp; first | exact ⟨rfl, rfl⟩ | rfl
            · intro W hlW; exact rless_any _ _ _ _ _ (U_hi _) (U_lo _) U_zero hn
            simp only [Act.put, List.setIfInBounds_toArray, List.set_cons_zero, List.set_cons_succ]
            repeat
              apply walk1_value (by rfl)
              · intro W hcl hsz; go_simp; rfl
              simp only [Act.put, List.setIfInBounds_toArray, List.set_cons_zero, List.set_cons_succ]
            refine walk1_nil (hK _ ?_); clear hK K
            intro V1 hV1
            have M1 := Lib.hid (S1.out.step hV1)
            have M6 := Lib.hid (S6.out.step hV1)
            have M7 := Lib.hid (S7.out.step hV1)
            have M8 := Lib.hid (S8.out.step hV1)
            have hM1 := below_of hB8 hV1
            clear S1 S6 S7 S8 hB8 hV1 c80 c81 f80 f81 hz8
            have c80 := M8.out.cell 0
            have c81 := M8.out.cell 1
            have f80 := M8.out.frozen 0
            have f81 := M8.out.frozen 1
            have hz8 := M8.out.lt
            simp only [List.getElem?_toArray, List.getElem?_cons_zero, List.getElem?_cons_succ] at c80 c81
            go_upto_region 13 with (fail)
            refine wp_region_text (by kernel_rfl) (by kernel_rfl) fun Q2 hQ2 => ?_
            refine drawn_calls 7 (by kernel_rfl) ?_
            simp only [List.take_succ_cons, List.take_zero, List.drop_succ_cons, List.drop_zero]
            refine walk1_open fun K hK => ?_
            repeat
              apply walk1_value (by rfl)
              · intro W hcl hsz; go_simp; rfl
              simp only [Act.put, List.setIfInBounds_toArray, List.set_cons_zero, List.set_cons_succ]
            apply walk1_call (by rfl)
            · intro W hsz; go_simp; first | exact ⟨rfl, rfl⟩ | rfl
            · intro W hlW; exact rof_any _ _
            simp only [Act.put, List.setIfInBounds_toArray, List.set_cons_zero, List.set_cons_succ]
            apply walk1_call (by rfl)
            · intro W hsz; go_simp; first | exact ⟨rfl, rfl⟩ | rfl
            · intro W hlW; exact rsub_any _ _ _ _ _ (U_hi _) (U_lo _) U_zero hn
            simp only [Act.put, List.setIfInBounds_toArray, List.set_cons_zero, List.set_cons_succ]
            repeat
              apply walk1_value (by rfl)
              · intro W hcl hsz; go_simp; rfl
              simp only [Act.put, List.setIfInBounds_toArray, List.set_cons_zero, List.set_cons_succ]
            refine walk1_nil (hK _ ?_); clear hK K
            intro V2 hV2
            rw [wd_hi_lo hRR1, wd_zero]
            have N1 := Lib.hid (M1.out.step hV2)
            have N6 := Lib.hid (M6.out.step hV2)
            have N7 := Lib.hid (M7.out.step hV2)
            have N8 := Lib.hid (M8.out.step hV2)
            have hM2 := below_of hM1 hV2
            clear M1 M6 M7 M8 hM1 hV2 c80 c81 f80 f81 hz8
            have c80 := N8.out.cell 0
            have c81 := N8.out.cell 1
            have f80 := N8.out.frozen 0
            have f81 := N8.out.frozen 1
            have hz8 := N8.out.lt
            simp only [List.getElem?_toArray, List.getElem?_cons_zero, List.getElem?_cons_succ] at c80 c81
            go_upto_region 14 with (fail)
            have L1 := Lib.hid ((N1.out.far (p := ⟨g8, 0, none⟩) (by simp <;> omega) (.int .u64 (hi ((R+R+1)-n)))).far (p := ⟨g8, 1, none⟩) (by simp <;> omega) (.int .u64 (lo ((R+R+1)-n))))
            have L6 := Lib.hid ((N6.out.far (p := ⟨g8, 0, none⟩) (by simp <;> omega) (.int .u64 (hi ((R+R+1)-n)))).far (p := ⟨g8, 1, none⟩) (by simp <;> omega) (.int .u64 (lo ((R+R+1)-n))))
            have L7 := Lib.hid ((N7.out.far (p := ⟨g8, 0, none⟩) (by simp <;> omega) (.int .u64 (hi ((R+R+1)-n)))).far (p := ⟨g8, 1, none⟩) (by simp <;> omega) (.int .u64 (lo ((R+R+1)-n))))
            have L8 := Lib.hid ((N8.out.put 0 (.int .u64 (hi ((R+R+1)-n)))).put 1 (.int .u64 (lo ((R+R+1)-n))))
            have hM3 : Below w.heap.size w ((V2.setCell ⟨g8, 0, none⟩ (.int .u64 (hi ((R+R+1)-n)))).setCell ⟨g8, 1, none⟩ (.int .u64 (lo ((R+R+1)-n)))) := by go_grown
            simp only [List.setIfInBounds_toArray, List.set_cons_zero, List.set_cons_succ] at L8
            clear N1 N6 N7 N8 hM2 c80 c81 f80 f81 hz8
            generalize ((V2.setCell ⟨g8, 0, none⟩ (.int .u64 (hi ((R+R+1)-n)))).setCell ⟨g8, 1, none⟩ (.int .u64 (lo ((R+R+1)-n)))) = V3 at *
            have c7 := L7.out.cell k
            have f7 := L7.out.frozen k
            rw [A128_get _ _ (by omega)] at c7
            go_wp2
            go_roundw
            case rel =>
              refine ⟨k, by omega, rfl, ?_, ?_, ?_, ?_, ?_⟩
              · exact L1.out.far (by simp <;> omega) _
              · exact L6.out.far (by simp <;> omega) _
              · rw [← qv_one HQ.out, ← A128_put _ _ _ (by omega)]; exact L7.out.put k _
              · rw [HR.out]; exact L8.out.far (by simp <;> omega) _
              · exact hM3.setCell (p := ⟨g7, k, none⟩) (by simp <;> omega) _
            case measure => simp [intOf]
          · have hc : decide (wd (hi (R+R+1)) (lo (R+R+1)) < wd 0 n) = true := by rw [wd_hi_lo hRR1, wd_zero]; simpa using hge
            obtain ⟨hr, hq⟩ := hds.out.2 (by omega)
            have HR := Lib.hid hr
            have HQ := Lib.hid hq
            clear hr hq hds
            go_upto_region 12 with (fail)
            refine wp_region_calls 5 (by kernel_rfl) (by kernel_rfl) ?_
            simp only [List.take_succ_cons, List.take_zero, List.drop_succ_cons, List.drop_zero]
            refine walk1_open fun K hK => ?_
            repeat
              apply walk1_value (by rfl)
              · intro W hcl hsz; go_simp; rfl
              simp only [Act.put, List.setIfInBounds_toArray, List.set_cons_zero, List.set_cons_succ]
            apply walk1_call (by rfl)
            · intro W hsz; go_simp; first | exact ⟨rfl, rfl⟩ | rfl
            · intro W hlW; exact rof_any _ _
            simp only [Act.put, List.setIfInBounds_toArray, List.set_cons_zero, List.set_cons_succ]
            apply walk1_call (by rfl)
            · intro W hsz; go_simp; first | exact ⟨rfl, rfl⟩ | rfl
            · intro W hlW; exact rless_any _ _ _ _ _ (U_hi _) (U_lo _) U_zero hn
            simp only [Act.put, List.setIfInBounds_toArray, List.set_cons_zero, List.set_cons_succ]
            repeat
              apply walk1_value (by rfl)
              · intro W hcl hsz; go_simp; rfl
              simp only [Act.put, List.setIfInBounds_toArray, List.set_cons_zero, List.set_cons_succ]
            refine walk1_nil (hK _ ?_); clear hK K
            intro V1 hV1
            have M1 := Lib.hid (S1.out.step hV1)
            have M6 := Lib.hid (S6.out.step hV1)
            have M7 := Lib.hid (S7.out.step hV1)
            have M8 := Lib.hid (S8.out.step hV1)
            have hM1 := below_of hB8 hV1
            clear S1 S6 S7 S8 hB8 hV1 c80 c81 f80 f81 hz8
            go_wp2
            go_roundw
            case rel =>
              refine ⟨k, by omega, rfl, M1.out, M6.out, ?_, ?_, hM1⟩
              · rw [← qv_zero HQ.out]; exact M7.out
              · rw [HR.out]; exact M8.out
            case measure => simp [intOf]
      · obtain rfl : m = 0 := by omega
        have eq := num_qv HX.out hpos
        have hv : ((0 : Nat) : Int) - 1 = -1 := rfl
        rw [hv]
        clear hv
        rw [rm_zero] at x8
        have hrb : U (wd a b % n) := by
          have := Int.emod_nonneg (wd a b) (show n ≠ 0 by omega)
          have := Int.emod_lt_of_pos (wd a b) hpos
          unfold U at *; omega
        rw [hi_of_U hrb, lo_of_U hrb] at x8
        have l7 := x7.lt
        have hz8 := x8.lt
        have c80 := x8.cell 0
        have c81 := x8.cell 1
        have c10 := x1.cell 0
        have c11 := x1.cell 1
        have f10 := x1.frozen 0
        have f11 := x1.frozen 1
        simp only [List.getElem?_toArray, List.getElem?_cons_zero, List.getElem?_cons_succ] at c80 c81 c10 c11
        have EQ := Lib.hid eq
        have X1 := Lib.hid x1
        clear eq x1 x6 hlt hm
        go_upto_region 15 with (fail)
        refine wp_region_keep (fun W => Blk W g7 112 (A128 (qv (wd a b) n 0)) ∧ Blk W g8 42 #[.int .u64 0, .int .u64 (wd a b % n)] ∧ (∃ cs, Blk W (w.heap.size + 1) 42 cs) ∧ Below w.heap.size w W) (by kernel_rfl) fun Q2 hQ2 hP => ?_
        have hS0 : Blk wr.drew g7 112 (A128 (qv (wd a b) n 0)) ∧ Blk wr.drew g8 42 #[.int .u64 0, .int .u64 (wd a b % n)] ∧ (∃ cs, Blk wr.drew (w.heap.size + 1) 42 cs) ∧ Below w.heap.size w wr.drew := ⟨x7, x8, ⟨_, X1.out⟩, xB.drew⟩
        refine keep_value (o := ?ok1) (v := .pointer (some ⟨g8, 1, none⟩)) 2 hP ?hik1 (by kernel_rfl) (by kernel_rfl) (by kernel_rfl) ?hwk1 ?hyk1 hS0 ?hk1
        case hik1 => simp only [List.getElem?_toArray, List.getElem?_cons_succ, List.getElem?_cons_zero]; rfl
        case hwk1 => rfl
        rotate_left
        simp only [Act.put, List.setIfInBounds_toArray, List.set_cons_zero, List.set_cons_succ]
        rotate_right
        · intro W hS
          have c := hS.2.1.cell 0
          have c' := hS.2.1.cell 1
          simp only [List.getElem?_toArray, List.getElem?_cons_zero, List.getElem?_cons_succ] at c c'
          go_simp
        refine keep_value (o := ?ok2) (v := .int .u64 (wd a b % n)) 3 hP ?hik2 (by kernel_rfl) (by kernel_rfl) (by kernel_rfl) ?hwk2 ?hyk2 hS0 ?hk2
        case hik2 => simp only [List.getElem?_toArray, List.getElem?_cons_succ, List.getElem?_cons_zero]; rfl
        case hwk2 => rfl
        rotate_left
        simp only [Act.put, List.setIfInBounds_toArray, List.set_cons_zero, List.set_cons_succ]
        rotate_right
        · intro W hS
          have c' := hS.2.1.cell 1
          simp only [List.getElem?_toArray, List.getElem?_cons_zero, List.getElem?_cons_succ] at c'
          go_simp
        refine keep_row (o := ?ok3) 0 112 (.tmp 7) g7 112 (A128 (qv (wd a b) n 0)) _ hP ?hik3 (by kernel_rfl) (by kernel_rfl) (by kernel_rfl) ?hwk3 ?hok3 ?hxk3 ?hgk3 Try.underlying112 rfl (by rw [A128_size]; exact zero_bits.2) hS0 ?hk3
        case hik3 => simp only [List.getElem?_toArray, List.getElem?_cons_succ, List.getElem?_cons_zero]; rfl
        case hwk3 => rfl
        case hok3 => rfl
        case hxk3 => rfl
        rotate_left
        simp only [Act.put, List.setIfInBounds_toArray, List.set_cons_zero, List.set_cons_succ]
        rotate_right
        · exact fun W hS => hS.1
        refine keep_only (o := ?ok4) 1 ?hik4 (by kernel_rfl) ?hwk4 ?hk4
        case hik4 => simp only [List.getElem?_toArray, List.getElem?_cons_succ, List.getElem?_cons_zero]; rfl
        case hwk4 => rfl
        refine wp_enter (by go_simp; exact ⟨rfl, rfl⟩) (whole_any _ _ (isBits_qv _ _ _)) ?_
        rintro e W7 ⟨rfl, hW7⟩
        have p7 := (show Blk wr.drew (w.heap.size + 1) 42 #[.int .u64 0, .int .u64 0] from X1.out).step hW7
        have hS7 : Blk W7 g7 112 (A128 (qv (wd a b) n 0)) ∧ Blk W7 g8 42 #[.int .u64 0, .int .u64 (wd a b % n)] ∧ (∃ cs, Blk W7 (w.heap.size + 1) 42 cs) ∧ Below w.heap.size w W7 := ⟨hS0.1.step hW7, hS0.2.1.step hW7, ⟨_, p7⟩, below_of hS0.2.2.2 hW7⟩
        refine ⟨_, rfl, hS7, ?_⟩
        simp only [Act.put, List.setIfInBounds_toArray, List.set_cons_zero, List.set_cons_succ]
        rw [EQ.out]
        have c10 := p7.cell 0
        have c11 := p7.cell 1
        have f10 := p7.frozen 0
        have f11 := p7.frozen 1
        simp only [List.getElem?_toArray, List.getElem?_cons_zero, List.getElem?_cons_succ] at c10 c11
        refine keep_only (o := ?ok5) 4 ?hik5 (by kernel_rfl) ?hwk5 ?hk5
        case hik5 => simp only [List.getElem?_toArray, List.getElem?_cons_succ, List.getElem?_cons_zero]; rfl
        case hwk5 => rfl
        refine wp_skip (by go_simp; rfl) ?_
        have hB8 : Below w.heap.size w ((W7.setCell ⟨w.heap.size + 1, 0, none⟩ (.int .u64 (hi (wd a b / n)))).setCell ⟨w.heap.size + 1, 1, none⟩ (.int .u64 (lo (wd a b / n)))) := by
          have := hS7.2.2.2
          go_grown
        have b8 := (p7.put 0 (.int .u64 (hi (wd a b / n)))).put 1 (.int .u64 (lo (wd a b / n)))
        simp only [List.setIfInBounds_toArray, List.set_cons_zero, List.set_cons_succ] at b8
        refine ⟨⟨(hS7.1.far (by simp <;> omega) _).far (by simp <;> omega) _, (hS7.2.1.far (by simp <;> omega) _).far (by simp <;> omega) _, ⟨_, b8⟩, hB8⟩, ?_⟩
        simp only [Act.put, List.setIfInBounds_toArray, List.set_cons_zero, List.set_cons_succ]
        refine keep_only (o := ?ok6) 5 ?hik6 (by kernel_rfl) ?hwk6 ?hk6
        case hik6 => simp only [List.getElem?_toArray, List.getElem?_cons_succ, List.getElem?_cons_zero]; rfl
        case hwk6 => rfl
        refine wp_value (by go_simp; exact ⟨rfl, rfl⟩) ?_
        refine ⟨⟨(hS7.1.far (by simp <;> omega) _).far (by simp <;> omega) _, (hS7.2.1.far (by simp <;> omega) _).far (by simp <;> omega) _, ⟨_, b8⟩, hB8⟩, ?_⟩
        simp only [Act.put, List.setIfInBounds_toArray, List.set_cons_zero, List.set_cons_succ]
        refine keep_done (by kernel_rfl) ?_
        have f0 := b8.cell 0
        have f1 := b8.cell 1
        simp only [List.getElem?_toArray, List.getElem?_cons_zero, List.getElem?_cons_succ] at f0 f1
        refine hQ2 _ _ ?_
        clear hQ2 hP hS0 hS7 f10 f11 c10 c11 c80 c81 X1 x7 x8
        go_wp2
        apply bodyPost_ret
        · simp [results, Try.results46, go_sem, f0, f1]; rfl
        · rfl
        · exact ⟨rfl, hB8⟩

end Go.Proofs.Ytiaoaoebghnpkaa
