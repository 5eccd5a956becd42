/- Part of the proof. -/
import Derived.Test.YtiaoaoebghnpkaaProg
import Derived.Handy
import Derived.Deep.WholeRow
import Derived.Lib.Hide
import Derived.Deep.DeepCutAuto
import Derived.Test.YtiaoaoebghnpkaaKB5
import Derived.Test.YtiaoaoebghnpkaaKB3
import Derived.Test.YtiaoaoebghnpkaaKB4
import Derived.Test.YtiaoaoebghnpkaaKB6
/- What the package bucket's functions answer, and the document's for them: the same values on both sides. -/
namespace Go.Proofs.Ytiaoaoebghnpkaa
open Go.RowKit

/-! ### The values -/
/-- How much a gain puts into a bucket, and what it holds then; what spills. -/
def putV (l r g : Int) : Int := min g (r - min l r)
def growV (l r g : Int) : Int := l + putV l r g
def spillV (l r g : Int) : Int := g - putV l r g
/-- Whether so many bytes can be reckoned, and what they take. -/
def okV (s : Int) : Bool := decide (0 ≤ s) && decide (s * 1000000000 < 18446744073709551616)
def needV (s : Int) : Int := if okV s then s * 1000000000 else 0
def canV (l s : Int) : Bool := okV s && decide (needV s ≤ l)
def takeV (l s : Int) : Int := if canV l s then l - needV s else l
def fullV (b : Int) : Int := if b ≤ 4294967296 then b * 1000000000 else 0
def fullE (b : Int) : Int := if b ≤ 4294967296 then 0 else 17


theorem bfull_any (b : Int) (w : World) (hb : U b) : Calls Try.prog 80 #[.int .u64 b] w fun e w' => e = .returned (.tuple #[.int .u64 (fullV b), .int .i64 (fullE b)]) ∧ w = w' := by
  go_enter Try.func80, Try.ntmps80
  by_cases h : b ≤ 4294967296
  · go_wp2
    go_returns
    unfold fullV fullE
    rw [if_pos (by omega), if_pos (by omega), IntKind.wrap_u64]
    unfold U at hb
    exact ⟨ret_int_int (by omega) rfl, rfl⟩
  · go_wp2
    go_returns
    unfold fullV fullE
    rw [if_neg (by omega), if_neg (by omega)]
    exact ⟨rfl, rfl⟩

theorem needV_lo {s : Int} (h0 : 0 ≤ s) (h : s * 1000000000 < 18446744073709551616) : okV s = true ∧ needV s = s * 1000000000 := by
  have : okV s = true := by unfold okV; simp [h0, h]
  exact ⟨this, by unfold needV; rw [if_pos this]⟩
theorem needV_no {s : Int} (h : s < 0 ∨ 18446744073709551616 ≤ s * 1000000000) : okV s = false ∧ needV s = 0 := by
  have : okV s = false := by unfold okV; rcases h with h | h <;> simp <;> omega
  exact ⟨this, by unfold needV; rw [this]; rfl⟩

theorem hi_zero {n : Int} (h : V n) : hi n = 0 ↔ n < 18446744073709551616 := by
  unfold V at h
  have h1 : n / 18446744073709551616 < 18446744073709551616 := by omega
  have h2 : 0 ≤ n / 18446744073709551616 := by omega
  unfold hi
  rw [Int.emod_eq_of_lt h2 h1]
  omega
theorem U_nano : U 1000000000 := by unfold U; omega
theorem wrap_in {s : Int} (h : U s) : IntKind.u64.wrap s = s := by unfold U at h; rw [IntKind.wrap_u64]; omega

set_option maxHeartbeats 1000000 in
theorem bneed_any (s : Int) (w : World) (hs : I64 s) : Calls Try.prog 54 #[.int .i64 s] w fun e w' => e = .returned (.tuple #[.int .u64 (needV s), .bool (okV s)]) ∧ Below w.heap.size w w' := by
  go_enter Try.func54, Try.ntmps54
  by_cases h0 : s < 0
  · have HO := Lib.hid (needV_no (s := s) (.inl h0))
    go_wp2
    go_returns
    rw [HO.out.1, HO.out.2]
    exact ⟨rfl, by go_grown⟩
  · have hU : U s := by unfold I64 at hs; unfold U; omega
    go_wp2_with fail
    rw [wrap_in hU]
    refine (mul_any _ _ _ hU U_nano).mono ?_
    rintro e W1 ⟨rfl, hW1⟩; obtain ⟨hcl1, hfl1, hzl1⟩ := bcell hW1; repeat (first | simp only [World.size_alloc] at hzl1 | simp only [World.size_drew] at hzl1 | simp only [World.size_setCell] at hzl1)
    have hB1 : Below w.heap.size w W1 := below_of (by go_grown) hW1
    have hh : hi (s * 1000000000) = 0 ↔ s * 1000000000 < 18446744073709551616 := hi_zero (V_mul hU U_nano)
    have HH := Lib.hid hh
    have hhU : U (hi (s * 1000000000)) := U_hi _
    obtain ⟨x, hx⟩ : ∃ x, x = hi (s * 1000000000) := ⟨_, rfl⟩
    rw [← hx] at hhU ⊢
    unfold U at hhU
    obtain ⟨hx0, hx1⟩ := hhU
    have HX := Lib.hid hx
    clear hx hh
    by_cases hz : x = 0
    · subst hz
      have hlt := HH.out.1 HX.out.symm
      have HO := Lib.hid (needV_lo (by omega) hlt)
      go_wp2
      go_returns
      rw [HO.out.1, HO.out.2]
      refine ⟨ret_int_bool ?_ rfl, by go_grown⟩
      exact lo_of_U (by unfold U; omega)
    · have hge : ¬ s * 1000000000 < 18446744073709551616 := fun h => hz (HX.out.trans (HH.out.2 h))
      have HO := Lib.hid (needV_no (s := s) (.inr (by omega)))
      have hz1 : (x != 0) = true := by simpa using hz
      have hz2 : 0 < x := by omega
      go_wp2
      go_returns
      rw [HO.out.1, HO.out.2]
      exact ⟨rfl, by go_grown⟩

theorem U_need (s : Int) : U (needV s) := by
  unfold needV okV U
  split
  · rename_i h; simp only [Bool.and_eq_true, decide_eq_true_eq] at h; omega
  · omega

set_option maxHeartbeats 1000000 in
theorem btake_any (l s : Int) (w : World) (hl : U l) (hs : I64 s) : Calls Try.prog 124 #[.int .u64 l, .int .i64 s] w fun e w' => e = .returned (.tuple #[.int .u64 (takeV l s), .bool (canV l s)]) ∧ Below w.heap.size w w' := by
  go_enter Try.func124, Try.ntmps124
  go_wp2_with fail
  refine (bneed_any _ _ hs).mono ?_
  rintro e W1 ⟨rfl, hW1⟩; obtain ⟨hcl1, hfl1, hzl1⟩ := bcell hW1; repeat (first | simp only [World.size_alloc] at hzl1 | simp only [World.size_drew] at hzl1 | simp only [World.size_setCell] at hzl1)
  have hB1 : Below w.heap.size w W1 := below_of (by go_grown) hW1
  obtain ⟨k, hk⟩ : ∃ k, k = okV s := ⟨_, rfl⟩
  obtain ⟨n, hn⟩ : ∃ n, n = needV s := ⟨_, rfl⟩
  have hU := U_need s
  have hT : takeV l s = if k && decide (n ≤ l) then l - n else l := by rw [hk, hn]; rfl
  have hC : canV l s = (k && decide (n ≤ l)) := by rw [hk, hn]; rfl
  have HT := Lib.hid hT
  have HC := Lib.hid hC
  rw [← hn] at hU
  rw [← hk, ← hn]
  clear hk hn hT hC
  cases k with
  | false =>
    go_wp2
    go_returns
    rw [HT.out, HC.out]
    exact ⟨rfl, by go_grown⟩
  | true =>
    by_cases h : n ≤ l
    · go_wp2
      go_returns
      have h2 : decide (n ≤ l) = true := by simpa using h
      rw [HT.out, HC.out, h2]
      refine ⟨ret_int_bool ?_ rfl, by go_grown⟩
      have : U (l - n) := by unfold U at *; omega
      exact wrap_in this
    · have h' : l < n := by omega
      go_wp2
      go_returns
      have h2 : decide (n ≤ l) = false := by simpa using h
      rw [HT.out, HC.out, h2]
      exact ⟨rfl, by go_grown⟩

theorem put_bounds {l r g : Int} (hl : U l) (hr : U r) (hg : V g) : U (r - min l r) ∧ U (putV l r g) ∧ V (spillV l r g) ∧ U (growV l r g) := by
  unfold growV spillV putV U V at *
  rw [Int.min_def g, Int.min_def l r]
  split <;> split <;> omega
theorem wide_zero : (Try.prog.info? 42).bind (·.zero) = some (.agg #[.int .u64 0, .int .u64 0]) := by kernel_rfl




set_option maxHeartbeats 2000000 in
theorem bgrow_any (l r q t : Int) (w : World) (hl : U l) (hr : U r) (hq : U q) (ht : U t) : Calls Try.prog 121 #[.int .u64 l, .int .u64 r, .int .u64 q, .int .u64 t] w fun e w' => e = .returned (.tuple #[.int .u64 (growV l r (q * t)), .agg #[.int .u64 (hi (spillV l r (q * t))), .int .u64 (lo (spillV l r (q * t)))]]) ∧ Below w.heap.size w w' := by
  have hV := V_mul hq ht
  obtain ⟨u1, u2, u3, u4⟩ := put_bounds hl hr hV
  go_enter Try.func121, Try.ntmps121
  by_cases hm : l ≤ r
  · have em : min l r = l := Int.min_eq_left hm
    have HP := Lib.hid (show min (q * t) (IntKind.u64.wrap (r - l)) = putV l r (q * t) by
      rw [em] at u1; unfold putV; rw [em, wrap_in u1])
    clear em
    go_wp2_with fail
    refine ( mul_any _ _ _ hq ht).mono ?_
    rintro e W1 ⟨rfl, hW1⟩
    have b0 := ((Blk.new w 42 #[.int .u64 0, .int .u64 0]).step hW1).alloc (.cells #[.int .u64 (hi (q * t)), .int .u64 (lo (q * t))] 42)
    have b1 := Blk.new W1 42 #[.int .u64 (hi (q * t)), .int .u64 (lo (q * t))]
    have hB1 : Below w.heap.size w W1 := below_of (by go_grown) hW1
    have hg1 : w.heap.size < W1.heap.size := (Blk.step (Blk.new w 42 #[.int .u64 0, .int .u64 0]) hW1).lt
    clear hW1
    go_wp2_with fail
    refine ( cap_any _ _ _ _ (U_hi _) (U_lo _) (U_wrap _)).mono ?_
    rintro e W2 ⟨rfl, hW2⟩
    rw [wd_hi_lo hV, HP.out]
    replace b0 := b0.step hW2
    replace b1 := b1.step hW2
    have hB2 : Below w.heap.size w W2 := below_of (by go_grown) hW2
    clear hW2 hB1
    have cb00 := b0.cell 0
    have cb01 := b0.cell 1
    have fb00 := b0.frozen 0
    have fb01 := b0.frozen 1
    have zb0 := b0.lt
    simp only [List.getElem?_toArray, List.getElem?_cons_zero, List.getElem?_cons_succ] at cb00 cb01
    have cb10 := b1.cell 0
    have cb11 := b1.cell 1
    have fb10 := b1.frozen 0
    have fb11 := b1.frozen 1
    have zb1 := b1.lt
    simp only [List.getElem?_toArray, List.getElem?_cons_zero, List.getElem?_cons_succ] at cb10 cb11
    have hs0 : V (wd 0 (putV l r (q * t))) := V_wd U_zero u2
    go_upto_region 3 with (fail)
    refine wp_region_text (by kernel_rfl) (by kernel_rfl) fun Q2 hQ2 => ?_
    refine drawn_loose' 8 (by kernel_rfl) ?_
    simp only [List.take_succ_cons, List.take_zero, List.drop_succ_cons, List.drop_zero, List.filter_cons, List.filter_nil, laysB, Bool.not_false, Bool.not_true, if_true, Bool.false_eq_true, if_false]
    refine walk1_open fun K hK => ?_
    repeat
      apply walk1_value (by rfl)
      · intro W hcl hsz; go_simp; rfl
      simp only [Act.put, List.setIfInBounds_toArray, List.set_cons_zero, List.set_cons_succ]
    apply walk1_call (by rfl)
    · intro W hsz; go_simp; first | exact ⟨rfl, rfl⟩ | rfl
    · intro W hlW; exact  of_any _ _
    simp only [Act.put, List.setIfInBounds_toArray, List.set_cons_zero, List.set_cons_succ]
    apply walk1_call (by rfl)
    · intro W hsz; go_simp; first | exact ⟨rfl, rfl⟩ | rfl
    · intro W hlW; exact  sub_any _ _ _ _ _ (U_lo _) u2
    simp only [Act.put, List.setIfInBounds_toArray, List.set_cons_zero, List.set_cons_succ]
    repeat
      apply walk1_value (by rfl)
      · intro W hcl hsz; go_simp; rfl
      simp only [Act.put, List.setIfInBounds_toArray, List.set_cons_zero, List.set_cons_succ]
    refine walk1_nil (hK _ ?_); clear hK K
    refine walk2_alloc 42 (.agg #[.int .u64 0, .int .u64 0]) #[.int .u64 0, .int .u64 0] rfl wide_zero (by simp only [Value.cells]) (by rfl) fun g1 hg1 hd1 => ?_
    refine walk2_nil ?_
    intro W3 hW3
    rw [wd_hi_lo hV, wd_zero, show q * t - putV l r (q * t) = spillV l r (q * t) from rfl]
    have hg2 : w.heap.size < g1 := by omega
    have b2 : Blk W3 g1 42 #[.int .u64 0, .int .u64 0] := hW3.blk (List.mem_cons_self ..)
    replace b0 := b0.step hW3.1
    have hB3 := below_of hB2 hW3.1
    clear cb00 cb01 fb00 fb01 zb0
    clear cb10 cb11 fb10 fb11 zb1
    have cb00 := b0.cell 0
    have cb01 := b0.cell 1
    have fb00 := b0.frozen 0
    have fb01 := b0.frozen 1
    have zb0 := b0.lt
    simp only [List.getElem?_toArray, List.getElem?_cons_zero, List.getElem?_cons_succ] at cb00 cb01
    have cb20 := b2.cell 0
    have cb21 := b2.cell 1
    have fb20 := b2.frozen 0
    have fb21 := b2.frozen 1
    have zb2 := b2.lt
    simp only [List.getElem?_toArray, List.getElem?_cons_zero, List.getElem?_cons_succ] at cb20 cb21
    clear hW3 hd1 b1 hB2
    have gg1 : IntKind.u64.wrap (l + putV l r (q * t)) = growV l r (q * t) := wrap_in u4
    go_upto_region 4 with (fail)
    replace b0 := (b0.far (p := ⟨g1, 0, none⟩) (by simp <;> omega) (.int .u64 (hi (spillV l r (q * t))))).far (p := ⟨g1, 1, none⟩) (by simp <;> omega) (.int .u64 (lo (spillV l r (q * t))))
    replace b2 := (b2.put 0 (.int .u64 (hi (spillV l r (q * t))))).put 1 (.int .u64 (lo (spillV l r (q * t))))
    simp only [List.setIfInBounds_toArray, List.set_cons_zero, List.set_cons_succ] at b2
    replace hB3 : Below w.heap.size w ((W3.setCell ⟨g1, 0, none⟩ (.int .u64 (hi (spillV l r (q * t))))).setCell ⟨g1, 1, none⟩ (.int .u64 (lo (spillV l r (q * t))))) := by go_grown
    generalize ((W3.setCell ⟨g1, 0, none⟩ (.int .u64 (hi (spillV l r (q * t))))).setCell ⟨g1, 1, none⟩ (.int .u64 (lo (spillV l r (q * t))))) = W4 at *
    clear cb00 cb01 fb00 fb01 zb0
    clear cb20 cb21 fb20 fb21 zb2
    have cb00 := b0.cell 0
    have cb01 := b0.cell 1
    have fb00 := b0.frozen 0
    have fb01 := b0.frozen 1
    have zb0 := b0.lt
    simp only [List.getElem?_toArray, List.getElem?_cons_zero, List.getElem?_cons_succ] at cb00 cb01
    have cb20 := b2.cell 0
    have cb21 := b2.cell 1
    have fb20 := b2.frozen 0
    have fb21 := b2.frozen 1
    have zb2 := b2.lt
    simp only [List.getElem?_toArray, List.getElem?_cons_zero, List.getElem?_cons_succ] at cb20 cb21
    refine wp_region_calls 5 (by kernel_rfl) (by kernel_rfl) ?_
    simp only [List.take_succ_cons, List.take_zero, List.drop_succ_cons, List.drop_zero]
    refine walk1_open fun K hK => ?_
    repeat
      apply walk1_value (by rfl)
      · intro W hcl hsz; go_simp; rfl
      simp only [Act.put, List.setIfInBounds_toArray, List.set_cons_zero, List.set_cons_succ]
    refine walk1_nil (hK _ ?_); clear hK K
    intro W5 hW5
    replace b0 := b0.step hW5
    have hB5 := below_of hB3 hW5
    clear cb00 cb01 fb00 fb01 zb0
    clear cb20 cb21 fb20 fb21 zb2
    have cb00 := b0.cell 0
    have cb01 := b0.cell 1
    have fb00 := b0.frozen 0
    have fb01 := b0.frozen 1
    have zb0 := b0.lt
    simp only [List.getElem?_toArray, List.getElem?_cons_zero, List.getElem?_cons_succ] at cb00 cb01
    clear hW5 b2
    go_wp2
    apply bodyPost_ret
    · simp [results, Try.results121, go_sem, cb00, cb01]; rfl
    · rfl
    · exact ⟨rfl, by go_grown⟩
  · have hm' : r < l := by omega
    have em : min l r = r := Int.min_eq_right (by omega)
    have HP := Lib.hid (show min (q * t) 0 = putV l r (q * t) by unfold putV; rw [em, Int.sub_self])
    clear em hm
    go_wp2_with fail
    refine ( mul_any _ _ _ hq ht).mono ?_
    rintro e W1 ⟨rfl, hW1⟩
    have b0 := ((Blk.new w 42 #[.int .u64 0, .int .u64 0]).step hW1).alloc (.cells #[.int .u64 (hi (q * t)), .int .u64 (lo (q * t))] 42)
    have b1 := Blk.new W1 42 #[.int .u64 (hi (q * t)), .int .u64 (lo (q * t))]
    have hB1 : Below w.heap.size w W1 := below_of (by go_grown) hW1
    have hg1 : w.heap.size < W1.heap.size := (Blk.step (Blk.new w 42 #[.int .u64 0, .int .u64 0]) hW1).lt
    clear hW1
    go_wp2_with fail
    refine ( cap_any _ _ _ _ (U_hi _) (U_lo _) U_zero).mono ?_
    rintro e W2 ⟨rfl, hW2⟩
    rw [wd_hi_lo hV, HP.out]
    replace b0 := b0.step hW2
    replace b1 := b1.step hW2
    have hB2 : Below w.heap.size w W2 := below_of (by go_grown) hW2
    clear hW2 hB1
    have cb00 := b0.cell 0
    have cb01 := b0.cell 1
    have fb00 := b0.frozen 0
    have fb01 := b0.frozen 1
    have zb0 := b0.lt
    simp only [List.getElem?_toArray, List.getElem?_cons_zero, List.getElem?_cons_succ] at cb00 cb01
    have cb10 := b1.cell 0
    have cb11 := b1.cell 1
    have fb10 := b1.frozen 0
    have fb11 := b1.frozen 1
    have zb1 := b1.lt
    simp only [List.getElem?_toArray, List.getElem?_cons_zero, List.getElem?_cons_succ] at cb10 cb11
    have hs0 : V (wd 0 (putV l r (q * t))) := V_wd U_zero u2
    go_upto_region 3 with (fail)
    refine wp_region_text (by kernel_rfl) (by kernel_rfl) fun Q2 hQ2 => ?_
    refine drawn_loose' 8 (by kernel_rfl) ?_
    simp only [List.take_succ_cons, List.take_zero, List.drop_succ_cons, List.drop_zero, List.filter_cons, List.filter_nil, laysB, Bool.not_false, Bool.not_true, if_true, Bool.false_eq_true, if_false]
    refine walk1_open fun K hK => ?_
    repeat
      apply walk1_value (by rfl)
      · intro W hcl hsz; go_simp; rfl
      simp only [Act.put, List.setIfInBounds_toArray, List.set_cons_zero, List.set_cons_succ]
    apply walk1_call (by rfl)
    · intro W hsz; go_simp; first | exact ⟨rfl, rfl⟩ | rfl
    · intro W hlW; exact  of_any _ _
    simp only [Act.put, List.setIfInBounds_toArray, List.set_cons_zero, List.set_cons_succ]
    apply walk1_call (by rfl)
    · intro W hsz; go_simp; first | exact ⟨rfl, rfl⟩ | rfl
    · intro W hlW; exact  sub_any _ _ _ _ _ (U_lo _) u2
    simp only [Act.put, List.setIfInBounds_toArray, List.set_cons_zero, List.set_cons_succ]
    repeat
      apply walk1_value (by rfl)
      · intro W hcl hsz; go_simp; rfl
      simp only [Act.put, List.setIfInBounds_toArray, List.set_cons_zero, List.set_cons_succ]
    refine walk1_nil (hK _ ?_); clear hK K
    refine walk2_alloc 42 (.agg #[.int .u64 0, .int .u64 0]) #[.int .u64 0, .int .u64 0] rfl wide_zero (by simp only [Value.cells]) (by rfl) fun g1 hg1 hd1 => ?_
    refine walk2_nil ?_
    intro W3 hW3
    rw [wd_hi_lo hV, wd_zero, show q * t - putV l r (q * t) = spillV l r (q * t) from rfl]
    have hg2 : w.heap.size < g1 := by omega
    have b2 : Blk W3 g1 42 #[.int .u64 0, .int .u64 0] := hW3.blk (List.mem_cons_self ..)
    replace b0 := b0.step hW3.1
    have hB3 := below_of hB2 hW3.1
    clear cb00 cb01 fb00 fb01 zb0
    clear cb10 cb11 fb10 fb11 zb1
    have cb00 := b0.cell 0
    have cb01 := b0.cell 1
    have fb00 := b0.frozen 0
    have fb01 := b0.frozen 1
    have zb0 := b0.lt
    simp only [List.getElem?_toArray, List.getElem?_cons_zero, List.getElem?_cons_succ] at cb00 cb01
    have cb20 := b2.cell 0
    have cb21 := b2.cell 1
    have fb20 := b2.frozen 0
    have fb21 := b2.frozen 1
    have zb2 := b2.lt
    simp only [List.getElem?_toArray, List.getElem?_cons_zero, List.getElem?_cons_succ] at cb20 cb21
    clear hW3 hd1 b1 hB2
    have gg1 : IntKind.u64.wrap (l + putV l r (q * t)) = growV l r (q * t) := wrap_in u4
    go_upto_region 4 with (fail)
    replace b0 := (b0.far (p := ⟨g1, 0, none⟩) (by simp <;> omega) (.int .u64 (hi (spillV l r (q * t))))).far (p := ⟨g1, 1, none⟩) (by simp <;> omega) (.int .u64 (lo (spillV l r (q * t))))
    replace b2 := (b2.put 0 (.int .u64 (hi (spillV l r (q * t))))).put 1 (.int .u64 (lo (spillV l r (q * t))))
    simp only [List.setIfInBounds_toArray, List.set_cons_zero, List.set_cons_succ] at b2
    replace hB3 : Below w.heap.size w ((W3.setCell ⟨g1, 0, none⟩ (.int .u64 (hi (spillV l r (q * t))))).setCell ⟨g1, 1, none⟩ (.int .u64 (lo (spillV l r (q * t))))) := by go_grown
    generalize ((W3.setCell ⟨g1, 0, none⟩ (.int .u64 (hi (spillV l r (q * t))))).setCell ⟨g1, 1, none⟩ (.int .u64 (lo (spillV l r (q * t))))) = W4 at *
    clear cb00 cb01 fb00 fb01 zb0
    clear cb20 cb21 fb20 fb21 zb2
    have cb00 := b0.cell 0
    have cb01 := b0.cell 1
    have fb00 := b0.frozen 0
    have fb01 := b0.frozen 1
    have zb0 := b0.lt
    simp only [List.getElem?_toArray, List.getElem?_cons_zero, List.getElem?_cons_succ] at cb00 cb01
    have cb20 := b2.cell 0
    have cb21 := b2.cell 1
    have fb20 := b2.frozen 0
    have fb21 := b2.frozen 1
    have zb2 := b2.lt
    simp only [List.getElem?_toArray, List.getElem?_cons_zero, List.getElem?_cons_succ] at cb20 cb21
    refine wp_region_calls 5 (by kernel_rfl) (by kernel_rfl) ?_
    simp only [List.take_succ_cons, List.take_zero, List.drop_succ_cons, List.drop_zero]
    refine walk1_open fun K hK => ?_
    repeat
      apply walk1_value (by rfl)
      · intro W hcl hsz; go_simp; rfl
      simp only [Act.put, List.setIfInBounds_toArray, List.set_cons_zero, List.set_cons_succ]
    refine walk1_nil (hK _ ?_); clear hK K
    intro W5 hW5
    replace b0 := b0.step hW5
    have hB5 := below_of hB3 hW5
    clear cb00 cb01 fb00 fb01 zb0
    clear cb20 cb21 fb20 fb21 zb2
    have cb00 := b0.cell 0
    have cb01 := b0.cell 1
    have fb00 := b0.frozen 0
    have fb01 := b0.frozen 1
    have zb0 := b0.lt
    simp only [List.getElem?_toArray, List.getElem?_cons_zero, List.getElem?_cons_succ] at cb00 cb01
    clear hW5 b2
    go_wp2
    apply bodyPost_ret
    · simp [results, Try.results121, go_sem, cb00, cb01]; rfl
    · rfl
    · exact ⟨rfl, by go_grown⟩

end Go.Proofs.Ytiaoaoebghnpkaa
