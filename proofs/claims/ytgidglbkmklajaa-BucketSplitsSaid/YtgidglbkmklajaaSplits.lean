/- The law BucketSplits: it answers true, whatever the input. Condition: none. -/
import Derived.Test.YtgidglbkmklajaaRows
import Derived.Test.YtgidglbkmklajaaLive24
import Derived.Test.YtgidglbkmklajaaLaw
namespace Go.Proofs.Ytgidglbkmklajaa
open Go.ChangeShapes Go.WideShapes Go.ChangeAt Go.RowKit

theorem ov_false {n : Int} (h : V n) : ov n = false := by unfold V at h; unfold ov; simp; omega
/-- Two gains, one behind the other, are one gain. -/
theorem split_law {l r g1 g2 : Int} (h1 : 0 ≤ g1) (h2 : 0 ≤ g2) :
    growV (growV l r g1) r g2 = growV l r (g1 + g2) ∧ spillV l r g1 + spillV (growV l r g1) r g2 = spillV l r (g1 + g2) := by
  unfold spillV growV putV
  simp only [Int.min_def]
  repeat' split
  all_goals omega
theorem grow_law {l r g : Int} (h : 0 ≤ g) : l ≤ growV l r g ∧ (l ≤ r → growV l r g ≤ r) ∧ growV l r g - l + spillV l r g = g := by
  unfold spillV growV putV
  simp only [Int.min_def]
  repeat' split
  all_goals omega

set_option maxRecDepth 100000 in
set_option maxHeartbeats 8000000 in
theorem splits_any (l r q t1 t2 : Int) (w : World) (hl : U l) (hr : U r) (hq : U q) (ht1 : U t1) (ht2 : U t2) : Calls Try.prog 8 #[.int .u64 l, .int .u64 r, .agg #[.int .u64 q, .int .u64 t1, .int .u64 t2]] w fun e w' => e = .returned (.bool true) ∧ Below w.heap.size w w' := by
  go_enter Try.func8, Try.ntmps8
  have b0 := Blk.new w 50 #[.int .u64 q, .int .u64 t1, .int .u64 t2]
  by_cases hov : t1 + t2 < 18446744073709551616
  · have ht : U (t1 + t2) := by unfold U at *; omega
    have hw : IntKind.u64.wrap (t1 + t2) = t1 + t2 := wrap_in ht
    have hge : ¬ t1 + t2 < t1 := by unfold U at *; omega
    have g1 : 0 ≤ q * t1 := (V_mul hq ht1).1
    have g2 : 0 ≤ q * t2 := (V_mul hq ht2).1
    have hg := V_mul hq ht
    have hsum : q * (t1 + t2) = q * t1 + q * t2 := Int.mul_add _ _ _
    obtain ⟨e1, e2⟩ := split_law (l := l) (r := r) g1 g2
    obtain ⟨k1, k2, k3⟩ := grow_law (l := l) (r := r) hg.1
    obtain ⟨_, _, vs, ua⟩ := put_bounds hl hr hg
    obtain ⟨_, _, vu, ub⟩ := put_bounds hl hr (V_mul hq ht1)
    obtain ⟨_, _, vv, uc⟩ := put_bounds ub hr (V_mul hq ht2)
    rw [← hsum] at e1 e2
    have hq' : q * (t1 + t2) = growV l r (q * (t1 + t2)) - l + spillV l r (q * (t1 + t2)) := k3.symm
    obtain ⟨a, ha⟩ : ∃ a, a = growV l r (q * (t1 + t2)) := ⟨_, rfl⟩
    obtain ⟨s, hs⟩ : ∃ s, s = spillV l r (q * (t1 + t2)) := ⟨_, rfl⟩
    rw [← ha] at e1 k1 k2 hq' ua
    rw [← hs] at e2 hq' vs
    obtain ⟨b, hb⟩ : ∃ b, b = growV l r (q * t1) := ⟨_, rfl⟩
    obtain ⟨u, hu⟩ : ∃ u, u = spillV l r (q * t1) := ⟨_, rfl⟩
    rw [← hb] at e1 e2 vv ub
    rw [← hu] at e2 vu
    obtain ⟨v, hv⟩ : ∃ v, v = spillV b r (q * t2) := ⟨_, rfl⟩
    rw [← hv] at e2 vv
    have HW := Lib.hid hw
    have HA := Lib.hid ha
    have HS := Lib.hid hs
    have HB := Lib.hid hb
    have HU := Lib.hid hu
    have HV := Lib.hid hv
    have E1 := Lib.hid e1
    have E2 := Lib.hid e2
    have HQ := Lib.hid hq'
    clear ha hs hb hu hv e1 e2 hq' hsum k3 g1 g2 uc
    go_wp2_with fail
    refine (bgrow_any _ _ _ _ _ hl hr hq ht).mono ?_
    rintro e W1 ⟨rfl, hW1⟩
    rw [← HA.out, ← HS.out]
    have hB1 : Below w.heap.size w W1 := below_of (by go_grown) hW1
    replace b0 := b0.step hW1
    have c00 := b0.cell 0
    have c01 := b0.cell 1
    have z0 := b0.lt
    simp only [List.getElem?_toArray, List.getElem?_cons_zero, List.getElem?_cons_succ] at c00 c01
    clear hW1
    go_wp2_with fail
    refine (bgrow_any _ _ _ _ _ hl hr hq ht1).mono ?_
    rintro e W2 ⟨rfl, hW2⟩
    rw [← HB.out, ← HU.out]
    have hB2 : Below w.heap.size w W2 := below_of (hB1.alloc hB1.size _) hW2
    replace b0 := (b0.alloc _).step hW2
    have b1 := (Blk.new W1 38 #[.int .u64 (hi s), .int .u64 (lo s)]).step hW2
    clear c00 c01 z0
    have c00 := b0.cell 0
    have c02 := b0.cell 2
    have z0 := b0.lt
    simp only [List.getElem?_toArray, List.getElem?_cons_zero, List.getElem?_cons_succ] at c00 c02
    clear hW2 hB1
    go_wp2_with fail
    refine (bgrow_any _ _ _ _ _ ub hr hq ht2).mono ?_
    rintro e W3 ⟨rfl, hW3⟩
    rw [E1.out, ← HV.out]
    have hB3 : Below w.heap.size w W3 := below_of (hB2.alloc hB2.size _) hW3
    replace b0 := ((b0.alloc _).step hW3).alloc (.cells #[.int .u64 (hi v), .int .u64 (lo v)] 38)
    replace b1 := ((b1.alloc _).step hW3).alloc (.cells #[.int .u64 (hi v), .int .u64 (lo v)] 38)
    have b2 := ((Blk.new W2 38 #[.int .u64 (hi u), .int .u64 (lo u)]).step hW3).alloc (.cells #[.int .u64 (hi v), .int .u64 (lo v)] 38)
    have b3 := Blk.new W3 38 #[.int .u64 (hi v), .int .u64 (lo v)]
    clear c00 c02 z0 hW3 hB2
    have c20 := b2.cell 0
    have c21 := b2.cell 1
    have z2 := b2.lt
    simp only [List.getElem?_toArray, List.getElem?_cons_zero, List.getElem?_cons_succ] at c20 c21
    go_wp2_with fail
    refine (add_any _ _ _ _ _ (U_hi _) (U_lo _) (U_hi _) (U_lo _)).mono ?_
    rintro e W4 ⟨rfl, hW4⟩
    rw [wd_hi_lo vu, wd_hi_lo vv, E2.out, show ov s = false from ov_false vs]
    have hB4 : Below w.heap.size w W4 := below_of (hB3.alloc hB3.size _) hW4
    replace b0 := b0.step hW4
    replace b1 := b1.step hW4
    clear c20 c21 z2 b2 b3 hW4 hB3
    have c00 := b0.cell 0
    have z0 := b0.lt
    have c10 := b1.cell 0
    have c11 := b1.cell 1
    have z1 := b1.lt
    simp only [List.getElem?_toArray, List.getElem?_cons_zero, List.getElem?_cons_succ] at c00 c10 c11
    by_cases hm : l ≤ r
    · have k2' := k2 hm
      clear k2
      go_wp2_with fail
      refine (of_any _ _).mono ?_
      rintro e W5 ⟨rfl, hW5⟩
      have hB5 : Below w.heap.size w W5 := below_of (hB4.alloc hB4.size _) hW5
      replace b0 := (b0.alloc _).step hW5
      replace b1 := (b1.alloc _).step hW5
      clear c00 z0 c10 c11 z1 hW5 hB4
      go_wp2_with fail
      refine (of_any _ _).mono ?_
      rintro e W6 ⟨rfl, hW6⟩
      have hB6 := below_of hB5 hW6
      replace b0 := b0.step hW6
      replace b1 := b1.step hW6
      clear hW6 hB5
      go_wp2_with fail
      refine (sub_any _ _ _ _ _ ua hl).mono ?_
      rintro e W7 ⟨rfl, hW7⟩
      rw [wd_zero, wd_zero]
      have hB7 := below_of hB6 hW7
      replace b0 := (b0.step hW7).alloc (.cells #[.int .u64 (hi (a - l)), .int .u64 (lo (a - l))] 38)
      replace b1 := (b1.step hW7).alloc (.cells #[.int .u64 (hi (a - l)), .int .u64 (lo (a - l))] 38)
      clear hW7 hB6
      have c10 := b1.cell 0
      have c11 := b1.cell 1
      have z1 := b1.lt
      simp only [List.getElem?_toArray, List.getElem?_cons_zero, List.getElem?_cons_succ] at c10 c11
      have vg : V (a - l) := by unfold U at *; unfold V; omega
      go_wp2_with fail
      refine (add_any _ _ _ _ _ (U_hi _) (U_lo _) (U_hi _) (U_lo _)).mono ?_
      rintro e W8 ⟨rfl, hW8⟩
      rw [wd_hi_lo vg, wd_hi_lo vs, ← HQ.out, show ov (q * (t1 + t2)) = false from ov_false hg]
      have hB8 : Below w.heap.size w W8 := below_of (hB7.alloc hB7.size _) hW8
      replace b0 := (b0.step hW8).alloc (.cells #[.int .u64 (hi (q * (t1 + t2))), .int .u64 (lo (q * (t1 + t2)))] 38)
      have b2 := Blk.new W8 38 #[.int .u64 (hi (q * (t1 + t2))), .int .u64 (lo (q * (t1 + t2)))]
      clear c10 c11 z1 b1 hW8 hB7
      have c00 := b0.cell 0
      have z0 := b0.lt
      have c20 := b2.cell 0
      have c21 := b2.cell 1
      have z2 := b2.lt
      simp only [List.getElem?_toArray, List.getElem?_cons_zero, List.getElem?_cons_succ] at c00 c20 c21
      go_upto_region 12 with (fail)
      have hB9 : Below w.heap.size w (W8.alloc (.cells #[.int .u64 (hi (q * (t1 + t2))), .int .u64 (lo (q * (t1 + t2)))] 38)) := hB8.alloc hB8.size _
      generalize W8.alloc (.cells #[.int .u64 (hi (q * (t1 + t2))), .int .u64 (lo (q * (t1 + t2)))] 38) = W9 at *
      clear b0 b2 hB8
      refine wp_region_calls 13 (by kernel_rfl) (by kernel_rfl) ?_
      simp only [List.take_succ_cons, List.take_zero, List.drop_succ_cons, List.drop_zero]
      refine walk1_open fun K hK => ?_
      apply walk1_call (by rfl)
      · intro W hsz; go_simp; first | exact ⟨rfl, rfl⟩ | rfl
      · intro W hlW; exact live24_any _
      simp only [Act.put, List.setIfInBounds_toArray, List.set_cons_zero, List.set_cons_succ]
      repeat
        apply walk1_value (by rfl)
        · intro W hcl hsz; go_simp; rfl
        simp only [Act.put, List.setIfInBounds_toArray, List.set_cons_zero, List.set_cons_succ]
      apply walk1_call (by rfl)
      · intro W hsz; go_simp; first | exact ⟨rfl, rfl⟩ | rfl
      · intro W hlW; exact mul_any _ _ _ hq ht
      simp only [Act.put, List.setIfInBounds_toArray, List.set_cons_zero, List.set_cons_succ]
      repeat
        apply walk1_value (by rfl)
        · intro W hcl hsz; go_simp; rfl
        simp only [Act.put, List.setIfInBounds_toArray, List.set_cons_zero, List.set_cons_succ]
      refine walk1_nil (hK _ ?_); clear hK K
      intro W10 hW10
      have hB10 := below_of hB9 hW10
      clear hW10 hB9 c00 c20 c21 z0 z2
      go_wp2
      go_returns
      exact ⟨rfl, by go_grown⟩
    · clear k2
      go_wp2_with fail
      refine (of_any _ _).mono ?_
      rintro e W5 ⟨rfl, hW5⟩
      have hB5 : Below w.heap.size w W5 := below_of (hB4.alloc hB4.size _) hW5
      replace b0 := (b0.alloc _).step hW5
      replace b1 := (b1.alloc _).step hW5
      clear c00 z0 c10 c11 z1 hW5 hB4
      go_wp2_with fail
      refine (of_any _ _).mono ?_
      rintro e W6 ⟨rfl, hW6⟩
      have hB6 := below_of hB5 hW6
      replace b0 := b0.step hW6
      replace b1 := b1.step hW6
      clear hW6 hB5
      go_wp2_with fail
      refine (sub_any _ _ _ _ _ ua hl).mono ?_
      rintro e W7 ⟨rfl, hW7⟩
      rw [wd_zero, wd_zero]
      have hB7 := below_of hB6 hW7
      replace b0 := (b0.step hW7).alloc (.cells #[.int .u64 (hi (a - l)), .int .u64 (lo (a - l))] 38)
      replace b1 := (b1.step hW7).alloc (.cells #[.int .u64 (hi (a - l)), .int .u64 (lo (a - l))] 38)
      clear hW7 hB6
      have c10 := b1.cell 0
      have c11 := b1.cell 1
      have z1 := b1.lt
      simp only [List.getElem?_toArray, List.getElem?_cons_zero, List.getElem?_cons_succ] at c10 c11
      have vg : V (a - l) := by unfold U at *; unfold V; omega
      go_wp2_with fail
      refine (add_any _ _ _ _ _ (U_hi _) (U_lo _) (U_hi _) (U_lo _)).mono ?_
      rintro e W8 ⟨rfl, hW8⟩
      rw [wd_hi_lo vg, wd_hi_lo vs, ← HQ.out, show ov (q * (t1 + t2)) = false from ov_false hg]
      have hB8 : Below w.heap.size w W8 := below_of (hB7.alloc hB7.size _) hW8
      replace b0 := (b0.step hW8).alloc (.cells #[.int .u64 (hi (q * (t1 + t2))), .int .u64 (lo (q * (t1 + t2)))] 38)
      have b2 := Blk.new W8 38 #[.int .u64 (hi (q * (t1 + t2))), .int .u64 (lo (q * (t1 + t2)))]
      clear c10 c11 z1 b1 hW8 hB7
      have c00 := b0.cell 0
      have z0 := b0.lt
      have c20 := b2.cell 0
      have c21 := b2.cell 1
      have z2 := b2.lt
      simp only [List.getElem?_toArray, List.getElem?_cons_zero, List.getElem?_cons_succ] at c00 c20 c21
      go_upto_region 12 with (fail)
      have hB9 : Below w.heap.size w (W8.alloc (.cells #[.int .u64 (hi (q * (t1 + t2))), .int .u64 (lo (q * (t1 + t2)))] 38)) := hB8.alloc hB8.size _
      generalize W8.alloc (.cells #[.int .u64 (hi (q * (t1 + t2))), .int .u64 (lo (q * (t1 + t2)))] 38) = W9 at *
      clear b0 b2 hB8
      refine wp_region_calls 13 (by kernel_rfl) (by kernel_rfl) ?_
      simp only [List.take_succ_cons, List.take_zero, List.drop_succ_cons, List.drop_zero]
      refine walk1_open fun K hK => ?_
      apply walk1_call (by rfl)
      · intro W hsz; go_simp; first | exact ⟨rfl, rfl⟩ | rfl
      · intro W hlW; exact live24_any _
      simp only [Act.put, List.setIfInBounds_toArray, List.set_cons_zero, List.set_cons_succ]
      repeat
        apply walk1_value (by rfl)
        · intro W hcl hsz; go_simp; rfl
        simp only [Act.put, List.setIfInBounds_toArray, List.set_cons_zero, List.set_cons_succ]
      apply walk1_call (by rfl)
      · intro W hsz; go_simp; first | exact ⟨rfl, rfl⟩ | rfl
      · intro W hlW; exact mul_any _ _ _ hq ht
      simp only [Act.put, List.setIfInBounds_toArray, List.set_cons_zero, List.set_cons_succ]
      repeat
        apply walk1_value (by rfl)
        · intro W hcl hsz; go_simp; rfl
        simp only [Act.put, List.setIfInBounds_toArray, List.set_cons_zero, List.set_cons_succ]
      refine walk1_nil (hK _ ?_); clear hK K
      intro W10 hW10
      have hB10 := below_of hB9 hW10
      clear hW10 hB9 c00 c20 c21 z0 z2
      go_wp2
      go_returns
      exact ⟨rfl, by go_grown⟩
  · have hw : IntKind.u64.wrap (t1 + t2) = t1 + t2 - 18446744073709551616 := by rw [IntKind.wrap_u64]; unfold U at *; omega
    have hlt : t1 + t2 - 18446744073709551616 < t1 := by unfold U at *; omega
    go_wp2_with fail
    refine (live24_any _).mono ?_
    rintro e W1 ⟨rfl, hW1⟩
    have hB1 : Below w.heap.size w W1 := below_of (by go_grown) hW1
    clear hW1 b0
    go_wp2
    go_returns
    exact ⟨rfl, by go_grown⟩

set_option maxRecDepth 100000 in
set_option maxHeartbeats 1000000 in
theorem splits_lifted (os : Os) (started : os.Started) (H : Type) (enc : TypeId × Value → H) :
    ReturnsInHanded {} Try.checked os 8 .any (Rows.bucketSplitsSpec.pre6 enc Try.prog Try.f8 Rows.bucketSplitsRow.domain false) (Rows.bucketSplitsSpec.post enc Try.prog Try.f8 false true false false) := by
  refine returnsInHanded_of_change (C := Try.checked) Try.own started (by kernel_rfl) Try.func8
    (ChangeSpec.witness6 (enc := enc) (C := Try.checked) false ⟨#[], #[.int .u64 0, .int .u64 0, .agg #[.int .u64 0, .int .u64 0, .int .u64 0]], []⟩ 8 (by kernel_rfl) (by kernel_rfl) (by kernel_rfl) (by kernel_rfl)) ?_
  intro W base args ds gs before hval0 hW hcnd _
  have hval : ∀ (j : Nat) t v, Try.f8.params[j]? = some t → args[j]? = some v → Value.okWide Try.prog W .any base t v := hval0
  have hW' := hW
  obtain ⟨p, q, hA0, hV, rfl, hfz, hnd⟩ := hW
  have hA : DataW.TrodAll enc Try.prog W 0 (fun _ => true) true Try.f8.params.toList args.toList ds p := hA0
  have hAk := hA
  rw [Try.params8] at hA hval
  obtain ⟨v0, v1, v2, d0, d1, d2, p0, p1, p2, rfl, rfl, rfl, h0, h1, h2⟩ := trodAll_three hA
  obtain ⟨rfl, rfl⟩ := trodVars_none hV
  obtain ⟨a, rfl, rfl, rfl, wfa⟩ := open_int Try.underlying22 (hval 0 22 v0 rfl rfl) h0
  have wa : U a := U_wf wfa
  obtain ⟨b, rfl, rfl, rfl, wfb⟩ := open_int Try.underlying22 (hval 1 22 v1 rfl rfl) h1
  have wb : U b := U_wf wfb
  obtain ⟨zs2, rfl, hz2, hwz2⟩ := open_ints_by_value Try.underlying50 Try.underlying22 (by kernel_rfl) (by kernel_rfl) (hval 2 50 v2 rfl rfl) h2
  obtain ⟨x, y, z, rfl⟩ := three_of hz2
  have wx : U x := U_wf (hwz2 x (by simp))
  have wy : U y := U_wf (hwz2 y (by simp))
  have wz : U z := U_wf (hwz2 z (by simp))
  clear hA0 hval0
  simp only [List.append_nil] at hW' hAk
  refine (splits_any a b x y z W wa wb wx wy wz).mono fun e W' ⟨he, hb⟩ => ?_
  subst he
  exact ⟨_, rfl, law_post Try.laidOut (by kernel_rfl) rfl Try.underlying4 rfl hW' hAk rfl hb⟩

/-- The law BucketSplits answers true, whatever the input. Condition: none. -/
theorem bucketSplits_holds : Rows.BucketSplitsSaid :=
  OpenClaim.holds_of_wide 8 Try.f8 rfl rfl rfl rfl rfl rfl rfl ⟨rfl, rfl, rfl, rfl, rfl⟩ rfl rfl rfl rfl rfl (by kernel_rfl) Try.func8 (by kernel_rfl)
    (of_decide_eq_true (by kernel_rfl)) (by unfold Func.isWrapper; rw [if_neg (of_decide_eq_false (by kernel_rfl))]; exact ⟨rfl, rfl⟩)
    (fun os started H enc _ => splits_lifted os started H enc)

end Go.Proofs.Ytgidglbkmklajaa
