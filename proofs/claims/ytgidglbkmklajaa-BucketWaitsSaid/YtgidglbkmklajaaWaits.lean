/- The law BucketWaits: it answers true, whatever the input. Condition: none. -/
import Derived.Test.YtgidglbkmklajaaRows
import Derived.Test.YtgidglbkmklajaaLive24
import Derived.Test.YtgidglbkmklajaaLaw
namespace Go.Proofs.Ytgidglbkmklajaa
open Go.ChangeShapes Go.WideShapes Go.ChangeAt Go.RowKit

/-! ### The plain law -/
theorem grow_min {l r g : Int} (hlr : l ≤ r) : growV l r g = l + min g (r - l) := by
  unfold growV putV; rw [show min l r = l from Int.min_eq_left hlr]
theorem can_no {a s : Int} (h : a < needV s) : canV a s = false := by
  unfold canV
  have : decide (needV s ≤ a) = false := by simpa using h
  rw [this, Bool.and_false]
theorem can_yes {a s : Int} (hk : okV s = true) (h : needV s ≤ a) : canV a s = true := by
  unfold canV; rw [hk]; simp [h]
theorem will_cases {l r q s : Int} (hk : okV s = true) : willV l r q s = false ∧ l < needV s ∧ (r < needV s ∨ q = 0) ∨ willV l r q s = true ∧ (needV s ≤ l ∨ l < needV s ∧ needV s ≤ r ∧ q ≠ 0) := by
  by_cases h1 : needV s ≤ l
  · exact .inr ⟨(willV_now hk h1).2, .inl h1⟩
  · by_cases h2 : needV s ≤ r
    · by_cases h3 : q = 0
      · exact .inl ⟨(willV_no (.inr ⟨by omega, .inr h3⟩)).2, by omega, .inr h3⟩
      · exact .inr ⟨(willV_then hk h2 h3 (by omega)).2, .inr ⟨by omega, h2, h3⟩⟩
    · exact .inl ⟨(willV_no (.inr ⟨by omega, .inl (by omega)⟩)).2, by omega, .inl (by omega)⟩
theorem waits_no {l r q s t : Int} (hlr : l ≤ r) (hk : okV s = true) (hw : willV l r q s = false) : canV (growV l r (q * t)) s = false ∧ waitV l r q s = 0 := by
  refine ⟨can_no ?_, waitV_none hw⟩
  rcases will_cases (l := l) (r := r) (q := q) hk with ⟨_, h1, h2⟩ | ⟨h, _⟩
  · rw [grow_min hlr, Int.min_def]
    rcases h2 with h2 | rfl
    · split <;> omega
    · rw [Int.zero_mul]; split <;> omega
  · rw [hw] at h; cases h
theorem waits_yes {l r q s : Int} (hlr : l ≤ r) (hk : okV s = true) (hw : willV l r q s = true) (hq : 0 ≤ q) : canV (growV l r (q * waitV l r q s)) s = true := by
  refine can_yes hk ?_
  rcases will_cases (l := l) (r := r) (q := q) hk with ⟨h, _⟩ | ⟨_, h | ⟨h1, h2, h3⟩⟩
  · rw [hw] at h; cases h
  · rw [waitV_zero h, Int.mul_zero, grow_min hlr, Int.min_def]
    split <;> omega
  · rw [waitV_some hw h1, grow_min hlr, Int.min_def, Int.mul_add]
    have e := Int.mul_ediv_add_emod (needV s - l - 1) q
    have b1 := Int.emod_lt_of_pos (needV s - l - 1) (show 0 < q by omega)
    split <;> omega
theorem waits_early {l r q s : Int} (hlr : l ≤ r) (hk : okV s = true) (hw : willV l r q s = true) (h0 : waitV l r q s ≠ 0) : canV (growV l r (q * (waitV l r q s - 1))) s = false := by
  refine can_no ?_
  rcases will_cases (l := l) (r := r) (q := q) hk with ⟨h, _⟩ | ⟨_, h | ⟨h1, h2, h3⟩⟩
  · rw [hw] at h; cases h
  · exact absurd (waitV_zero h) h0
  · rw [waitV_some hw h1, grow_min hlr, Int.min_def, Int.add_sub_cancel]
    have e := Int.mul_ediv_add_emod (needV s - l - 1) q
    have b0 := Int.emod_nonneg (needV s - l - 1) h3
    split <;> omega
theorem U_waits {l r q s : Int} (hl : U l) (hq : U q) : U (waitV l r q s) := by
  unfold waitV
  split
  · rename_i h
    simp only [Bool.and_eq_true, decide_eq_true_eq] at h
    have hn := U_need s
    have hd : U (needV s - l - 1) := by unfold U at *; omega
    have := Int.ediv_le_self q hd.1
    have := Int.ediv_nonneg hd.1 hq.1
    unfold U at *; omega
  · exact U_zero


set_option maxRecDepth 100000 in
set_option maxHeartbeats 1000000 in
theorem waits_any (l r q y t : Int) (w : World) (hl : U l) (hr : U r) (hq : U q) (hy : U y) (ht : U t) : Calls Try.prog 9 #[.int .u64 l, .agg #[.int .u64 r, .int .u64 q], .agg #[.int .u64 y, .int .u64 t]] w fun e w' => e = .returned (.bool true) ∧ Below w.heap.size w w' := by
  obtain ⟨s, hs'⟩ : ∃ s, s = y % 5000000000 := ⟨_, rfl⟩
  have hsb : 0 ≤ s ∧ s < 5000000000 := by omega
  have hs : I64 s := by unfold I64; omega
  have hk : okV s = true := (needV_lo hsb.1 (by omega)).1
  have e1 : y.tmod 5000000000 = s := by
    unfold U at hy
    rw [Int.tmod_eq_emod_of_nonneg hy.1, hs']
  have e2 : wrap64 s = s := IntWalk.wrap64_in s (by omega)
  have E1 := Lib.hid e1
  have E2 := Lib.hid e2
  clear hs' e1 e2
  go_enter Try.func9, Try.ntmps9
  have b1 := Blk.new w 36 #[.int .u64 r, .int .u64 q]
  replace b1 := b1.alloc (.cells #[.int .u64 y, .int .u64 t] 36)
  have b0 := Blk.new (w.alloc (.cells #[.int .u64 r, .int .u64 q] 36)) 36 #[.int .u64 y, .int .u64 t]
  rw [World.size_alloc] at b0
  go_wp2_with fail
  rw [E1.out, E2.out]
  clear E1 E2
  refine wp_region_calls 6 (by kernel_rfl) (by kernel_rfl) ?_
  simp only [List.take_succ_cons, List.take_zero, List.drop_succ_cons, List.drop_zero]
  refine walk1_open fun K hK => ?_
  repeat
    apply walk1_value (by rfl)
    · intro W hcl hsz; go_simp; rfl
    simp only [Act.put, List.setIfInBounds_toArray, List.set_cons_zero, List.set_cons_succ]
  refine walk1_nil (hK _ ?_); clear hK K
  intro W1 hW1
  have hB1 : Below w.heap.size w W1 := below_of (by go_grown) hW1
  replace b0 := b0.step hW1
  clear hW1 b1
  by_cases hm : r < l
  · skip
    go_wp2_with fail
    refine (bwait_any _ _ _ _ _ hr hq hs).mono ?_
    rintro e W2 ⟨rfl, hW2⟩
    have hB2 : Below w.heap.size w W2 := below_of hB1 hW2
    replace b0 := b0.step hW2
    clear hW2 hB1
    rcases Bool.eq_false_or_eq_true (willV r r q s) with hw | hw
    · have y1 := waits_yes (Int.le_refl _) hk hw hq.1
      have y2 := waits_early (Int.le_refl _) hk hw
      have uw := U_waits (r := r) (s := s) hr hq
      rw [hw]
      obtain ⟨k, hk'⟩ : ∃ k, k = waitV r r q s := ⟨_, rfl⟩
      rw [← hk'] at y1 y2 uw ⊢
      clear hw hk' hk b0
      have Y1 := Lib.hid y1
      have Y2 := Lib.hid y2
      clear y1 y2
      go_wp2_with fail
      refine (bgrow_any _ _ _ _ _ hr hr hq uw).mono ?_
      rintro e W3 ⟨rfl, hW3⟩
      have hB3 := below_of hB2 hW3
      clear hW3 hB2
      go_wp2_with fail
      refine (btake_any _ _ _ (put_bounds hr hr (V_mul hq uw)).2.2.2 hs).mono ?_
      rintro e W4 ⟨rfl, hW4⟩
      have hB4 : Below w.heap.size w W4 := below_of (hB3.alloc hB3.size _) hW4
      clear hW4 hB3
      rw [Y1.out]
      by_cases hz : k = 0
      · subst hz
        go_wp2_with fail
        refine (live24_any _).mono ?_
        rintro e W5 ⟨rfl, hW5⟩
        have hB5 := below_of hB4 hW5
        clear hW5 hB4
        go_wp2
        go_returns
        exact ⟨rfl, by go_grown⟩
      · have hz' : (k == 0) = false := by simpa using hz
        have Y3 := Lib.hid (Y2.out hz)
        have u1 : U (k - 1) := by unfold U at *; omega
        have w1 := wrap_in u1
        clear hz Y2 Y1
        go_wp2_with fail
        refine (bgrow_any _ _ _ _ _ hr hr hq u1).mono ?_
        rintro e W5 ⟨rfl, hW5⟩
        have hB5 := below_of hB4 hW5
        clear hW5 hB4
        go_wp2_with fail
        refine (btake_any _ _ _ (put_bounds hr hr (V_mul hq u1)).2.2.2 hs).mono ?_
        rintro e W6 ⟨rfl, hW6⟩
        have hB6 : Below w.heap.size w W6 := below_of (hB5.alloc hB5.size _) hW6
        clear hW6 hB5
        rw [Y3.out]
        go_wp2_with fail
        refine (live24_any _).mono ?_
        rintro e W7 ⟨rfl, hW7⟩
        have hB7 := below_of hB6 hW7
        clear hW7 hB6
        go_wp2
        go_returns
        exact ⟨rfl, by go_grown⟩
    · obtain ⟨y1, y2⟩ := waits_no (t := t) (Int.le_refl _) hk hw
      rw [hw, y2]
      have Y1 := Lib.hid y1
      clear y1 y2 hw hk
      have c01 := b0.cell 1
      have z0 := b0.lt
      simp only [List.getElem?_toArray, List.getElem?_cons_zero, List.getElem?_cons_succ] at c01
      go_wp2_with fail
      refine (bgrow_any _ _ _ _ _ hr hr hq ht).mono ?_
      rintro e W3 ⟨rfl, hW3⟩
      have hB3 := below_of hB2 hW3
      clear hW3 hB2
      go_wp2_with fail
      refine (btake_any _ _ _ (put_bounds hr hr (V_mul hq ht)).2.2.2 hs).mono ?_
      rintro e W4 ⟨rfl, hW4⟩
      have hB4 : Below w.heap.size w W4 := below_of (hB3.alloc hB3.size _) hW4
      clear hW4 hB3
      rw [Y1.out]
      clear c01 z0 b0
      go_wp2_with fail
      refine (live24_any _).mono ?_
      rintro e W7 ⟨rfl, hW7⟩
      have hB7 := below_of hB4 hW7
      clear hW7 hB4
      go_wp2
      go_returns
      exact ⟨rfl, by go_grown⟩
  · have hm' : l ≤ r := by omega
    clear hm
    go_wp2_with fail
    refine (bwait_any _ _ _ _ _ hl hq hs).mono ?_
    rintro e W2 ⟨rfl, hW2⟩
    have hB2 : Below w.heap.size w W2 := below_of hB1 hW2
    replace b0 := b0.step hW2
    clear hW2 hB1
    rcases Bool.eq_false_or_eq_true (willV l r q s) with hw | hw
    · have y1 := waits_yes hm' hk hw hq.1
      have y2 := waits_early hm' hk hw
      have uw := U_waits (r := r) (s := s) hl hq
      rw [hw]
      obtain ⟨k, hk'⟩ : ∃ k, k = waitV l r q s := ⟨_, rfl⟩
      rw [← hk'] at y1 y2 uw ⊢
      clear hw hk' hk b0
      have Y1 := Lib.hid y1
      have Y2 := Lib.hid y2
      clear y1 y2
      go_wp2_with fail
      refine (bgrow_any _ _ _ _ _ hl hr hq uw).mono ?_
      rintro e W3 ⟨rfl, hW3⟩
      have hB3 := below_of hB2 hW3
      clear hW3 hB2
      go_wp2_with fail
      refine (btake_any _ _ _ (put_bounds hl hr (V_mul hq uw)).2.2.2 hs).mono ?_
      rintro e W4 ⟨rfl, hW4⟩
      have hB4 : Below w.heap.size w W4 := below_of (hB3.alloc hB3.size _) hW4
      clear hW4 hB3
      rw [Y1.out]
      by_cases hz : k = 0
      · subst hz
        go_wp2_with fail
        refine (live24_any _).mono ?_
        rintro e W5 ⟨rfl, hW5⟩
        have hB5 := below_of hB4 hW5
        clear hW5 hB4
        go_wp2
        go_returns
        exact ⟨rfl, by go_grown⟩
      · have hz' : (k == 0) = false := by simpa using hz
        have Y3 := Lib.hid (Y2.out hz)
        have u1 : U (k - 1) := by unfold U at *; omega
        have w1 := wrap_in u1
        clear hz Y2 Y1
        go_wp2_with fail
        refine (bgrow_any _ _ _ _ _ hl hr hq u1).mono ?_
        rintro e W5 ⟨rfl, hW5⟩
        have hB5 := below_of hB4 hW5
        clear hW5 hB4
        go_wp2_with fail
        refine (btake_any _ _ _ (put_bounds hl hr (V_mul hq u1)).2.2.2 hs).mono ?_
        rintro e W6 ⟨rfl, hW6⟩
        have hB6 : Below w.heap.size w W6 := below_of (hB5.alloc hB5.size _) hW6
        clear hW6 hB5
        rw [Y3.out]
        go_wp2_with fail
        refine (live24_any _).mono ?_
        rintro e W7 ⟨rfl, hW7⟩
        have hB7 := below_of hB6 hW7
        clear hW7 hB6
        go_wp2
        go_returns
        exact ⟨rfl, by go_grown⟩
    · obtain ⟨y1, y2⟩ := waits_no (t := t) hm' hk hw
      rw [hw, y2]
      have Y1 := Lib.hid y1
      clear y1 y2 hw hk
      have c01 := b0.cell 1
      have z0 := b0.lt
      simp only [List.getElem?_toArray, List.getElem?_cons_zero, List.getElem?_cons_succ] at c01
      go_wp2_with fail
      refine (bgrow_any _ _ _ _ _ hl hr hq ht).mono ?_
      rintro e W3 ⟨rfl, hW3⟩
      have hB3 := below_of hB2 hW3
      clear hW3 hB2
      go_wp2_with fail
      refine (btake_any _ _ _ (put_bounds hl hr (V_mul hq ht)).2.2.2 hs).mono ?_
      rintro e W4 ⟨rfl, hW4⟩
      have hB4 : Below w.heap.size w W4 := below_of (hB3.alloc hB3.size _) hW4
      clear hW4 hB3
      rw [Y1.out]
      clear c01 z0 b0
      go_wp2_with fail
      refine (live24_any _).mono ?_
      rintro e W7 ⟨rfl, hW7⟩
      have hB7 := below_of hB4 hW7
      clear hW7 hB4
      go_wp2
      go_returns
      exact ⟨rfl, by go_grown⟩

set_option maxRecDepth 100000 in
set_option maxHeartbeats 1000000 in
theorem waits_lifted (os : Os) (started : os.Started) (H : Type) (enc : TypeId × Value → H) :
    ReturnsInHanded {} Try.checked os 9 .any (Rows.bucketWaitsSpec.pre6 enc Try.prog Try.f9 Rows.bucketWaitsRow.domain false) (Rows.bucketWaitsSpec.post enc Try.prog Try.f9 false true false false) := by
  refine returnsInHanded_of_change (C := Try.checked) Try.own started (by kernel_rfl) Try.func9
    (ChangeSpec.witness6 (enc := enc) (C := Try.checked) false ⟨#[], #[.int .u64 0, .agg #[.int .u64 0, .int .u64 0], .agg #[.int .u64 0, .int .u64 0]], []⟩ 8 (by kernel_rfl) (by kernel_rfl) (by kernel_rfl) (by kernel_rfl)) ?_
  intro W base args ds gs before hval0 hW hcnd _
  have hval : ∀ (j : Nat) t v, Try.f9.params[j]? = some t → args[j]? = some v → Value.okWide Try.prog W .any base t v := hval0
  have hW' := hW
  obtain ⟨p, q, hA0, hV, rfl, hfz, hnd⟩ := hW
  have hA : DataW.TrodAll enc Try.prog W 0 (fun _ => true) true Try.f9.params.toList args.toList ds p := hA0
  have hAk := hA
  rw [Try.params9] at hA hval
  obtain ⟨v0, v1, v2, d0, d1, d2, p0, p1, p2, rfl, rfl, rfl, h0, h1, h2⟩ := trodAll_three hA
  obtain ⟨rfl, rfl⟩ := trodVars_none hV
  obtain ⟨a, rfl, rfl, rfl, wfa⟩ := open_int Try.underlying22 (hval 0 22 v0 rfl rfl) h0
  have wa : U a := U_wf wfa
  obtain ⟨zs1, rfl, hz1, hwz1⟩ := open_ints_by_value Try.underlying36 Try.underlying22 (by kernel_rfl) (by kernel_rfl) (hval 1 36 v1 rfl rfl) h1
  obtain ⟨x, y, rfl⟩ := two_of hz1
  have wx : U x := U_wf (hwz1 x (by simp))
  have wy : U y := U_wf (hwz1 y (by simp))
  obtain ⟨zs2, rfl, hz2, hwz2⟩ := open_ints_by_value Try.underlying36 Try.underlying22 (by kernel_rfl) (by kernel_rfl) (hval 2 36 v2 rfl rfl) h2
  obtain ⟨z, u, rfl⟩ := two_of hz2
  have wz : U z := U_wf (hwz2 z (by simp))
  have wu : U u := U_wf (hwz2 u (by simp))
  clear hA0 hval0
  simp only [List.append_nil] at hW' hAk
  refine (waits_any a x y z u W wa wx wy wz wu).mono fun e W' ⟨he, hb⟩ => ?_
  subst he
  exact ⟨_, rfl, law_post Try.laidOut (by kernel_rfl) rfl Try.underlying4 rfl hW' hAk rfl hb⟩

/-- The law BucketWaits answers true, whatever the input. Condition: none. -/
theorem bucketWaits_holds : Rows.BucketWaitsSaid :=
  OpenClaim.holds_of_wide 9 Try.f9 rfl rfl rfl rfl rfl rfl rfl ⟨rfl, rfl, rfl, rfl, rfl⟩ rfl rfl rfl rfl rfl (by kernel_rfl) Try.func9 (by kernel_rfl)
    (of_decide_eq_true (by kernel_rfl)) (by unfold Func.isWrapper; rw [if_neg (of_decide_eq_false (by kernel_rfl))]; exact ⟨rfl, rfl⟩)
    (fun os started H enc _ => waits_lifted os started H enc)

end Go.Proofs.Ytgidglbkmklajaa
