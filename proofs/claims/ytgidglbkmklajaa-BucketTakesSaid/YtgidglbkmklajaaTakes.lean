/- The law BucketTakes: it answers true, whatever the input. Condition: none. -/
import Derived.Test.YtgidglbkmklajaaRows
import Derived.Test.YtgidglbkmklajaaLive24
import Derived.Test.YtgidglbkmklajaaLaw
namespace Go.Proofs.Ytgidglbkmklajaa
open Go.ChangeShapes Go.WideShapes Go.ChangeAt Go.RowKit

set_option maxRecDepth 100000 in
set_option maxHeartbeats 4000000 in
theorem takes_any (l x y s : Int) (w : World) (hl : U l) (hy : U y) (hs : I64 s) : Calls Try.prog 7 #[.int .u64 l, .agg #[.int .u64 x, .int .u64 y], .int .i64 s] w fun e w' => e = .returned (.bool true) ∧ Below w.heap.size w w' := by
  go_enter Try.func7, Try.ntmps7
  have b0 := Blk.new w 36 #[.int .u64 x, .int .u64 y]
  go_wp2_with fail
  refine (bneed_any _ _ hs).mono ?_
  rintro e W1 ⟨rfl, hW1⟩
  have hB1 : Below w.heap.size w W1 := below_of (by go_grown) hW1
  replace b0 := b0.step hW1
  clear hW1
  go_wp2_with fail
  refine (rneed_any _ _ hs).mono ?_
  rintro e W2 ⟨rfl, hW2⟩
  have hB2 := below_of hB1 hW2
  replace b0 := b0.step hW2
  clear hW2 hB1
  go_wp2_with fail
  refine (btake_any _ _ _ hl hs).mono ?_
  rintro e W3 ⟨rfl, hW3⟩
  have hB3 := below_of hB2 hW3
  replace b0 := b0.step hW3
  clear hW3 hB2
  go_wp2_with fail
  refine (rtake_any _ _ _ hl hs).mono ?_
  rintro e W4 ⟨rfl, hW4⟩
  have hB4 := below_of hB3 hW4
  replace b0 := b0.step hW4
  have c00 := b0.cell 0
  have c01 := b0.cell 1
  have z0 := b0.lt
  simp only [List.getElem?_toArray, List.getElem?_cons_zero, List.getElem?_cons_succ] at c00 c01
  clear hW4 hB3
  go_wp2_with fail
  refine (bwait_any _ _ _ _ _ hl hy hs).mono ?_
  rintro e W5 ⟨rfl, hW5⟩
  have hB5 := below_of hB4 hW5
  clear c00 c01 z0
  replace b0 := b0.step hW5
  have c00 := b0.cell 0
  have c01 := b0.cell 1
  have z0 := b0.lt
  simp only [List.getElem?_toArray, List.getElem?_cons_zero, List.getElem?_cons_succ] at c00 c01
  clear hW5 hB4
  go_wp2_with fail
  refine (rwait_any _ _ _ _ _ hl hy hs).mono ?_
  rintro e W6 ⟨rfl, hW6⟩
  have hB6 := below_of hB5 hW6
  clear c00 c01 z0 b0 hW6 hB5
  go_wp2_with fail
  refine (live24_any _).mono ?_
  rintro e W7 ⟨rfl, hW7⟩
  have hB7 := below_of hB6 hW7
  clear hW7 hB6
  go_wp2
  go_returns
  exact ⟨rfl, by go_grown⟩

set_option maxRecDepth 100000 in
set_option maxHeartbeats 1000000 in
theorem takes_lifted (os : Os) (started : os.Started) (H : Type) (enc : TypeId × Value → H) :
    ReturnsInHanded {} Try.checked os 7 .any (Rows.bucketTakesSpec.pre6 enc Try.prog Try.f7 Rows.bucketTakesRow.domain false) (Rows.bucketTakesSpec.post enc Try.prog Try.f7 false true false false) := by
  refine returnsInHanded_of_change (C := Try.checked) Try.own started (by kernel_rfl) Try.func7
    (ChangeSpec.witness6 (enc := enc) (C := Try.checked) false ⟨#[], #[.int .u64 0, .agg #[.int .u64 0, .int .u64 0], .int .i64 0], []⟩ 8 (by kernel_rfl) (by kernel_rfl) (by kernel_rfl) (by kernel_rfl)) ?_
  intro W base args ds gs before hval0 hW hcnd _
  have hval : ∀ (j : Nat) t v, Try.f7.params[j]? = some t → args[j]? = some v → Value.okWide Try.prog W .any base t v := hval0
  have hW' := hW
  obtain ⟨p, q, hA0, hV, rfl, hfz, hnd⟩ := hW
  have hA : DataW.TrodAll enc Try.prog W 0 (fun _ => true) true Try.f7.params.toList args.toList ds p := hA0
  have hAk := hA
  rw [Try.params7] at hA hval
  obtain ⟨v0, v1, v2, d0, d1, d2, p0, p1, p2, rfl, rfl, rfl, h0, h1, h2⟩ := trodAll_three hA
  obtain ⟨rfl, rfl⟩ := trodVars_none hV
  obtain ⟨a, rfl, rfl, rfl, wfa⟩ := open_int Try.underlying22 (hval 0 22 v0 rfl rfl) h0
  have wa : U a := U_wf wfa
  obtain ⟨zs1, rfl, hz1, hwz1⟩ := open_ints_by_value Try.underlying36 Try.underlying22 (by kernel_rfl) (by kernel_rfl) (hval 1 36 v1 rfl rfl) h1
  obtain ⟨x, y, rfl⟩ := two_of hz1
  have wx : U x := U_wf (hwz1 x (by simp))
  have wy : U y := U_wf (hwz1 y (by simp))
  obtain ⟨s, rfl, rfl, rfl, wfs⟩ := open_int Try.underlying3 (hval 2 3 v2 rfl rfl) h2
  have ws : I64 s := I64_wf wfs
  clear hA0 hval0
  simp only [List.append_nil] at hW' hAk
  refine (takes_any a x y s W wa wy ws).mono fun e W' ⟨he, hb⟩ => ?_
  subst he
  exact ⟨_, rfl, law_post Try.laidOut (by kernel_rfl) rfl Try.underlying4 rfl hW' hAk rfl hb⟩

/-- The law BucketTakes answers true, whatever the input. Condition: none. -/
theorem bucketTakes_holds : Rows.BucketTakesSaid :=
  OpenClaim.holds_of_wide 7 Try.f7 rfl rfl rfl rfl rfl rfl rfl ⟨rfl, rfl, rfl, rfl, rfl⟩ rfl rfl rfl rfl rfl (by kernel_rfl) Try.func7 (by kernel_rfl)
    (of_decide_eq_true (by kernel_rfl)) (by unfold Func.isWrapper; rw [if_neg (of_decide_eq_false (by kernel_rfl))]; exact ⟨rfl, rfl⟩)
    (fun os started H enc _ => takes_lifted os started H enc)

end Go.Proofs.Ytgidglbkmklajaa
