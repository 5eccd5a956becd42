/- The law BucketGrows: it answers true, whatever the input. Condition: none. -/
import Derived.Test.YtgidglbkmklajaaRows
import Derived.Test.YtgidglbkmklajaaLive24
import Derived.Test.YtgidglbkmklajaaLaw
namespace Go.Proofs.Ytgidglbkmklajaa
open Go.ChangeShapes Go.WideShapes Go.ChangeAt Go.RowKit

set_option maxRecDepth 100000 in
set_option maxHeartbeats 4000000 in
theorem grows_any (l r x y : Int) (w : World) (hl : U l) (hr : U r) (hx : U x) (hy : U y) : Calls Try.prog 6 #[.int .u64 l, .int .u64 r, .agg #[.int .u64 x, .int .u64 y]] w fun e w' => e = .returned (.bool true) ∧ Below w.heap.size w w' := by
  go_enter Try.func6, Try.ntmps6
  go_wp2_with fail
  refine (bgrow_any _ _ _ _ _ hl hr hx hy).mono ?_
  rintro e W1 ⟨rfl, hW1⟩
  obtain ⟨g, hg⟩ : ∃ g, g = growV l r (x * y) := ⟨_, rfl⟩
  obtain ⟨s, hs⟩ : ∃ s, s = spillV l r (x * y) := ⟨_, rfl⟩
  rw [← hg, ← hs]
  have HG := Lib.hid hg
  have HS := Lib.hid hs
  clear hg hs
  have hB1 : Below w.heap.size w W1 := below_of (by go_grown) hW1
  have b0 := ((Blk.new w 36 #[.int .u64 x, .int .u64 y]).step hW1)
  have c00 := b0.cell 0
  have c01 := b0.cell 1
  have z0 := b0.lt
  simp only [List.getElem?_toArray, List.getElem?_cons_zero, List.getElem?_cons_succ] at c00 c01
  clear hW1
  go_wp2_with fail
  refine (rgrow_any _ _ _ _ _ hl hr hx hy).mono ?_
  rintro e W2 ⟨rfl, hW2⟩
  rw [← HG.out, ← HS.out]
  have hB2 : Below w.heap.size w W2 := below_of (hB1.alloc hB1.size _) hW2
  have b1 := ((Blk.new W1 38 #[.int .u64 (hi s), .int .u64 (lo s)]).step hW2).alloc (.cells #[.int .u64 (hi s), .int .u64 (lo s)] 38)
  have b2 := Blk.new W2 38 #[.int .u64 (hi s), .int .u64 (lo s)]
  clear hW2 b0 c00 c01 z0 hB1
  go_wp2_with fail
  refine (bfull_any _ _ hr).mono ?_
  rintro e W3 ⟨rfl, rfl⟩
  go_wp2_with fail
  refine (rfull_any _ _ hr).mono ?_
  rintro e W3 ⟨rfl, rfl⟩
  go_wp2_with fail
  refine (live24_any _).mono ?_
  rintro e W3 ⟨rfl, hW3⟩
  have hB3 : Below w.heap.size w W3 := below_of (hB2.alloc hB2.size _) hW3
  replace b1 := b1.step hW3
  replace b2 := b2.step hW3
  have c10 := b1.cell 0
  have c11 := b1.cell 1
  have c20 := b2.cell 0
  have c21 := b2.cell 1
  simp only [List.getElem?_toArray, List.getElem?_cons_zero, List.getElem?_cons_succ] at c10 c11 c20 c21
  clear hW3 hB2 b1 b2
  go_wp2
  go_returns
  exact ⟨rfl, by go_grown⟩

set_option maxRecDepth 100000 in
set_option maxHeartbeats 1000000 in
theorem grows_lifted (os : Os) (started : os.Started) (H : Type) (enc : TypeId × Value → H) :
    ReturnsInHanded {} Try.checked os 6 .any (Rows.bucketGrowsSpec.pre6 enc Try.prog Try.f6 Rows.bucketGrowsRow.domain false) (Rows.bucketGrowsSpec.post enc Try.prog Try.f6 false true false false) := by
  refine returnsInHanded_of_change (C := Try.checked) Try.own started (by kernel_rfl) Try.func6
    (ChangeSpec.witness6 (enc := enc) (C := Try.checked) false ⟨#[], #[.int .u64 0, .int .u64 0, .agg #[.int .u64 0, .int .u64 0]], []⟩ 8 (by kernel_rfl) (by kernel_rfl) (by kernel_rfl) (by kernel_rfl)) ?_
  intro W base args ds gs before hval0 hW hcnd _
  have hval : ∀ (j : Nat) t v, Try.f6.params[j]? = some t → args[j]? = some v → Value.okWide Try.prog W .any base t v := hval0
  have hW' := hW
  obtain ⟨p, q, hA0, hV, rfl, hfz, hnd⟩ := hW
  have hA : DataW.TrodAll enc Try.prog W 0 (fun _ => true) true Try.f6.params.toList args.toList ds p := hA0
  have hAk := hA
  rw [Try.params6] at hA hval
  obtain ⟨v0, v1, v2, d0, d1, d2, p0, p1, p2, rfl, rfl, rfl, h0, h1, h2⟩ := trodAll_three hA
  obtain ⟨rfl, rfl⟩ := trodVars_none hV
  obtain ⟨a, rfl, rfl, rfl, wfa⟩ := open_int Try.underlying22 (hval 0 22 v0 rfl rfl) h0
  have wa : U a := U_wf wfa
  obtain ⟨b, rfl, rfl, rfl, wfb⟩ := open_int Try.underlying22 (hval 1 22 v1 rfl rfl) h1
  have wb : U b := U_wf wfb
  obtain ⟨zs2, rfl, hz2, hwz2⟩ := open_ints_by_value Try.underlying36 Try.underlying22 (by kernel_rfl) (by kernel_rfl) (hval 2 36 v2 rfl rfl) h2
  obtain ⟨x, y, rfl⟩ := two_of hz2
  have wx : U x := U_wf (hwz2 x (by simp))
  have wy : U y := U_wf (hwz2 y (by simp))
  clear hA0 hval0
  simp only [List.append_nil] at hW' hAk
  refine (grows_any a b x y W wa wb wx wy).mono fun e W' ⟨he, hb⟩ => ?_
  subst he
  exact ⟨_, rfl, law_post Try.laidOut (by kernel_rfl) rfl Try.underlying4 rfl hW' hAk rfl hb⟩

/-- The law BucketGrows answers true, whatever the input. Condition: none. -/
theorem bucketGrows_holds : Rows.BucketGrowsSaid :=
  OpenClaim.holds_of_wide 6 Try.f6 rfl rfl rfl rfl rfl rfl rfl ⟨rfl, rfl, rfl, rfl, rfl⟩ rfl rfl rfl rfl rfl (by kernel_rfl) Try.func6 (by kernel_rfl)
    (of_decide_eq_true (by kernel_rfl)) (by unfold Func.isWrapper; rw [if_neg (of_decide_eq_false (by kernel_rfl))]; exact ⟨rfl, rfl⟩)
    (fun os started H enc _ => grows_lifted os started H enc)

end Go.Proofs.Ytgidglbkmklajaa
