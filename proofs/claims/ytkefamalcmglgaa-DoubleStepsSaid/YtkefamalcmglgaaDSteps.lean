/- The law DoubleSteps answers true, whatever the input. Condition: none. -/
import Derived.Test.YtkefamalcmglgaaRows
import Derived.Test.YtkefamalcmglgaaOpen
import Derived.Test.YtkefamalcmglgaaPureD
import Derived.Test.YtkefamalcmglgaaPF3
namespace Go.Proofs.Ytkefamalcmglgaa.P
open Go.ChangeShapes Go.WideShapes Go.ChangeAt Go.RowKit Go.Proofs.YtkefamalcmglgaaW.PrintWords Go.Proofs.YtkefamalcmglgaaW.PrintLast Go.Proofs.YtkefamalcmglgaaW.PrintMore

theorem live27_true : weighbridgelaw27_live.f = some true := rfl

theorem dsteps_pure (k : Int) (a : Bool) (r p b x s0 s1 s2 : Int) (s3 : Bool) (t size pre : Int) (hr : U r) (hp : U p) (hb : U b) (hx : U x) (h0 : U s0) (h1 : U s1) (h2 : U s2) (ht : U t) (hs : I64 size) :
    weighbridgelaw27_DoubleSteps.f 5 k a r p b x s0 s1 s2 s3 t size pre = some true := by
  unfold weighbridgelaw27_DoubleSteps.f
  rw [dnew_eq _ _ _ _ _ _ hb hx, rnew27_eq 4 _ _ _ _ _ _ hb hx, dstep_eq _ _ _ _ _ _ _ _ _ _ _ _ _ hr hp hb hx h0 h1 h2 ht hs, rstep27_eq 3 _ _ _ _ _ _ _ _ _ _ _ _ _ hr hp hb hx h0 h1 h2 ht hs, live27_true, dcheck_eq 4 _ _ _ _ _ _ hb hx, r27check_eq]
  simp
theorem dsteps_any (k : Int) (a : Bool) (r p b x s0 s1 s2 : Int) (s3 : Bool) (t size pre : Int) (w : World) (hr : U r) (hp : U p) (hb : U b) (hx : U x) (h0 : U s0) (h1 : U s1) (h2 : U s2) (ht : U t) (hs : I64 size) :
    Calls Try.prog 3 #[.agg #[.int .i64 k, .bool a, .int .u64 r, .int .u64 p, .int .u64 b, .int .u64 x], .agg #[.int .u64 s0, .int .u64 s1, .int .u64 s2, .bool s3], .agg #[.int .u64 t, .int .i64 size, .int .i64 pre]] w fun e w' => e = .returned (.bool true) ∧ Below w.heap.size w w' :=
  weighbridgelaw27_DoubleSteps.calls 5 k a r p b x s0 s1 s2 s3 t size pre true w (dsteps_pure k a r p b x s0 s1 s2 s3 t size pre hr hp hb hx h0 h1 h2 ht hs)
end Go.Proofs.Ytkefamalcmglgaa.P
namespace Go.Proofs.Ytkefamalcmglgaa
open Go.ChangeShapes Go.WideShapes Go.ChangeAt Go.RowKit
set_option maxRecDepth 100000 in
set_option maxHeartbeats 1000000 in
theorem dsteps_lifted (os : Os) (started : os.Started) (H : Type) (enc : TypeId × Value → H) :
    ReturnsInHanded {} Try.checked os 3 .any (Rows.doubleStepsSpec.pre6 enc Try.prog Try.f3 Rows.doubleStepsRow.domain false) (Rows.doubleStepsSpec.post enc Try.prog Try.f3 false true false false) := by
  refine returnsInHanded_of_change_sized (C := Try.checked) Try.own started (by kernel_rfl) Try.func3
    (ChangeSpec.witness6 (enc := enc) (C := Try.checked) false ⟨#[], #[.agg #[.int .i64 0, .bool false, .int .u64 0, .int .u64 0, .int .u64 0, .int .u64 0], .agg #[.int .u64 0, .int .u64 0, .int .u64 0, .bool false], .agg #[.int .u64 0, .int .i64 0, .int .i64 0]], []⟩ 8 (by kernel_rfl) (by kernel_rfl) (by kernel_rfl) (by kernel_rfl)) ?_
  intro W base args ds gs before hval0 hW hcnd hsz0 _
  have hsz : (DataW.weightsEach Try.prog (Try.f3.params.toList ++ Rows.doubleStepsSpec.plain.varTypes Try.prog) (ds ++ gs)).all (· ≤ reachBytes) = true := hsz0
  have hval : ∀ (j : Nat) t v, Try.f3.params[j]? = some t → args[j]? = some v → Value.okWide Try.prog W .any base t v := hval0
  have hW' := hW
  obtain ⟨p, q, hA0, hV, rfl, hfz, hnd⟩ := hW
  have hA : DataW.TrodAll enc Try.prog W 0 (fun _ => true) true Try.f3.params.toList args.toList ds p := hA0
  have hAk := hA
  rw [Try.params3] at hA hval hsz
  obtain ⟨v0, vs0, d0, ds0, p0, q0, hargs, rfl, rfl, h0, r0⟩ := trodAll_cons hA
  obtain ⟨v1, vs1, d1, ds1, p1, q1, rfl, rfl, rfl, h1, r1⟩ := trodAll_cons r0
  obtain ⟨v2, vs2, d2, ds2, p2, q2, rfl, rfl, rfl, h2, r2⟩ := trodAll_cons r1
  obtain ⟨rfl, rfl, rfl⟩ := trodAll_nil r2
  obtain rfl : args = #[v0, v1, v2] := by simpa using congrArg List.toArray hargs
  obtain ⟨rfl, rfl⟩ := trodVars_none hV
  obtain ⟨cs0, rfl, hc0⟩ := open_struct Try.underlying24 (by kernel_rfl) (ks := [some .i64, none, some .u64, some .u64, some .u64, some .u64]) (by kernel_rfl) (by kernel_rfl) (hval 0 24 v0 rfl rfl) h0
  obtain ⟨_, _, rfl, ⟨m0, rfl, wfm0⟩, _, _, rfl, ⟨m1, rfl⟩, _, _, rfl, ⟨m2, rfl, wfm2⟩, _, _, rfl, ⟨m3, rfl, wfm3⟩, _, _, rfl, ⟨m4, rfl, wfm4⟩, _, _, rfl, ⟨m5, rfl, wfm5⟩, rfl⟩ := hc0
  have wm0 : I64 m0 := I64_wf wfm0
  have wm2 : U m2 := U_wf wfm2
  have wm3 : U m3 := U_wf wfm3
  have wm4 : U m4 := U_wf wfm4
  have wm5 : U m5 := U_wf wfm5
  obtain ⟨cs1, rfl, hc1⟩ := open_struct Try.underlying26 (by kernel_rfl) (ks := [some .u64, some .u64, some .u64, none]) (by kernel_rfl) (by kernel_rfl) (hval 1 26 v1 rfl rfl) h1
  obtain ⟨_, _, rfl, ⟨s0, rfl, wfs0⟩, _, _, rfl, ⟨s1, rfl, wfs1⟩, _, _, rfl, ⟨s2, rfl, wfs2⟩, _, _, rfl, ⟨s3, rfl⟩, rfl⟩ := hc1
  have ws0 : U s0 := U_wf wfs0
  have ws1 : U s1 := U_wf wfs1
  have ws2 : U s2 := U_wf wfs2
  obtain ⟨cs2, rfl, hc2⟩ := open_struct Try.underlying28 (by kernel_rfl) (ks := [some .u64, some .i64, some .i64]) (by kernel_rfl) (by kernel_rfl) (hval 2 28 v2 rfl rfl) h2
  obtain ⟨_, _, rfl, ⟨x0, rfl, wfx0⟩, _, _, rfl, ⟨x1, rfl, wfx1⟩, _, _, rfl, ⟨x2, rfl, wfx2⟩, rfl⟩ := hc2
  have wx0 : U x0 := U_wf wfx0
  have wx1 : I64 x1 := I64_wf wfx1
  have wx2 : I64 x2 := I64_wf wfx2
  clear hA0 hval0 hsz0 hsz
  simp only [List.append_nil] at hW' hAk
  refine (P.dsteps_any m0 m1 m2 m3 m4 m5 s0 s1 s2 s3 x0 x1 x2 W wm2 wm3 wm4 wm5 ws0 ws1 ws2 wx0 wx1).mono fun e W' ⟨he, hb⟩ => ?_
  subst he
  exact ⟨_, rfl, law_post Try.laidOut (by kernel_rfl) rfl Try.underlying4 rfl hW' hAk rfl hb⟩

/-- The law DoubleSteps answers true, whatever the input. Condition: none. -/
theorem doubleSteps_holds : Rows.DoubleStepsSaid :=
  OpenClaim.holds_of_wide 3 Try.f3 rfl rfl rfl rfl rfl rfl rfl ⟨rfl, rfl, rfl, rfl, rfl⟩ rfl rfl rfl rfl rfl (by kernel_rfl) Try.func3 (by kernel_rfl)
    (of_decide_eq_true (by kernel_rfl)) (by unfold Func.isWrapper; rw [if_neg (of_decide_eq_false (by kernel_rfl))]; exact ⟨rfl, rfl⟩)
    (fun os started H enc _ => dsteps_lifted os started H enc)

end Go.Proofs.Ytkefamalcmglgaa
