/- Part of the proof. -/
import Derived.Test.YtiaoaoebghnpkaaRows
import Derived.Test.YtiaoaoebghnpkaaMW6
import Derived.Test.YtiaoaoebghnpkaaMW46
import Derived.Test.YtiaoaoebghnpkaaMW48
/- The law OutlookWhen answers true, whatever the input. Condition: none. -/
namespace Go.Proofs.Ytiaoaoebghnpkaa.P
open Go.ChangeShapes Go.WideShapes Go.ChangeAt Go.RowKit Go.Proofs.YtiaoaoebghnpkaaW.PrintWords Go.Proofs.YtiaoaoebghnpkaaW.PrintLast Go.Proofs.YtiaoaoebghnpkaaW.PrintMore

theorem owhen_pure (k : Int) (a : Bool) (r p b x s0 s1 s2 : Int) (s3 : Bool) (size want : Int) (hb : U b) (hx : U x) (h0 : U s0) (h1 : U s1) (h2 : U s2) (hr : U r) (hp : U p) (hs : I64 size) :
    ∃ n, weighbridgelaw30_OutlookWhen.f n k a r p b x s0 s1 s2 s3 size want = some true := by
  obtain ⟨K1, g1⟩ := rWhen_eq k a r p b x s0 s1 s2 s3 size want hb hx h0 h1 h2 hr hp hs
  obtain ⟨K2, g2⟩ := rIdle_eq k a r p b x s0 s1 s2 s3 hb hx h0 h1 h2 hr hp
  obtain ⟨K3, g3⟩ := live30_ev
  dsimp only at g1 g2
  refine ⟨K1 + K2 + K3 + 3, ?_⟩
  unfold weighbridgelaw30_OutlookWhen.f
  rw [outWhen_eq (K1 + K2 + K3) k a r p b x s0 s1 s2 s3 size want hb hx h0 h1 h2 hr hp hs]
  simp only [Option.bind_some]
  rw [g1 _ (by omega)]
  simp only [Option.bind_some]
  rw [outIdle_eq k a r p b x s0 s1 s2 s3 hb hx h0 h1 h2 hr hp]
  simp only [Option.bind_some]
  rw [g2 _ (by omega)]
  simp only [Option.bind_some]
  rw [g3 _ (by omega)]
  simp
theorem owhen_any (k : Int) (a : Bool) (r p b x s0 s1 s2 : Int) (s3 : Bool) (size want : Int) (w : World) (hb : U b) (hx : U x) (h0 : U s0) (h1 : U s1) (h2 : U s2) (hr : U r) (hp : U p) (hs : I64 size) :
    Calls Try.prog 6 #[.agg #[.int .i64 k, .bool a, .int .u64 r, .int .u64 p, .int .u64 b, .int .u64 x], .agg #[.int .u64 s0, .int .u64 s1, .int .u64 s2, .bool s3], .agg #[.int .i64 size, .int .i64 want]] w fun e w' => e = .returned (.bool true) ∧ Below w.heap.size w w' := by
  obtain ⟨n, h⟩ := owhen_pure k a r p b x s0 s1 s2 s3 size want hb hx h0 h1 h2 hr hp hs
  exact weighbridgelaw30_OutlookWhen.calls n _ _ _ _ _ _ _ _ _ _ _ _ _ _ h
end Go.Proofs.Ytiaoaoebghnpkaa.P
namespace Go.Proofs.Ytiaoaoebghnpkaa
open Go.ChangeShapes Go.WideShapes Go.ChangeAt Go.RowKit
set_option maxRecDepth 100000 in
set_option maxHeartbeats 1000000 in
theorem owhen_lifted (os : Os) (started : os.Started) (H : Type) (enc : TypeId × Value → H) :
    ReturnsInHanded {} Try.checked os 6 .any (Rows.outlookWhenSpec.pre6 enc Try.prog Try.f6 Rows.outlookWhenRow.domain false) (Rows.outlookWhenSpec.post enc Try.prog Try.f6 false true false false) := by
  refine returnsInHanded_of_change_sized (C := Try.checked) Try.own started (by kernel_rfl) Try.func6
    (ChangeSpec.witness6 (enc := enc) (C := Try.checked) false ⟨#[], #[.agg #[.int .i64 0, .bool false, .int .u64 0, .int .u64 0, .int .u64 0, .int .u64 0], .agg #[.int .u64 0, .int .u64 0, .int .u64 0, .bool false], .agg #[.int .i64 0, .int .i64 0]], []⟩ 8 (by kernel_rfl) (by kernel_rfl) (by kernel_rfl) (by kernel_rfl)) ?_
  intro W base args ds gs before hval0 hW hcnd hsz0 _
  have hsz : (DataW.weightsEach Try.prog (Try.f6.params.toList ++ Rows.outlookWhenSpec.plain.varTypes Try.prog) (ds ++ gs)).all (· ≤ reachBytes) = true := hsz0
  have hval : ∀ (j : Nat) t v, Try.f6.params[j]? = some t → args[j]? = some v → Value.okWide Try.prog W .any base t v := hval0
  have hW' := hW
  obtain ⟨p, q, hA0, hV, rfl, hfz, hnd⟩ := hW
  have hA : DataW.TrodAll enc Try.prog W 0 (fun _ => true) true Try.f6.params.toList args.toList ds p := hA0
  have hAk := hA
  rw [Try.params6] at hA hval hsz
  obtain ⟨v0, vs0, d0, ds0, p0, q0, hargs, rfl, rfl, h0, r0⟩ := trodAll_cons hA
  obtain ⟨v1, vs1, d1, ds1, p1, q1, rfl, rfl, rfl, h1, r1⟩ := trodAll_cons r0
  obtain ⟨v2, vs2, d2, ds2, p2, q2, rfl, rfl, rfl, h2, r2⟩ := trodAll_cons r1
  obtain ⟨rfl, rfl, rfl⟩ := trodAll_nil r2
  obtain rfl : args = #[v0, v1, v2] := by simpa using congrArg List.toArray hargs
  obtain ⟨rfl, rfl⟩ := trodVars_none hV
  obtain ⟨cs0, rfl, hc0⟩ := open_struct Try.underlying49 (by kernel_rfl) (ks := [some .i64, none, some .u64, some .u64, some .u64, some .u64]) (by kernel_rfl) (by kernel_rfl) (hval 0 49 v0 rfl rfl) h0
  obtain ⟨_, _, rfl, ⟨m0, rfl, wfm0⟩, _, _, rfl, ⟨m1, rfl⟩, _, _, rfl, ⟨m2, rfl, wfm2⟩, _, _, rfl, ⟨m3, rfl, wfm3⟩, _, _, rfl, ⟨m4, rfl, wfm4⟩, _, _, rfl, ⟨m5, rfl, wfm5⟩, rfl⟩ := hc0
  have wm0 : I64 m0 := I64_wf wfm0
  have wm2 : U m2 := U_wf wfm2
  have wm3 : U m3 := U_wf wfm3
  have wm4 : U m4 := U_wf wfm4
  have wm5 : U m5 := U_wf wfm5
  obtain ⟨cs1, rfl, hc1⟩ := open_struct Try.underlying51 (by kernel_rfl) (ks := [some .u64, some .u64, some .u64, none]) (by kernel_rfl) (by kernel_rfl) (hval 1 51 v1 rfl rfl) h1
  obtain ⟨_, _, rfl, ⟨s0, rfl, wfs0⟩, _, _, rfl, ⟨s1, rfl, wfs1⟩, _, _, rfl, ⟨s2, rfl, wfs2⟩, _, _, rfl, ⟨s3, rfl⟩, rfl⟩ := hc1
  have ws0 : U s0 := U_wf wfs0
  have ws1 : U s1 := U_wf wfs1
  have ws2 : U s2 := U_wf wfs2
  obtain ⟨zs2, rfl, hz2, hwz2⟩ := open_ints_by_value Try.underlying52 Try.underlying3 (by kernel_rfl) (by kernel_rfl) (hval 2 52 v2 rfl rfl) h2
  obtain ⟨y, z, rfl⟩ := two_of hz2
  have wy : I64 y := I64_wf (hwz2 y (by simp))
  have wz : I64 z := I64_wf (hwz2 z (by simp))
  clear hA0 hval0 hsz0 hsz
  simp only [List.append_nil] at hW' hAk
  refine (P.owhen_any m0 m1 m2 m3 m4 m5 s0 s1 s2 s3 y z W wm4 wm5 ws0 ws1 ws2 wm2 wm3 wy).mono fun e W' ⟨he, hb⟩ => ?_
  subst he
  exact ⟨_, rfl, law_post Try.laidOut (by kernel_rfl) rfl Try.underlying4 rfl hW' hAk rfl hb⟩

/-- The law OutlookWhen answers true, whatever the input. Condition: none. -/
theorem outlookWhen_holds : Rows.OutlookWhenSaid :=
  OpenClaim.holds_of_wide 6 Try.f6 rfl rfl rfl rfl rfl rfl rfl ⟨rfl, rfl, rfl, rfl, rfl⟩ rfl rfl rfl rfl rfl (by kernel_rfl) Try.func6 (by kernel_rfl)
    (of_decide_eq_true (by kernel_rfl)) (by unfold Func.isWrapper; rw [if_neg (of_decide_eq_false (by kernel_rfl))]; exact ⟨rfl, rfl⟩)
    (fun os started H enc _ => owhen_lifted os started H enc)
end Go.Proofs.Ytiaoaoebghnpkaa
