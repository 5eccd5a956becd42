/- The law WholeClock answers true, whatever the input. Condition: none. -/
import Derived.Test.YtkefamalcmglgaaRows
import Derived.Test.YtkefamalcmglgaaClockP
namespace Go.Proofs.Ytkefamalcmglgaa
open Go.ChangeShapes Go.WideShapes Go.ChangeAt Go.RowKit
set_option maxRecDepth 100000 in
set_option maxHeartbeats 1000000 in
theorem clock_lifted (os : Os) (started : os.Started) (H : Type) (enc : TypeId × Value → H) :
    ReturnsInHanded {} Try.checked os 9 .any (Rows.wholeClockSpec.pre6 enc Try.prog Try.f9 Rows.wholeClockRow.domain false) (Rows.wholeClockSpec.post enc Try.prog Try.f9 false true false false) := by
  refine returnsInHanded_of_change_sized (C := Try.checked) Try.own started (by kernel_rfl) Try.func9
    (ChangeSpec.witness6 (enc := enc) (C := Try.checked) false ⟨#[], #[.agg #[.int .i64 0, .bool false, .int .u64 0, .int .u64 0, .int .u64 0, .int .u64 0], .slice none 0 0, .int .u64 0], []⟩ 8 (by kernel_rfl) (by kernel_rfl) (by kernel_rfl) (by kernel_rfl)) ?_
  intro W base args ds gs before hval0 hW hcnd hsz0 _
  have hsz : (DataW.weightsEach Try.prog (Try.f9.params.toList ++ Rows.wholeClockSpec.plain.varTypes Try.prog) (ds ++ gs)).all (· ≤ reachBytes) = true := hsz0
  have hval : ∀ (j : Nat) t v, Try.f9.params[j]? = some t → args[j]? = some v → Value.okWide Try.prog W .any base t v := hval0
  have hW' := hW
  obtain ⟨p, q, hA0, hV, rfl, hfz, hnd⟩ := hW
  have hA : DataW.TrodAll enc Try.prog W 0 (fun _ => true) true Try.f9.params.toList args.toList ds p := hA0
  have hAk := hA
  rw [Try.params9] at hA hval hsz
  obtain ⟨v0, vs0, d0, ds0, p0, q0, hargs, rfl, rfl, h0, r0⟩ := trodAll_cons hA
  obtain ⟨v1, vs1, d1, ds1, p1, q1, rfl, rfl, rfl, h1, r1⟩ := trodAll_cons r0
  obtain ⟨v2, vs2, d2, ds2, p2, q2, rfl, rfl, rfl, h2, r2⟩ := trodAll_cons r1
  obtain ⟨rfl, rfl, rfl⟩ := trodAll_nil r2
  obtain rfl : args = #[v0, v1, v2] := by simpa using congrArg List.toArray hargs
  obtain ⟨rfl, rfl⟩ := trodVars_none hV
  obtain ⟨cs0, rfl, hc0⟩ := open_struct Try.underlying24 (by kernel_rfl) (ks := [some .i64, none, some .u64, some .u64, some .u64, some .u64]) (by kernel_rfl) (by kernel_rfl) (hval 0 24 v0 rfl rfl) h0
  obtain ⟨_, _, rfl, ⟨m0, rfl, wfm0⟩, _, _, rfl, ⟨m1, rfl⟩, _, _, rfl, ⟨m2, rfl, wfm2⟩, _, _, rfl, ⟨m3, rfl, wfm3⟩, _, _, rfl, ⟨m4, rfl, wfm4⟩, _, _, rfl, ⟨m5, rfl, wfm5⟩, rfl⟩ := hc0
  have wm0 : I64 m0 := I64_wf wfm0
  have wm2 : U m2 := U_wf wfm2
  have wm3 : U m3 := U_wf wfm3
  have wm4 : U m4 := U_wf wfm4
  have wm5 : U m5 := U_wf wfm5
  have hs1 := hsz
  obtain ⟨ao1, n1, cap1, rfl, hle1, hmax1, hL1⟩ := open_structs Try.underlying37 Try.underlying28 (by kernel_rfl) (ks := [some .u64, some .i64, some .i64]) (by kernel_rfl) (c := 3) (by kernel_rfl) rfl (by decide) (hval 1 37 v1 rfl rfl) h1
  have hz1 := len_sized hs1 (j := 1) rfl rfl Try.underlying37 rfl h1
  obtain ⟨d, rfl, rfl, rfl, wfd⟩ := open_int Try.underlying22 (hval 2 22 v2 rfl rfl) h2
  have wd : U d := U_wf wfd
  clear hA0 hval0 hsz0 hsz
  simp only [List.append_nil] at hW' hAk
  refine (P.clock_any m0 m1 m2 m3 m4 m5 ao1 n1 cap1 d W wm2 wm4 wm5 wd hle1 hmax1 hL1).mono fun e W' ⟨he, hb⟩ => ?_
  subst he
  exact ⟨_, rfl, law_post Try.laidOut (by kernel_rfl) rfl Try.underlying4 rfl hW' hAk rfl hb⟩

/-- The law WholeClock answers true, whatever the input. Condition: none. -/
theorem wholeClock_holds : Rows.WholeClockSaid :=
  OpenClaim.holds_of_wide 9 Try.f9 rfl rfl rfl rfl rfl rfl rfl ⟨rfl, rfl, rfl, rfl, rfl⟩ rfl rfl rfl rfl rfl (by kernel_rfl) Try.func9 (by kernel_rfl)
    (of_decide_eq_true (by kernel_rfl)) (by unfold Func.isWrapper; rw [if_neg (of_decide_eq_false (by kernel_rfl))]; exact ⟨rfl, rfl⟩)
    (fun os started H enc _ => clock_lifted os started H enc)

end Go.Proofs.Ytkefamalcmglgaa
