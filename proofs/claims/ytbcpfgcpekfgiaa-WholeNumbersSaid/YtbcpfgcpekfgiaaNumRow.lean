/- The law WholeNumbers answers true, whatever the input. Condition: none. -/
import Derived.Test.YtbcpfgcpekfgiaaRows
import Derived.Test.YtbcpfgcpekfgiaaOpen
import Derived.Test.YtbcpfgcpekfgiaaNumbers
namespace Go.Proofs.Ytbcpfgcpekfgiaa
open Go.ChangeShapes Go.WideShapes Go.ChangeAt Go.RowKit

theorem byte_wf {z : Int} (h : (Lit.int .u8 z).wf = true) : isByte z := by
  have := bounds_u8 h
  unfold isByte; omega
abbrev U8 := isByte
theorem U8_wf {z : Int} (h : (Lit.int .u8 z).wf = true) : U8 z := byte_wf h
theorem bytes_of {zs : List Int} (hz : zs.length = 16) (hw : ∀ z ∈ zs, (Lit.int .u8 z).wf = true) : (zs.map (Value.int .u8)).toArray = byA 16 (fun i => zs.getD i 0) ∧ ∀ i, isByte (zs.getD i 0) := by
  refine ⟨?_, fun i => ?_⟩
  · unfold byA
    apply Array.ext'
    apply List.ext_getElem?
    intro j
    rcases Nat.lt_or_ge j 16 with hj | hj
    · simp [hj, hz, List.getD_eq_getElem?_getD]
    · have : ¬ j < 16 := by omega
      simp [this, hz]
  · rw [List.getD_eq_getElem?_getD]
    rcases Nat.lt_or_ge i zs.length with hi | hi
    · rw [List.getElem?_eq_getElem hi]
      exact byte_wf (hw _ (List.getElem_mem hi))
    · rw [List.getElem?_eq_none hi]
      unfold isByte; decide
theorem numbers_at (xs ys : List Int) (n : Int) (w : World) (hx : xs.length = 16) (hwx : ∀ z ∈ xs, (Lit.int .u8 z).wf = true) (hy : ys.length = 16) (hwy : ∀ z ∈ ys, (Lit.int .u8 z).wf = true) (hn : (Lit.int .u8 n).wf = true) :
    Calls Try.prog 6 #[.agg (xs.map (Value.int .u8)).toArray, .agg (ys.map (Value.int .u8)).toArray, .int .u8 n] w fun e w' => e = .returned (.bool true) ∧ Below w.heap.size w w' := by
  obtain ⟨e1, h1⟩ := bytes_of hx hwx
  obtain ⟨e2, h2⟩ := bytes_of hy hwy
  rw [e1, e2]
  exact numbers_any _ _ n w h1 h2 (byte_wf hn)
set_option maxRecDepth 100000 in
set_option maxHeartbeats 1000000 in
theorem numbers_lifted (os : Os) (started : os.Started) (H : Type) (enc : TypeId × Value → H) :
    ReturnsInHanded {} Try.checked os 6 .any (Rows.wholeNumbersSpec.pre6 enc Try.prog Try.f6 Rows.wholeNumbersRow.domain false) (Rows.wholeNumbersSpec.post enc Try.prog Try.f6 false true false false) := by
  refine returnsInHanded_of_change_sized (C := Try.checked) Try.own started (by kernel_rfl) Try.func6
    (ChangeSpec.witness6 (enc := enc) (C := Try.checked) false ⟨#[], #[.agg #[.int .u8 0, .int .u8 0, .int .u8 0, .int .u8 0, .int .u8 0, .int .u8 0, .int .u8 0, .int .u8 0, .int .u8 0, .int .u8 0, .int .u8 0, .int .u8 0, .int .u8 0, .int .u8 0, .int .u8 0, .int .u8 0], .agg #[.int .u8 0, .int .u8 0, .int .u8 0, .int .u8 0, .int .u8 0, .int .u8 0, .int .u8 0, .int .u8 0, .int .u8 0, .int .u8 0, .int .u8 0, .int .u8 0, .int .u8 0, .int .u8 0, .int .u8 0, .int .u8 0], .int .u8 0], []⟩ 8 (by kernel_rfl) (by kernel_rfl) (by kernel_rfl) (by kernel_rfl)) ?_
  intro W base args ds gs before hval0 hW hcnd hsz0 _
  have hsz : (DataW.weightsEach Try.prog (Try.f6.params.toList ++ Rows.wholeNumbersSpec.plain.varTypes Try.prog) (ds ++ gs)).all (· ≤ reachBytes) = true := hsz0
  have hval : ∀ (j : Nat) t v, Try.f6.params[j]? = some t → args[j]? = some v → Value.okWide Try.prog W .any base t v := hval0
  have hW' := hW
  obtain ⟨p, q, hA0, hV, rfl, hfz, hnd⟩ := hW
  have hA : DataW.TrodAll enc Try.prog W 0 (fun _ => true) true Try.f6.params.toList args.toList ds p := hA0
  have hAk := hA
  rw [Try.params6] at hA hval hsz
  obtain ⟨v0, vs0, d0, ds0, p0, q0, hargs, rfl, rfl, h0, r0⟩ := trodAll_cons hA
  obtain ⟨v1, vs1, d1, ds1, p1, q1, rfl, rfl, rfl, h1, r1⟩ := trodAll_cons r0
  obtain ⟨v2, vs2, d2, ds2, p2, q2, rfl, rfl, rfl, h2, r2⟩ := trodAll_cons r1
  obtain ⟨rfl, rfl, rfl⟩ := trodAll_nil r2
  obtain rfl : args = #[v0, v1, v2] := by simpa using congrArg List.toArray hargs
  obtain ⟨rfl, rfl⟩ := trodVars_none hV
  obtain ⟨zs0, rfl, hz0, hwz0⟩ := open_ints_by_value Try.underlying54 Try.underlying5 (by kernel_rfl) (by kernel_rfl) (hval 0 54 v0 rfl rfl) h0
  obtain ⟨zs1, rfl, hz1, hwz1⟩ := open_ints_by_value Try.underlying54 Try.underlying5 (by kernel_rfl) (by kernel_rfl) (hval 1 54 v1 rfl rfl) h1
  obtain ⟨n, rfl, rfl, rfl, wfn⟩ := open_int Try.underlying5 (hval 2 5 v2 rfl rfl) h2
  have wn : U8 n := U8_wf wfn
  clear hA0 hval0 hsz0 hsz
  simp only [List.append_nil] at hW' hAk
  refine (numbers_at zs0 zs1 n W hz0 hwz0 hz1 hwz1 wfn).mono fun e W' ⟨he, hb⟩ => ?_
  subst he
  exact ⟨_, rfl, law_post Try.laidOut (by kernel_rfl) rfl Try.underlying4 rfl hW' hAk rfl hb⟩

/-- The law WholeNumbers answers true, whatever the input. Condition: none. -/
theorem wholeNumbers_holds : Rows.WholeNumbersSaid :=
  OpenClaim.holds_of_wide 6 Try.f6 rfl rfl rfl rfl rfl rfl rfl ⟨rfl, rfl, rfl, rfl, rfl⟩ rfl rfl rfl rfl rfl (by kernel_rfl) Try.func6 (by kernel_rfl)
    (of_decide_eq_true (by kernel_rfl)) (by unfold Func.isWrapper; rw [if_neg (of_decide_eq_false (by kernel_rfl))]; exact ⟨rfl, rfl⟩)
    (fun os started H enc _ => numbers_lifted os started H enc)
end Go.Proofs.Ytbcpfgcpekfgiaa
