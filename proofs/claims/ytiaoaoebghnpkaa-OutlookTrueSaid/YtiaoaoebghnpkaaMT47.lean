/- Part of the proof. -/
import Derived.Test.YtiaoaoebghnpkaaRows
import Derived.Test.YtiaoaoebghnpkaaMT6
import Derived.Test.YtiaoaoebghnpkaaMT45
import Derived.Test.YtiaoaoebghnpkaaMT46
/- The law OutlookTrue answers true, whatever the input. Condition: none. -/
namespace Go.Proofs.Ytiaoaoebghnpkaa.P
open Go.ChangeShapes Go.WideShapes Go.ChangeAt Go.RowKit Go.Proofs.YtiaoaoebghnpkaaW.PrintWords Go.Proofs.YtiaoaoebghnpkaaW.PrintLast Go.Proofs.YtiaoaoebghnpkaaW.PrintMore
/-- Whole numbers that came in, as a list. -/
theorem numsT_list {k : IntKind} {w : World} {ao : Option Addr} {n : Nat} (hmax : n ≤ 9223372036854775807)
    (hL : ∀ j, j < n → ∃ (b off : Nat) (z : Int), ao = some ⟨b, off, none⟩ ∧ b < w.heap.size ∧ (Lit.int k z).wf = true ∧ w.cell? ⟨b, off + j, none⟩ = some (.int k z)) :
    ∃ l : List Int, l.length = n ∧ (∀ z ∈ l, (Lit.int k z).wf = true) ∧ Kd.C (Kd.int k) w ao n l := by
  obtain ⟨l, hl, hx⟩ := list_of (R := fun j (z : Int) => (Lit.int k z).wf = true ∧ ∃ b off, ao = some ⟨b, off, none⟩ ∧ w.cell? ⟨b, off + j, none⟩ = some (.int k z)) n fun j hj => by
    obtain ⟨b, off, z, hao, _, hw, hc⟩ := hL j hj
    exact ⟨z, hw, b, off, hao, hc⟩
  refine ⟨l, hl, fun z hz => ?_, Kd.C_of_reads (d := (0 : Int)) ⟨hl, hmax, fun hn => ?_⟩⟩
  · obtain ⟨j, hj, rfl⟩ := List.mem_iff_getElem.1 hz
    exact (hx j _ (List.getElem?_eq_getElem hj)).1
  · obtain ⟨b, off, _, hao, _⟩ := hL 0 hn
    refine ⟨⟨b, off, none⟩, hao, fun j hj => ?_⟩
    obtain ⟨_, b', off', hao', hc⟩ := hx j _ (List.getElem?_eq_getElem (by omega))
    rw [hao] at hao'
    obtain ⟨rfl, rfl⟩ : b = b' ∧ off = off' := by simpa using hao'
    rw [add_mk, hc, List.getD_eq_getElem?_getD, List.getElem?_eq_getElem (by omega)]
    rfl
theorem u16_of {z : Int} (h : (Lit.int .u16 z).wf = true) : 0 ≤ z ∧ z ≤ 65535 := by
  simp [Lit.wf, IntKind.min, IntKind.max, IntKind.bits, IntKind.signed] at h
  omega
end Go.Proofs.Ytiaoaoebghnpkaa.P
namespace Go.Proofs.Ytiaoaoebghnpkaa
open Go.ChangeShapes Go.WideShapes Go.ChangeAt Go.RowKit
theorem otrue_at (k : Int) (a : Bool) (r p b x s0 s1 s2 : Int) (s3 : Bool) (A : Option Addr) (n cap : Nat) (w : World) (hb : U b) (hx : U x) (hr : U r) (hp : U p) (h0 : U s0) (h1 : U s1) (h2 : U s2) (hle : n ≤ cap) (hmax : cap ≤ maxLen)
    (hL : ∀ j, j < n → ∃ (b off : Nat) (z : Int), A = some ⟨b, off, none⟩ ∧ b < w.heap.size ∧ (Lit.int .u16 z).wf = true ∧ w.cell? ⟨b, off + j, none⟩ = some (.int .u16 z)) :
    Calls Try.prog 8 #[.agg #[.int .i64 k, .bool a, .int .u64 r, .int .u64 p, .int .u64 b, .int .u64 x], .agg #[.int .u64 s0, .int .u64 s1, .int .u64 s2, .bool s3], .slice A n cap] w fun e w' => e = .returned (.bool true) ∧ Below w.heap.size w w' := by
  obtain ⟨l, rfl, hw, hC⟩ := P.numsT_list (Nat.le_trans hle hmax) hL
  obtain ⟨K, hK⟩ := P.otrue_ev (k := k) (a := a) (s3 := s3) hr hp hb hx h0 h1 h2 (fun z hz => P.u16_of (hw z hz))
  exact P.oTrue.calls K k a r p b x s0 s1 s2 s3 A cap l true w hC hle (hK K (Nat.le_refl _))
set_option maxRecDepth 100000 in
set_option maxHeartbeats 1000000 in
theorem otrue_lifted (os : Os) (started : os.Started) (H : Type) (enc : TypeId × Value → H) :
    ReturnsInHanded {} Try.checked os 8 .any (Rows.outlookTrueSpec.pre6 enc Try.prog Try.f8 Rows.outlookTrueRow.domain false) (Rows.outlookTrueSpec.post enc Try.prog Try.f8 false true false false) := by
  refine returnsInHanded_of_change_sized (C := Try.checked) Try.own started (by kernel_rfl) Try.func8
    (ChangeSpec.witness6 (enc := enc) (C := Try.checked) false ⟨#[], #[.agg #[.int .i64 0, .bool false, .int .u64 0, .int .u64 0, .int .u64 0, .int .u64 0], .agg #[.int .u64 0, .int .u64 0, .int .u64 0, .bool false], .slice none 0 0], []⟩ 8 (by kernel_rfl) (by kernel_rfl) (by kernel_rfl) (by kernel_rfl)) ?_
  intro W base args ds gs before hval0 hW hcnd hsz0 _
  have hsz : (DataW.weightsEach Try.prog (Try.f8.params.toList ++ Rows.outlookTrueSpec.plain.varTypes Try.prog) (ds ++ gs)).all (· ≤ reachBytes) = true := hsz0
  have hval : ∀ (j : Nat) t v, Try.f8.params[j]? = some t → args[j]? = some v → Value.okWide Try.prog W .any base t v := hval0
  have hW' := hW
  obtain ⟨p, q, hA0, hV, rfl, hfz, hnd⟩ := hW
  have hA : DataW.TrodAll enc Try.prog W 0 (fun _ => true) true Try.f8.params.toList args.toList ds p := hA0
  have hAk := hA
  rw [Try.params8] at hA hval hsz
  obtain ⟨v0, vs0, d0, ds0, p0, q0, hargs, rfl, rfl, h0, r0⟩ := trodAll_cons hA
  obtain ⟨v1, vs1, d1, ds1, p1, q1, rfl, rfl, rfl, h1, r1⟩ := trodAll_cons r0
  obtain ⟨v2, vs2, d2, ds2, p2, q2, rfl, rfl, rfl, h2, r2⟩ := trodAll_cons r1
  obtain ⟨rfl, rfl, rfl⟩ := trodAll_nil r2
  obtain rfl : args = #[v0, v1, v2] := by simpa using congrArg List.toArray hargs
  obtain ⟨rfl, rfl⟩ := trodVars_none hV
  obtain ⟨cs0, rfl, hc0⟩ := open_struct Try.underlying49 (by kernel_rfl) (ks := [some .i64, none, some .u64, some .u64, some .u64, some .u64]) (by kernel_rfl) (by kernel_rfl) (hval 0 49 v0 rfl rfl) h0
  obtain ⟨_, _, rfl, ⟨m0, rfl, wfm0⟩, _, _, rfl, ⟨m1, rfl⟩, _, _, rfl, ⟨m2, rfl, wfm2⟩, _, _, rfl, ⟨m3, rfl, wfm3⟩, _, _, rfl, ⟨m4, rfl, wfm4⟩, _, _, rfl, ⟨m5, rfl, wfm5⟩, rfl⟩ := hc0
  have wm0 : I64 m0 := I64_wf wfm0
  have wm2 : U m2 := U_wf wfm2
  have wm3 : U m3 := U_wf wfm3
  have wm4 : U m4 := U_wf wfm4
  have wm5 : U m5 := U_wf wfm5
  obtain ⟨cs1, rfl, hc1⟩ := open_struct Try.underlying51 (by kernel_rfl) (ks := [some .u64, some .u64, some .u64, none]) (by kernel_rfl) (by kernel_rfl) (hval 1 51 v1 rfl rfl) h1
  obtain ⟨_, _, rfl, ⟨s0, rfl, wfs0⟩, _, _, rfl, ⟨s1, rfl, wfs1⟩, _, _, rfl, ⟨s2, rfl, wfs2⟩, _, _, rfl, ⟨s3, rfl⟩, rfl⟩ := hc1
  have ws0 : U s0 := U_wf wfs0
  have ws1 : U s1 := U_wf wfs1
  have ws2 : U s2 := U_wf wfs2
  obtain ⟨ao2, n2, cap2, rfl, hle2, hmax2, hL2⟩ := open_nums Try.underlying62 Try.underlying64 (by kernel_rfl) (hval 2 62 v2 rfl rfl) h2
  have hz2 := len_sized hsz (j := 2) rfl rfl Try.underlying62 rfl h2
  clear hA0 hval0 hsz0 hsz
  simp only [List.append_nil] at hW' hAk
  refine (otrue_at m0 m1 m2 m3 m4 m5 s0 s1 s2 s3 ao2 n2 cap2 W wm4 wm5 wm2 wm3 ws0 ws1 ws2 hle2 hmax2 hL2).mono fun e W' ⟨he, hb⟩ => ?_
  subst he
  exact ⟨_, rfl, law_post Try.laidOut (by kernel_rfl) rfl Try.underlying4 rfl hW' hAk rfl hb⟩

/-- The law OutlookTrue answers true, whatever the input. Condition: none. -/
theorem outlookTrue_holds : Rows.OutlookTrueSaid :=
  OpenClaim.holds_of_wide 8 Try.f8 rfl rfl rfl rfl rfl rfl rfl ⟨rfl, rfl, rfl, rfl, rfl⟩ rfl rfl rfl rfl rfl (by kernel_rfl) Try.func8 (by kernel_rfl)
    (of_decide_eq_true (by kernel_rfl)) (by unfold Func.isWrapper; rw [if_neg (of_decide_eq_false (by kernel_rfl))]; exact ⟨rfl, rfl⟩)
    (fun os started H enc _ => otrue_lifted os started H enc)
end Go.Proofs.Ytiaoaoebghnpkaa
