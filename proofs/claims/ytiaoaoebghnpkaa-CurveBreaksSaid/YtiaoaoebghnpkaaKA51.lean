/- Part of the proof. -/
import Derived.Deep.DeepCutAuto
import Derived.Test.YtiaoaoebghnpkaaRows
import Derived.Test.YtiaoaoebghnpkaaKA19
import Derived.Test.YtiaoaoebghnpkaaKA50
/- The law CurveBreaks answers true, whatever the input. Condition: none. -/
namespace Go.Proofs.Ytiaoaoebghnpkaa.P.Cv
open Go.ChangeShapes Go.WideShapes Go.ChangeAt Go.RowKit Go.Proofs.YtiaoaoebghnpkaaW.PrintWords Go.Proofs.YtiaoaoebghnpkaaW.PrintLast Go.Proofs.YtiaoaoebghnpkaaW.PrintMore
set_option maxRecDepth 100000 in
set_option maxHeartbeats 2000000 in
theorem cbreaks_any (A : Option Addr) (cap : Nat) (xs : List S68) (rate burst : Int) (w : World) (hr : U rate) (hb : U burst) (hxs : ∀ p ∈ xs, okU p) (hC : Kd.C k68 w A xs.length xs) (hle : xs.length ≤ cap) :
    Calls Try.prog 3 #[.slice A xs.length cap, .int .u64 rate, .int .u64 burst] w fun e w' => e = .returned (.bool true) ∧ Below w.heap.size w w' := by
  have HC := Lib.hid hC
  clear hC
  go_enter Try.func3, Try.ntmps3
  go_upto_if 19 with fail
  go_cut [0] from 17 to 21 (fun v wx => ∃ ys : List S68, v = .slice A ys.length cap ∧ ys.length ≤ 24 ∧ ys.length ≤ cap ∧ Hid (∀ z ∈ ys, okU z) ∧ Hid (Kd.C k68 w A ys.length ys) ∧ w = wx)
  case first =>
    by_cases h : xs.length ≤ 24
    · have h2 : ¬ (xs.length : Int) > 24 := by omega
      go_wp2_with fail
      go_meet
      exact ⟨xs, rfl, h, hle, hxs, HC.out, rfl⟩
    · have h2 : (xs.length : Int) > 24 := by omega
      have h3 : 24 ≤ cap := by omega
      obtain ⟨_, _, hA⟩ := HC.out
      obtain ⟨ad, rfl, _⟩ := hA (by omega)
      have hl : (xs.take 24).length = 24 := by rw [List.length_take]; omega
      go_wp2_with fail
      go_meet
      exact ⟨xs.take 24, by rw [hl], by omega, by omega, okU_take hxs 24, by rw [hl]; exact samp_take HC.out 24 (by omega), rfl⟩
  case rest =>
    obtain ⟨ys, rfl, hlen, hcap, HY, HR, rfl⟩ := hcut
    clear hle hxs HC
    obtain ⟨r0, r1, r2, r3, hv⟩ : ∃ r0 r1 r2 r3, brkV rate burst ys = (r0, r1, r2, r3) := ⟨_, _, _, _, rfl⟩
    obtain ⟨t0, t1, t2, ht⟩ : ∃ t0 t1 t2, totV ys = (t0, t1, t2) := ⟨_, _, _, rfl⟩
    have g0 : curve_Breaks.f ys rate burst = some (r0, r1, r2, r3) := by
      unfold curve_Breaks.f
      rw [if_pos ⟨⟨by omega, okU_times HY.out⟩, hr, hb⟩, hv]
    obtain ⟨K1, g1⟩ := rbreaks_ev (l := ys) (by omega) hr hb (okU_times HY.out)
    obtain ⟨K2, g2⟩ := total_ev (l := ys) (by omega)
    obtain ⟨K3, g3⟩ := rtotal_ev (l := ys) (by omega)
    obtain ⟨K4, g4⟩ := live29_ev
    dsimp only at g1 g2 g3
    rw [hv] at g1
    rw [ht] at g2 g3
    have G0 := Lib.hid g0
    have G1 := Lib.hid (g1 K1 (Nat.le_refl _))
    have G2 := Lib.hid (g2 K2 (Nat.le_refl _))
    have G3 := Lib.hid (g3 K3 (Nat.le_refl _))
    have G4 := Lib.hid (g4 K4 (Nat.le_refl _))
    have nB := Below.refl w.heap.size w
    clear g0 g1 g2 g3 g4 hv ht
    go_wp2_with fail
    refine (curve_Breaks.calls _ _ _ _ _ _ _ _ _ _ (Kd.C_below HR.out nB) hcap G0.out).mono ?_
    rintro e W1 ⟨rfl, hW1⟩
    replace nB := nB.trans hW1
    go_upto_region 4 with fail
    have f1 := Blk.new W1 26 #[.int .i64 r2, .int .i64 r3]
    replace nB := nB.alloc nB.size (.cells #[.int .i64 r2, .int .i64 r3] 26)
    clear hW1
    generalize W1.alloc (.cells #[.int .i64 r2, .int .i64 r3] 26) = W2 at *
    generalize W1.heap.size = gf1 at *
    go_wp2_with fail
    refine (weighbridgeref29_Breaks.calls K1 _ _ _ _ _ _ _ _ _ _ (Kd.C_below HR.out nB) hcap G1.out).mono ?_
    rintro e W3 ⟨rfl, hW3⟩
    have l1 := f1.lt
    replace f1 := f1.step hW3
    replace nB := below_of nB hW3
    clear hW3
    go_upto_region 5 with fail
    have l1' := f1.lt
    have f2 := Blk.new W3 26 #[.int .i64 r2, .int .i64 r3]
    replace f1 := f1.alloc (.cells #[.int .i64 r2, .int .i64 r3] 26)
    replace nB := nB.alloc nB.size (.cells #[.int .i64 r2, .int .i64 r3] 26)
    generalize W3.alloc (.cells #[.int .i64 r2, .int .i64 r3] 26) = W4 at *
    generalize W3.heap.size = gf2 at *
    go_wp2_with fail
    refine (curve_Total.calls K2 _ _ _ _ _ _ _ (Kd.C_below HR.out nB) hcap G2.out).mono ?_
    rintro e W5 ⟨rfl, hW5⟩
    replace f1 := f1.step hW5
    replace f2 := f2.step hW5
    replace nB := below_of nB hW5
    clear hW5
    go_upto_region 6 with fail
    have l2' := f2.lt
    have f3 := Blk.new W5 26 #[.int .i64 t1, .int .i64 t2]
    replace f1 := f1.alloc (.cells #[.int .i64 t1, .int .i64 t2] 26)
    replace f2 := f2.alloc (.cells #[.int .i64 t1, .int .i64 t2] 26)
    replace nB := nB.alloc nB.size (.cells #[.int .i64 t1, .int .i64 t2] 26)
    generalize W5.alloc (.cells #[.int .i64 t1, .int .i64 t2] 26) = W6 at *
    generalize W5.heap.size = gf3 at *
    go_wp2_with fail
    refine (weighbridgeref29_Total.calls K3 _ _ _ _ _ _ _ (Kd.C_below HR.out nB) hcap G3.out).mono ?_
    rintro e W7 ⟨rfl, hW7⟩
    replace f1 := f1.step hW7
    replace f2 := f2.step hW7
    replace f3 := f3.step hW7
    replace nB := below_of nB hW7
    clear hW7
    go_upto_region 7 with fail
    have l3' := f3.lt
    have f4 := Blk.new W7 26 #[.int .i64 t1, .int .i64 t2]
    replace f1 := f1.alloc (.cells #[.int .i64 t1, .int .i64 t2] 26)
    replace f2 := f2.alloc (.cells #[.int .i64 t1, .int .i64 t2] 26)
    replace f3 := f3.alloc (.cells #[.int .i64 t1, .int .i64 t2] 26)
    replace nB := nB.alloc nB.size (.cells #[.int .i64 t1, .int .i64 t2] 26)
    generalize W7.alloc (.cells #[.int .i64 t1, .int .i64 t2] 26) = W8 at *
    generalize W7.heap.size = gf4 at *
    go_wp2_with fail
    refine (weighbridgelaw29_live.calls K4 _ _ G4.out).mono ?_
    rintro e W9 ⟨rfl, hW9⟩
    replace f1 := f1.step hW9
    replace f2 := f2.step hW9
    replace f3 := f3.step hW9
    replace f4 := f4.step hW9
    replace nB := below_of nB hW9
    clear hW9
    have p0 := f1.cell 0
    have p1 := f1.cell 1
    have pf0 := f1.frozen 0
    have pf1 := f1.frozen 1
    simp only [List.getElem?_toArray, List.getElem?_cons_zero, List.getElem?_cons_succ] at p0 p1
    have q0 := f2.cell 0
    have q1 := f2.cell 1
    have qf0 := f2.frozen 0
    have qf1 := f2.frozen 1
    simp only [List.getElem?_toArray, List.getElem?_cons_zero, List.getElem?_cons_succ] at q0 q1
    have s0 := f3.cell 0
    have s1 := f3.cell 1
    have sf0 := f3.frozen 0
    have sf1 := f3.frozen 1
    simp only [List.getElem?_toArray, List.getElem?_cons_zero, List.getElem?_cons_succ] at s0 s1
    have t0 := f4.cell 0
    have t1 := f4.cell 1
    have tf0 := f4.frozen 0
    have tf1 := f4.frozen 1
    simp only [List.getElem?_toArray, List.getElem?_cons_zero, List.getElem?_cons_succ] at t0 t1
    go_wp2_with fail
    go_returns
    exact ⟨by simp, nB⟩
end Go.Proofs.Ytiaoaoebghnpkaa.P.Cv
namespace Go.Proofs.Ytiaoaoebghnpkaa
open Go.ChangeShapes Go.WideShapes Go.ChangeAt Go.RowKit
theorem cbreaks_at (A : Option Addr) (n cap : Nat) (rate burst : Int) (w : World) (hr : U rate) (hb : U burst) (hle : n ≤ cap) (hmax : cap ≤ maxLen)
    (hL : ∀ k, k < n → ∃ (b off : Nat) (cs : List Value), A = some ⟨b, off, none⟩ ∧ b < w.heap.size ∧ cellsOk [some .u64, some .i64] cs ∧ ∀ i, i < 2 → w.cell? ⟨b, off + k * 2 + i, none⟩ = cs[i]?) :
    Calls Try.prog 3 #[.slice A n cap, .int .u64 rate, .int .u64 burst] w fun e w' => e = .returned (.bool true) ∧ Below w.heap.size w w' := by
  obtain ⟨xs, rfl, hok, hC⟩ := P.Cv.samp_list (Nat.le_trans hle hmax) hL
  exact P.Cv.cbreaks_any A cap xs rate burst w hr hb hok hC hle
set_option maxRecDepth 100000 in
set_option maxHeartbeats 1000000 in
theorem cbreaks_lifted (os : Os) (started : os.Started) (H : Type) (enc : TypeId × Value → H) :
    ReturnsInHanded {} Try.checked os 3 .any (Rows.curveBreaksSpec.pre6 enc Try.prog Try.f3 Rows.curveBreaksRow.domain false) (Rows.curveBreaksSpec.post enc Try.prog Try.f3 false true false false) := by
  refine returnsInHanded_of_change_sized (C := Try.checked) Try.own started (by kernel_rfl) Try.func3
    (ChangeSpec.witness6 (enc := enc) (C := Try.checked) false ⟨#[], #[.slice none 0 0, .int .u64 0, .int .u64 0], []⟩ 8 (by kernel_rfl) (by kernel_rfl) (by kernel_rfl) (by kernel_rfl)) ?_
  intro W base args ds gs before hval0 hW hcnd hsz0 _
  have hsz : (DataW.weightsEach Try.prog (Try.f3.params.toList ++ Rows.curveBreaksSpec.plain.varTypes Try.prog) (ds ++ gs)).all (· ≤ reachBytes) = true := hsz0
  have hval : ∀ (j : Nat) t v, Try.f3.params[j]? = some t → args[j]? = some v → Value.okWide Try.prog W .any base t v := hval0
  have hW' := hW
  obtain ⟨p, q, hA0, hV, rfl, hfz, hnd⟩ := hW
  have hA : DataW.TrodAll enc Try.prog W 0 (fun _ => true) true Try.f3.params.toList args.toList ds p := hA0
  have hAk := hA
  rw [Try.params3] at hA hval hsz
  obtain ⟨v0, vs0, d0, ds0, p0, q0, hargs, rfl, rfl, h0, r0⟩ := trodAll_cons hA
  obtain ⟨v1, vs1, d1, ds1, p1, q1, rfl, rfl, rfl, h1, r1⟩ := trodAll_cons r0
  obtain ⟨v2, vs2, d2, ds2, p2, q2, rfl, rfl, rfl, h2, r2⟩ := trodAll_cons r1
  obtain ⟨rfl, rfl, rfl⟩ := trodAll_nil r2
  obtain rfl : args = #[v0, v1, v2] := by simpa using congrArg List.toArray hargs
  obtain ⟨rfl, rfl⟩ := trodVars_none hV
  have hs0 := hsz
  obtain ⟨ao0, n0, cap0, rfl, hle0, hmax0, hL0⟩ := open_structs Try.underlying22 Try.underlying68 (by kernel_rfl) (ks := [some .u64, some .i64]) (by kernel_rfl) (c := 2) (by kernel_rfl) rfl (by decide) (hval 0 22 v0 rfl rfl) h0
  have hz0 := len_sized hs0 (j := 0) rfl rfl Try.underlying22 rfl h0
  obtain ⟨r, rfl, rfl, rfl, wfr⟩ := open_int Try.underlying23 (hval 1 23 v1 rfl rfl) h1
  have wr : U r := U_wf wfr
  obtain ⟨b, rfl, rfl, rfl, wfb⟩ := open_int Try.underlying23 (hval 2 23 v2 rfl rfl) h2
  have wb : U b := U_wf wfb
  clear hA0 hval0 hsz0 hsz
  simp only [List.append_nil] at hW' hAk
  refine (cbreaks_at ao0 n0 cap0 r b W wr wb hle0 hmax0 hL0).mono fun e W' ⟨he, hb⟩ => ?_
  subst he
  exact ⟨_, rfl, law_post Try.laidOut (by kernel_rfl) rfl Try.underlying4 rfl hW' hAk rfl hb⟩

/-- The law CurveBreaks answers true, whatever the input. Condition: none. -/
theorem curveBreaks_holds : Rows.CurveBreaksSaid :=
  OpenClaim.holds_of_wide 3 Try.f3 rfl rfl rfl rfl rfl rfl rfl ⟨rfl, rfl, rfl, rfl, rfl⟩ rfl rfl rfl rfl rfl (by kernel_rfl) Try.func3 (by kernel_rfl)
    (of_decide_eq_true (by kernel_rfl)) (by unfold Func.isWrapper; rw [if_neg (of_decide_eq_false (by kernel_rfl))]; exact ⟨rfl, rfl⟩)
    (fun os started H enc _ => cbreaks_lifted os started H enc)
end Go.Proofs.Ytiaoaoebghnpkaa
