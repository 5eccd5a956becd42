/- Part of the proof. -/
import Derived.Deep.DeepCutAuto
import Derived.Test.YtiaoaoebghnpkaaRows
import Derived.Test.YtiaoaoebghnpkaaKA19
import Derived.Test.YtiaoaoebghnpkaaKA50
/- The law CurveLeast answers true, whatever the input. Condition: none. -/
namespace Go.Proofs.Ytiaoaoebghnpkaa.P.Cv
open Go.ChangeShapes Go.WideShapes Go.ChangeAt Go.RowKit Go.Proofs.YtiaoaoebghnpkaaW.PrintWords Go.Proofs.YtiaoaoebghnpkaaW.PrintLast Go.Proofs.YtiaoaoebghnpkaaW.PrintMore
theorem same_l0 (l : List S68) (hl : l.length ≤ 1000000) : ∀ (d j : Nat), j + d = l.length → Ev (fun k => weighbridgeref29_SameSamples.l0 k l l (j : Int)) true := by
  intro d
  induction d with
  | zero =>
    intro j e
    refine Ev.step (f := fun _ => some true) (fun k => ?_) (Ev.now _)
    simp only [weighbridgeref29_SameSamples.l0]
    rw [if_neg (by omega)]
  | succ d ih =>
    intro j e
    refine Ev.step (f := fun k => weighbridgeref29_SameSamples.l0 k l l ((j + 1 : Nat) : Int)) (fun k => ?_) (ih (j + 1) (by omega))
    simp only [weighbridgeref29_SameSamples.l0]
    rw [if_pos (by omega), if_pos (by omega), if_pos (by omega), w64_up (by omega)]
    simp
theorem same_ev (l : List S68) (hl : l.length ≤ 1000000) : Ev (fun k => weighbridgeref29_SameSamples.f k l l) true := by
  refine Ev.congr (fun k => ?_) (same_l0 l hl l.length 0 (by omega))
  unfold weighbridgeref29_SameSamples.f
  rw [if_pos rfl]
  rfl
set_option maxRecDepth 100000 in
set_option maxHeartbeats 2000000 in
theorem cleast_any (A : Option Addr) (cap : Nat) (xs : List S68) (rate : Int) (A1 : Option Addr) (c1 : Nat) (cs : List Int) (w : World) (hr : U rate) (hxs : ∀ p ∈ xs, okU p) (hC : Kd.C k68 w A xs.length xs) (hle : xs.length ≤ cap) (hD : Kd.C (Kd.int .i64) w A1 cs.length cs) (hle1 : cs.length ≤ c1) :
    Calls Try.prog 4 #[.slice A xs.length cap, .int .u64 rate, .slice A1 cs.length c1] w fun e w' => e = .returned (.bool true) ∧ Below w.heap.size w w' := by
  have HC := Lib.hid hC
  have HD := Lib.hid hD
  have HL1 := Lib.hid hle1
  clear hC hD hle1
  go_enter Try.func4, Try.ntmps4
  go_upto_if 14 with fail
  go_cut [0] from 12 to 16 (fun v wx => ∃ ys : List S68, v = .slice A ys.length cap ∧ ys.length ≤ 24 ∧ ys.length ≤ cap ∧ Hid (∀ z ∈ ys, okU z) ∧ Hid (Kd.C k68 w A ys.length ys) ∧ w = wx)
  case first =>
    by_cases h : xs.length ≤ 24
    · have h2 : ¬ (xs.length : Int) > 24 := by omega
      go_wp2_with fail
      go_meet
      exact ⟨xs, rfl, h, hle, hxs, HC.out, rfl⟩
    · have h2 : (xs.length : Int) > 24 := by omega
      have h3 : 24 ≤ cap := by omega
      obtain ⟨_, _, hA⟩ := HC.out
      obtain ⟨ad, rfl, _⟩ := hA (by omega)
      have hl : (xs.take 24).length = 24 := by rw [List.length_take]; omega
      go_wp2_with fail
      go_meet
      exact ⟨xs.take 24, by rw [hl], by omega, by omega, okU_take hxs 24, by rw [hl]; exact samp_take HC.out 24 (by omega), rfl⟩
  case rest =>
    obtain ⟨ys, rfl, hlen, hcap, HY, HR, rfl⟩ := hcut
    clear hle hxs HC
    obtain ⟨r0, r1, r2, hv⟩ : ∃ r0 r1 r2, lstV rate ys = (r0, r1, r2) := ⟨_, _, _, rfl⟩
    have g0 : curve_Least.f ys rate = some (r0, r1, r2) := by
      unfold curve_Least.f
      rw [if_pos ⟨⟨by omega, okU_times HY.out⟩, hr⟩, hv]
    obtain ⟨worst, hw⟩ : ∃ z : Int, z = (cs.length : Int) % 3 := ⟨_, rfl⟩
    obtain ⟨K1, g1⟩ := rleast_ev (l := ys) (by omega) hr (okU_times HY.out)
    obtain ⟨K2, g2⟩ := only_ev (l := ys) (cs := cs) (worst := worst) (by omega)
    obtain ⟨K3, g3⟩ := same_ev (onlyS ys cs worst ys.length) (by rw [onlyS_length]; omega)
    obtain ⟨K4, g4⟩ := live29_ev
    dsimp only at g1 g2 g3
    rw [hv] at g1
    have G0 := Lib.hid g0
    have G1 := Lib.hid (g1 K1 (Nat.le_refl _))
    have G2 := Lib.hid (g2 K2 (Nat.le_refl _))
    have G3 := Lib.hid (g3 K3 (Nat.le_refl _))
    have G4 := Lib.hid (g4 K4 (Nat.le_refl _))
    have HW := Lib.hid hw
    have nB := Below.refl w.heap.size w
    have hc0 : 0 ≤ (cs.length : Int) := by omega
    have hc1 : (cs.length : Int) ≤ 9223372036854775807 := by
      have := HD.out.2.1
      omega
    clear g0 g1 g2 g3 g4 hv hw
    go_wp2_with fail
    refine (curve_Least.calls _ _ _ _ _ _ _ _ (Kd.C_below HR.out nB) hcap G0.out).mono ?_
    rintro e W1 ⟨rfl, hW1⟩
    replace nB := nB.trans hW1
    go_upto_region 4 with fail
    have f1 := Blk.new W1 26 #[.int .i64 r1, .int .i64 r2]
    replace nB := nB.alloc nB.size (.cells #[.int .i64 r1, .int .i64 r2] 26)
    clear hW1
    generalize W1.alloc (.cells #[.int .i64 r1, .int .i64 r2] 26) = W2 at *
    generalize W1.heap.size = gf1 at *
    go_wp2_with fail
    refine (weighbridgeref29_Least.calls K1 _ _ _ _ _ _ _ _ (Kd.C_below HR.out nB) hcap G1.out).mono ?_
    rintro e W3 ⟨rfl, hW3⟩
    have l1 := f1.lt
    replace f1 := f1.step hW3
    replace nB := below_of nB hW3
    clear hW3
    go_upto_region 5 with fail
    have l1' := f1.lt
    have f2 := Blk.new W3 26 #[.int .i64 r1, .int .i64 r2]
    replace f1 := f1.alloc (.cells #[.int .i64 r1, .int .i64 r2] 26)
    replace nB := nB.alloc nB.size (.cells #[.int .i64 r1, .int .i64 r2] 26)
    generalize W3.alloc (.cells #[.int .i64 r1, .int .i64 r2] 26) = W4 at *
    generalize W3.heap.size = gf2 at *
    go_upto_region 6 with fail
    rw [← HW.out]
    go_wp2_with fail
    refine (weighbridgelaw29_live.calls K4 _ _ G4.out).mono ?_
    rintro e W9 ⟨rfl, hW9⟩
    replace f1 := f1.step hW9
    replace f2 := f2.step hW9
    replace nB := below_of nB hW9
    clear hW9
    have p0 := f1.cell 0
    have p1 := f1.cell 1
    have pf0 := f1.frozen 0
    have pf1 := f1.frozen 1
    simp only [List.getElem?_toArray, List.getElem?_cons_zero, List.getElem?_cons_succ] at p0 p1
    have q0 := f2.cell 0
    have q1 := f2.cell 1
    have qf0 := f2.frozen 0
    have qf1 := f2.frozen 1
    simp only [List.getElem?_toArray, List.getElem?_cons_zero, List.getElem?_cons_succ] at q0 q1
    go_wp2_with fail
    refine (curve_Only.calls K2 _ _ _ _ _ _ _ _ _ (Kd.C_below HR.out nB) hcap (Kd.C_below HD.out nB) HL1.out G2.out).mono ?_
    rintro e W10 ⟨v1, rfl, hR1, hW10⟩
    obtain ⟨A3, c3, rfl, hc3, hC3⟩ := Kd.R_reads hR1
    clear hR1 f1 f2
    clear p0 pf0 p1 pf1
    clear q0 qf0 q1 qf1
    replace nB := nB.trans (hW10.mono nB.size)
    clear hW10
    have HC3 := Lib.hid hC3
    have HL3 := Lib.hid hc3
    clear hC3 hc3
    go_wp2_with fail
    refine (ronly_any _ _ _ _ _ cs worst _ (by omega) (Kd.C_below HR.out nB) (Kd.C_below HD.out nB)).mono ?_
    rintro e W11 ⟨v2, rfl, hR2, hW11⟩
    obtain ⟨A4, c4, rfl, hc4, hC4⟩ := Kd.R_reads hR2
    clear hR2
    have HC3' := Lib.hid (Kd.C_below HC3.out hW11)
    replace nB := nB.trans (hW11.mono nB.size)
    clear hW11
    have HC4 := Lib.hid hC4
    have HL4 := Lib.hid hc4
    clear hC4 hc4
    go_wp2_with fail
    refine (weighbridgeref29_SameSamples.calls K3 _ _ _ _ _ _ _ _ HC3'.out HL3.out HC4.out HL4.out G3.out).mono ?_
    rintro e W12 ⟨rfl, hW12⟩
    replace nB := nB.trans (hW12.mono nB.size)
    clear hW12
    go_wp2_with fail
    go_returns
    exact ⟨by simp, nB⟩
end Go.Proofs.Ytiaoaoebghnpkaa.P.Cv
namespace Go.Proofs.Ytiaoaoebghnpkaa
open Go.ChangeShapes Go.WideShapes Go.ChangeAt Go.RowKit Go.Proofs.YtiaoaoebghnpkaaW.PrintWords
theorem numsC_list {k : IntKind} {w : World} {ao : Option Addr} {n : Nat} (hmax : n ≤ 9223372036854775807)
    (hL : ∀ j, j < n → ∃ (b off : Nat) (z : Int), ao = some ⟨b, off, none⟩ ∧ b < w.heap.size ∧ (Lit.int k z).wf = true ∧ w.cell? ⟨b, off + j, none⟩ = some (.int k z)) :
    ∃ l : List Int, l.length = n ∧ Kd.C (Kd.int k) w ao n l := by
  obtain ⟨l, hl, hx⟩ := list_of (R := fun j (z : Int) => ∃ b off, ao = some ⟨b, off, none⟩ ∧ w.cell? ⟨b, off + j, none⟩ = some (.int k z)) n fun j hj => by
    obtain ⟨b, off, z, hao, _, _, hc⟩ := hL j hj
    exact ⟨z, b, off, hao, hc⟩
  refine ⟨l, hl, Kd.C_of_reads (d := (0 : Int)) ⟨hl, hmax, fun hn => ?_⟩⟩
  obtain ⟨b, off, _, hao, _⟩ := hL 0 hn
  refine ⟨⟨b, off, none⟩, hao, fun j hj => ?_⟩
  obtain ⟨b', off', hao', hc⟩ := hx j _ (List.getElem?_eq_getElem (by omega))
  rw [hao] at hao'
  obtain ⟨rfl, rfl⟩ : b = b' ∧ off = off' := by simpa using hao'
  rw [add_mk, hc, List.getD_eq_getElem?_getD, List.getElem?_eq_getElem (by omega)]
  rfl
theorem cleast_at (A : Option Addr) (n cap : Nat) (rate : Int) (A1 : Option Addr) (n1 c1 : Nat) (w : World) (hr : U rate) (hle : n ≤ cap) (hmax : cap ≤ maxLen) (hle1 : n1 ≤ c1) (hmax1 : c1 ≤ maxLen)
    (hL : ∀ k, k < n → ∃ (b off : Nat) (cs : List Value), A = some ⟨b, off, none⟩ ∧ b < w.heap.size ∧ cellsOk [some .u64, some .i64] cs ∧ ∀ i, i < 2 → w.cell? ⟨b, off + k * 2 + i, none⟩ = cs[i]?)
    (hL1 : ∀ j, j < n1 → ∃ (b off : Nat) (z : Int), A1 = some ⟨b, off, none⟩ ∧ b < w.heap.size ∧ (Lit.int .i64 z).wf = true ∧ w.cell? ⟨b, off + j, none⟩ = some (.int .i64 z)) :
    Calls Try.prog 4 #[.slice A n cap, .int .u64 rate, .slice A1 n1 c1] w fun e w' => e = .returned (.bool true) ∧ Below w.heap.size w w' := by
  obtain ⟨xs, rfl, hok, hC⟩ := P.Cv.samp_list (Nat.le_trans hle hmax) hL
  obtain ⟨cs, rfl, hD⟩ := numsC_list (Nat.le_trans hle1 hmax1) hL1
  exact P.Cv.cleast_any A cap xs rate A1 c1 cs w hr hok hC hle hD hle1
set_option maxRecDepth 100000 in
set_option maxHeartbeats 1000000 in
theorem cleast_lifted (os : Os) (started : os.Started) (H : Type) (enc : TypeId × Value → H) :
    ReturnsInHanded {} Try.checked os 4 .any (Rows.curveLeastSpec.pre6 enc Try.prog Try.f4 Rows.curveLeastRow.domain false) (Rows.curveLeastSpec.post enc Try.prog Try.f4 false true false false) := by
  refine returnsInHanded_of_change_sized (C := Try.checked) Try.own started (by kernel_rfl) Try.func4
    (ChangeSpec.witness6 (enc := enc) (C := Try.checked) false ⟨#[], #[.slice none 0 0, .int .u64 0, .slice none 0 0], []⟩ 8 (by kernel_rfl) (by kernel_rfl) (by kernel_rfl) (by kernel_rfl)) ?_
  intro W base args ds gs before hval0 hW hcnd hsz0 _
  have hsz : (DataW.weightsEach Try.prog (Try.f4.params.toList ++ Rows.curveLeastSpec.plain.varTypes Try.prog) (ds ++ gs)).all (· ≤ reachBytes) = true := hsz0
  have hval : ∀ (j : Nat) t v, Try.f4.params[j]? = some t → args[j]? = some v → Value.okWide Try.prog W .any base t v := hval0
  have hW' := hW
  obtain ⟨p, q, hA0, hV, rfl, hfz, hnd⟩ := hW
  have hA : DataW.TrodAll enc Try.prog W 0 (fun _ => true) true Try.f4.params.toList args.toList ds p := hA0
  have hAk := hA
  rw [Try.params4] at hA hval hsz
  obtain ⟨v0, vs0, d0, ds0, p0, q0, hargs, rfl, rfl, h0, r0⟩ := trodAll_cons hA
  obtain ⟨v1, vs1, d1, ds1, p1, q1, rfl, rfl, rfl, h1, r1⟩ := trodAll_cons r0
  obtain ⟨v2, vs2, d2, ds2, p2, q2, rfl, rfl, rfl, h2, r2⟩ := trodAll_cons r1
  obtain ⟨rfl, rfl, rfl⟩ := trodAll_nil r2
  obtain rfl : args = #[v0, v1, v2] := by simpa using congrArg List.toArray hargs
  obtain ⟨rfl, rfl⟩ := trodVars_none hV
  have hs0 := hsz
  obtain ⟨ao0, n0, cap0, rfl, hle0, hmax0, hL0⟩ := open_structs Try.underlying22 Try.underlying68 (by kernel_rfl) (ks := [some .u64, some .i64]) (by kernel_rfl) (c := 2) (by kernel_rfl) rfl (by decide) (hval 0 22 v0 rfl rfl) h0
  have hz0 := len_sized hs0 (j := 0) rfl rfl Try.underlying22 rfl h0
  obtain ⟨r, rfl, rfl, rfl, wfr⟩ := open_int Try.underlying23 (hval 1 23 v1 rfl rfl) h1
  have wr : U r := U_wf wfr
  obtain ⟨ao2, n2, cap2, rfl, hle2, hmax2, hL2⟩ := open_nums Try.underlying33 Try.underlying3 (by kernel_rfl) (hval 2 33 v2 rfl rfl) h2
  have hz2 := len_sized hsz (j := 2) rfl rfl Try.underlying33 rfl h2
  clear hA0 hval0 hsz0 hsz
  simp only [List.append_nil] at hW' hAk
  refine (cleast_at ao0 n0 cap0 r ao2 n2 cap2 W wr hle0 hmax0 hle2 hmax2 hL0 hL2).mono fun e W' ⟨he, hb⟩ => ?_
  subst he
  exact ⟨_, rfl, law_post Try.laidOut (by kernel_rfl) rfl Try.underlying4 rfl hW' hAk rfl hb⟩

/-- The law CurveLeast answers true, whatever the input. Condition: none. -/
theorem curveLeast_holds : Rows.CurveLeastSaid :=
  OpenClaim.holds_of_wide 4 Try.f4 rfl rfl rfl rfl rfl rfl rfl ⟨rfl, rfl, rfl, rfl, rfl⟩ rfl rfl rfl rfl rfl (by kernel_rfl) Try.func4 (by kernel_rfl)
    (of_decide_eq_true (by kernel_rfl)) (by unfold Func.isWrapper; rw [if_neg (of_decide_eq_false (by kernel_rfl))]; exact ⟨rfl, rfl⟩)
    (fun os started H enc _ => cleast_lifted os started H enc)
end Go.Proofs.Ytiaoaoebghnpkaa
