/- Part of the proof. -/
import Derived.Deep.DeepCutAuto
import Derived.Test.YtiaoaoebghnpkaaRows
import Derived.Test.YtiaoaoebghnpkaaMW6
import Derived.Test.YtiaoaoebghnpkaaMW46
/- The law OutlookPaces answers true, whatever the input. Condition: none. -/
namespace Go.Proofs.Ytiaoaoebghnpkaa.P
open Go.ChangeShapes Go.WideShapes Go.ChangeAt Go.RowKit Go.Proofs.YtiaoaoebghnpkaaW.PrintWords Go.Proofs.YtiaoaoebghnpkaaW.PrintLast Go.Proofs.YtiaoaoebghnpkaaW.PrintMore

/-- Whole numbers that came in, as a list. -/
theorem nums_list {k : IntKind} {w : World} {ao : Option Addr} {n : Nat} (hmax : n ≤ 9223372036854775807)
    (hL : ∀ j, j < n → ∃ (b off : Nat) (z : Int), ao = some ⟨b, off, none⟩ ∧ b < w.heap.size ∧ (Lit.int k z).wf = true ∧ w.cell? ⟨b, off + j, none⟩ = some (.int k z)) :
    ∃ l : List Int, l.length = n ∧ (∀ z ∈ l, (Lit.int k z).wf = true) ∧ Kd.C (Kd.int k) w ao n l := by
  obtain ⟨l, hl, hx⟩ := list_of (R := fun j (z : Int) => (Lit.int k z).wf = true ∧ ∃ b off, ao = some ⟨b, off, none⟩ ∧ w.cell? ⟨b, off + j, none⟩ = some (.int k z)) n fun j hj => by
    obtain ⟨b, off, z, hao, _, hw, hc⟩ := hL j hj
    exact ⟨z, hw, b, off, hao, hc⟩
  refine ⟨l, hl, fun z hz => ?_, Kd.C_of_reads (d := (0 : Int)) ⟨hl, hmax, fun hn => ?_⟩⟩
  · obtain ⟨j, hj, rfl⟩ := List.mem_iff_getElem.1 hz
    exact (hx j _ (List.getElem?_eq_getElem hj)).1
  · obtain ⟨b, off, _, hao, _⟩ := hL 0 hn
    refine ⟨⟨b, off, none⟩, hao, fun j hj => ?_⟩
    obtain ⟨_, b', off', hao', hc⟩ := hx j _ (List.getElem?_eq_getElem (by omega))
    rw [hao] at hao'
    obtain ⟨rfl, rfl⟩ : b = b' ∧ off = off' := by simpa using hao'
    rw [add_mk, hc, List.getD_eq_getElem?_getD, List.getElem?_eq_getElem (by omega)]
    rfl
theorem nums_take {k : IntKind} {w : World} {A : Option Addr} {l : List Int} (h : Kd.C (Kd.int k) w A l.length l) (m : Nat) (hm : m ≤ l.length) : Kd.C (Kd.int k) w A m (l.take m) := by
  obtain ⟨h1, h2, h3⟩ := Kd.reads_of_C (d := (0 : Int)) h
  refine Kd.C_of_reads (d := (0 : Int)) ⟨by rw [List.length_take]; omega, by omega, fun hn => ?_⟩
  obtain ⟨ad, rfl, hc⟩ := h3 (by omega)
  refine ⟨ad, rfl, fun j hj => ?_⟩
  rw [hc j (by omega)]
  congr 2
  rw [List.getD_eq_getElem?_getD, List.getD_eq_getElem?_getD, List.getElem?_take, if_pos hj]

set_option maxRecDepth 100000 in
set_option maxHeartbeats 1000000 in
theorem opaces_any (k : Int) (a : Bool) (r p b x : Int) (A : Option Addr) (cap : Nat) (xs : List Int) (want : Int) (w : World) (hb : U b) (hx : U x) (hr : U r) (hp : U p) (hxs : ∀ z ∈ xs, I64 z) (hC : Kd.C (Kd.int .i64) w A xs.length xs) (hle : xs.length ≤ cap) :
    Calls Try.prog 7 #[.agg #[.int .i64 k, .bool a, .int .u64 r, .int .u64 p, .int .u64 b, .int .u64 x], .slice A xs.length cap, .int .i64 want] w fun e w' => e = .returned (.bool true) ∧ Below w.heap.size w w' := by
  have HC := Lib.hid hC
  clear hC
  go_enter Try.func7, Try.ntmps7
  go_upto_if 13 with fail
  have m := Blk.new w 49 #[.int .i64 k, .bool a, .int .u64 r, .int .u64 p, .int .u64 b, .int .u64 x]
  have nB : Below w.heap.size w (w.alloc (.cells #[.int .i64 k, .bool a, .int .u64 r, .int .u64 p, .int .u64 b, .int .u64 x] 49)) := by go_grown
  generalize w.alloc (.cells #[.int .i64 k, .bool a, .int .u64 r, .int .u64 p, .int .u64 b, .int .u64 x] 49) = W2 at *
  go_cut [1] from 11 to 15 (fun v wx => ∃ ys : List Int, v = .slice A ys.length cap ∧ ys.length ≤ 12 ∧ ys.length ≤ cap ∧ Hid (∀ z ∈ ys, I64 z) ∧ Hid (Kd.C (Kd.int .i64) w A ys.length ys) ∧ wx = W2)
  case first =>
    by_cases h : xs.length ≤ 12
    · have h2 : ¬ (xs.length : Int) > 12 := by omega
      go_wp2_with fail
      go_meet
      exact ⟨xs, rfl, h, hle, hxs, HC.out, rfl⟩
    · have h2 : (xs.length : Int) > 12 := by omega
      have h3 : 12 ≤ cap := by omega
      obtain ⟨_, _, hA⟩ := Kd.reads_of_C (d := (0 : Int)) HC.out
      obtain ⟨ad, rfl, _⟩ := hA (by omega)
      have hl : (xs.take 12).length = 12 := by rw [List.length_take]; omega
      go_wp2_with fail
      go_meet
      exact ⟨xs.take 12, by rw [hl], by omega, by omega, fun p hp => hxs p (List.mem_of_mem_take hp), by rw [hl]; exact nums_take HC.out 12 (by omega), rfl⟩
  case rest =>
    obtain ⟨ys, rfl, hlen, hcap, HY, HR, rfl⟩ := hcut
    clear hle hxs HC
    obtain ⟨l, r2, r3, hv⟩ : ∃ l r2 r3, paceV k a r p b x want ys = (l, r2, r3) := ⟨_, _, _, rfl⟩
    obtain ⟨K1, g1⟩ := pace_eq (k := k) (a := a) (want := want) hb hx hr hp HY.out (by omega)
    obtain ⟨K2, g2⟩ := rpace_eq (k := k) (a := a) (want := want) hb hx hr hp HY.out (by omega)
    have hll : l.length ≤ 12 := by
      have e : l = (paceV k a r p b x want ys).1 := by rw [hv]
      rw [e]
      unfold paceV
      split
      · exact Nat.zero_le _
      · split
        · exact Nat.zero_le _
        · refine Nat.le_trans (paceL_length _ _ _ _ _ _ _) ?_
          simpa using hlen
    obtain ⟨K3, g3⟩ := same25_ev l (by omega)
    obtain ⟨K4, g4⟩ := live30_ev
    dsimp only at g1 g2 g3
    rw [hv] at g1 g2
    have G1 := Lib.hid (g1 K1 (Nat.le_refl _))
    have G2 := Lib.hid (g2 K2 (Nat.le_refl _))
    have G3 := Lib.hid (g3 K3 (Nat.le_refl _))
    have G4 := Lib.hid (g4 K4 (Nat.le_refl _))
    clear g1 g2 g3 g4 hv
    go_upto_region 3 with fail
    have p0 := m.cell 0
    have p1 := m.cell 1
    have p2 := m.cell 2
    have p3 := m.cell 3
    have p4 := m.cell 4
    have p5 := m.cell 5
    have pf0 := m.frozen 0
    have pf1 := m.frozen 1
    have pf2 := m.frozen 2
    have pf3 := m.frozen 3
    have pf4 := m.frozen 4
    have pf5 := m.frozen 5
    simp only [List.getElem?_toArray, List.getElem?_cons_zero, List.getElem?_cons_succ] at p0 p1 p2 p3 p4 p5
    go_wp2_with fail
    refine (outlook_Pace.calls K1 _ _ _ _ _ _ _ _ _ _ _ _ _ _ (Kd.C_below HR.out nB) hcap G1.out).mono ?_
    rintro e W3 ⟨v1, rfl, hR1, hW3⟩
    obtain ⟨A1, c1, rfl, hc1, hC1⟩ := Kd.R_reads hR1
    clear p0 pf0 p1 pf1 p2 pf2 p3 pf3 p4 pf4 p5 pf5
    replace m := m.step hW3
    replace nB := below_of nB hW3
    clear hW3
    go_upto_region 4 with fail
    have f1 := Blk.new W3 26 #[.int .i64 r2, .int .i64 r3]
    replace m := m.alloc (.cells #[.int .i64 r2, .int .i64 r3] 26)
    replace hC1 := Kd.C_below hC1 ((Below.refl W3.heap.size W3).alloc (Nat.le_refl _) (.cells #[.int .i64 r2, .int .i64 r3] 26))
    replace nB := nB.alloc nB.size (.cells #[.int .i64 r2, .int .i64 r3] 26)
    clear hR1
    generalize W3.alloc (.cells #[.int .i64 r2, .int .i64 r3] 26) = W4 at *
    generalize W3.heap.size = gf at *
    have p0 := m.cell 0
    have p1 := m.cell 1
    have p2 := m.cell 2
    have p3 := m.cell 3
    have p4 := m.cell 4
    have p5 := m.cell 5
    have pf0 := m.frozen 0
    have pf1 := m.frozen 1
    have pf2 := m.frozen 2
    have pf3 := m.frozen 3
    have pf4 := m.frozen 4
    have pf5 := m.frozen 5
    simp only [List.getElem?_toArray, List.getElem?_cons_zero, List.getElem?_cons_succ] at p0 p1 p2 p3 p4 p5
    go_wp2_with fail
    refine (weighbridgeref30_Pace.calls K2 _ _ _ _ _ _ _ _ _ _ _ _ _ _ (Kd.C_below HR.out nB) hcap G2.out).mono ?_
    rintro e W5 ⟨v2, rfl, hR2, hW5⟩
    obtain ⟨A2, c2, rfl, hc2, hC2⟩ := Kd.R_reads hR2
    clear p0 pf0 p1 pf1 p2 pf2 p3 pf3 p4 pf4 p5 pf5
    have lf1 := f1.lt
    replace hC1 := Kd.C_below hC1 hW5
    clear hR2
    replace f1 := f1.step hW5
    replace nB := below_of nB hW5
    clear hW5
    go_upto_region 5 with fail
    have lf1' := f1.lt
    have f2 := Blk.new W5 26 #[.int .i64 r2, .int .i64 r3]
    replace f1 := f1.alloc (.cells #[.int .i64 r2, .int .i64 r3] 26)
    replace hC1 := Kd.C_below hC1 ((Below.refl W5.heap.size W5).alloc (Nat.le_refl _) (.cells #[.int .i64 r2, .int .i64 r3] 26))
    replace hC2 := Kd.C_below hC2 ((Below.refl W5.heap.size W5).alloc (Nat.le_refl _) (.cells #[.int .i64 r2, .int .i64 r3] 26))
    replace nB := nB.alloc nB.size (.cells #[.int .i64 r2, .int .i64 r3] 26)
    generalize W5.alloc (.cells #[.int .i64 r2, .int .i64 r3] 26) = W6 at *
    generalize W5.heap.size = gg at *
    go_wp2_with fail
    refine (weighbridgelaw30_live.calls K4 _ _ G4.out).mono ?_
    rintro e W7 ⟨rfl, hW7⟩
    replace hC1 := Kd.C_below hC1 hW7
    replace hC2 := Kd.C_below hC2 hW7
    replace f1 := f1.step hW7
    replace f2 := f2.step hW7
    replace nB := below_of nB hW7
    clear hW7
    go_wp2_with fail
    refine (weighbridgeref25_Same.calls K3 _ _ _ _ _ _ _ _ hC1 hc1 hC2 hc2 G3.out).mono ?_
    rintro e W8 ⟨rfl, hW8⟩
    clear hC1 hC2
    replace f1 := f1.step hW8
    replace f2 := f2.step hW8
    replace nB := below_of nB hW8
    clear hW8
    have q0 := f1.cell 0
    have q1 := f1.cell 1
    have qf0 := f1.frozen 0
    have qf1 := f1.frozen 1
    simp only [List.getElem?_toArray, List.getElem?_cons_zero, List.getElem?_cons_succ] at q0 q1
    have p0 := f2.cell 0
    have p1 := f2.cell 1
    have pf0 := f2.frozen 0
    have pf1 := f2.frozen 1
    simp only [List.getElem?_toArray, List.getElem?_cons_zero, List.getElem?_cons_succ] at p0 p1
    go_wp2_with fail
    go_returns
    exact ⟨by simp, nB⟩
end Go.Proofs.Ytiaoaoebghnpkaa.P
namespace Go.Proofs.Ytiaoaoebghnpkaa
open Go.ChangeShapes Go.WideShapes Go.ChangeAt Go.RowKit
theorem opaces_at (k : Int) (a : Bool) (r p b x : Int) (A : Option Addr) (n cap : Nat) (want : Int) (w : World) (hb : U b) (hx : U x) (hr : U r) (hp : U p) (hle : n ≤ cap) (hmax : cap ≤ maxLen)
    (hL : ∀ j, j < n → ∃ (b off : Nat) (z : Int), A = some ⟨b, off, none⟩ ∧ b < w.heap.size ∧ (Lit.int .i64 z).wf = true ∧ w.cell? ⟨b, off + j, none⟩ = some (.int .i64 z)) :
    Calls Try.prog 7 #[.agg #[.int .i64 k, .bool a, .int .u64 r, .int .u64 p, .int .u64 b, .int .u64 x], .slice A n cap, .int .i64 want] w fun e w' => e = .returned (.bool true) ∧ Below w.heap.size w w' := by
  obtain ⟨l, rfl, hw, hC⟩ := P.nums_list (Nat.le_trans hle hmax) hL
  exact P.opaces_any k a r p b x A cap l want w hb hx hr hp (fun z hz => I64_wf (hw z hz)) hC hle
set_option maxRecDepth 100000 in
set_option maxHeartbeats 1000000 in
theorem opaces_lifted (os : Os) (started : os.Started) (H : Type) (enc : TypeId × Value → H) :
    ReturnsInHanded {} Try.checked os 7 .any (Rows.outlookPacesSpec.pre6 enc Try.prog Try.f7 Rows.outlookPacesRow.domain false) (Rows.outlookPacesSpec.post enc Try.prog Try.f7 false true false false) := by
  refine returnsInHanded_of_change_sized (C := Try.checked) Try.own started (by kernel_rfl) Try.func7
    (ChangeSpec.witness6 (enc := enc) (C := Try.checked) false ⟨#[], #[.agg #[.int .i64 0, .bool false, .int .u64 0, .int .u64 0, .int .u64 0, .int .u64 0], .slice none 0 0, .int .i64 0], []⟩ 8 (by kernel_rfl) (by kernel_rfl) (by kernel_rfl) (by kernel_rfl)) ?_
  intro W base args ds gs before hval0 hW hcnd hsz0 _
  have hsz : (DataW.weightsEach Try.prog (Try.f7.params.toList ++ Rows.outlookPacesSpec.plain.varTypes Try.prog) (ds ++ gs)).all (· ≤ reachBytes) = true := hsz0
  have hval : ∀ (j : Nat) t v, Try.f7.params[j]? = some t → args[j]? = some v → Value.okWide Try.prog W .any base t v := hval0
  have hW' := hW
  obtain ⟨p, q, hA0, hV, rfl, hfz, hnd⟩ := hW
  have hA : DataW.TrodAll enc Try.prog W 0 (fun _ => true) true Try.f7.params.toList args.toList ds p := hA0
  have hAk := hA
  rw [Try.params7] at hA hval hsz
  obtain ⟨v0, vs0, d0, ds0, p0, q0, hargs, rfl, rfl, h0, r0⟩ := trodAll_cons hA
  obtain ⟨v1, vs1, d1, ds1, p1, q1, rfl, rfl, rfl, h1, r1⟩ := trodAll_cons r0
  obtain ⟨v2, vs2, d2, ds2, p2, q2, rfl, rfl, rfl, h2, r2⟩ := trodAll_cons r1
  obtain ⟨rfl, rfl, rfl⟩ := trodAll_nil r2
  obtain rfl : args = #[v0, v1, v2] := by simpa using congrArg List.toArray hargs
  obtain ⟨rfl, rfl⟩ := trodVars_none hV
  obtain ⟨cs0, rfl, hc0⟩ := open_struct Try.underlying49 (by kernel_rfl) (ks := [some .i64, none, some .u64, some .u64, some .u64, some .u64]) (by kernel_rfl) (by kernel_rfl) (hval 0 49 v0 rfl rfl) h0
  obtain ⟨_, _, rfl, ⟨m0, rfl, wfm0⟩, _, _, rfl, ⟨m1, rfl⟩, _, _, rfl, ⟨m2, rfl, wfm2⟩, _, _, rfl, ⟨m3, rfl, wfm3⟩, _, _, rfl, ⟨m4, rfl, wfm4⟩, _, _, rfl, ⟨m5, rfl, wfm5⟩, rfl⟩ := hc0
  have wm0 : I64 m0 := I64_wf wfm0
  have wm2 : U m2 := U_wf wfm2
  have wm3 : U m3 := U_wf wfm3
  have wm4 : U m4 := U_wf wfm4
  have wm5 : U m5 := U_wf wfm5
  obtain ⟨ao1, n1, cap1, rfl, hle1, hmax1, hL1⟩ := open_nums Try.underlying33 Try.underlying3 (by kernel_rfl) (hval 1 33 v1 rfl rfl) h1
  have hz1 := len_sized hsz (j := 1) rfl rfl Try.underlying33 rfl h1
  obtain ⟨z, rfl, rfl, rfl, wfz⟩ := open_int Try.underlying3 (hval 2 3 v2 rfl rfl) h2
  have wz : I64 z := I64_wf wfz
  clear hA0 hval0 hsz0 hsz
  simp only [List.append_nil] at hW' hAk
  refine (opaces_at m0 m1 m2 m3 m4 m5 ao1 n1 cap1 z W wm4 wm5 wm2 wm3 hle1 hmax1 hL1).mono fun e W' ⟨he, hb⟩ => ?_
  subst he
  exact ⟨_, rfl, law_post Try.laidOut (by kernel_rfl) rfl Try.underlying4 rfl hW' hAk rfl hb⟩

/-- The law OutlookPaces answers true, whatever the input. Condition: none. -/
theorem outlookPaces_holds : Rows.OutlookPacesSaid :=
  OpenClaim.holds_of_wide 7 Try.f7 rfl rfl rfl rfl rfl rfl rfl ⟨rfl, rfl, rfl, rfl, rfl⟩ rfl rfl rfl rfl rfl (by kernel_rfl) Try.func7 (by kernel_rfl)
    (of_decide_eq_true (by kernel_rfl)) (by unfold Func.isWrapper; rw [if_neg (of_decide_eq_false (by kernel_rfl))]; exact ⟨rfl, rfl⟩)
    (fun os started H enc _ => opaces_lifted os started H enc)
end Go.Proofs.Ytiaoaoebghnpkaa
