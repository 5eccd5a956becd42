/- The law WholePainted answers true, whatever the input. Condition: none. -/
import Derived.Test.YtkefamalcmglgaaRows
import Derived.Test.YtkefamalcmglgaaEqual
namespace Go.Proofs.Ytkefamalcmglgaa.P
open Go.ChangeShapes Go.WideShapes Go.ChangeAt Go.RowKit Go.Proofs.YtkefamalcmglgaaW.PrintWords Go.Proofs.YtkefamalcmglgaaW.PrintLast

theorem ints_C {w : World} {g : Nat} {l : List Int} (h : Blk w g 3 (ints l)) (hl : l.length ≤ 1000) : Kd.C (Kd.int .i64) w (some ⟨g, 0, none⟩) l.length l :=
  Kd.C_of_reads (d := (0 : Int)) ⟨rfl, by omega, fun _ => ⟨⟨g, 0, none⟩, rfl, fun j hj => by
    rw [add_mk, Nat.zero_add, h.cell j]
    unfold ints
    rw [List.getElem?_toArray, List.getElem?_map, List.getElem?_eq_getElem hj, List.getD_eq_getElem?_getD, List.getElem?_eq_getElem hj]
    rfl⟩⟩
theorem ovr_self (l : List Int) : ovr l.length l = l := by unfold ovr; simp

theorem chkM_ok {k r p b x : Int} (h : chkM k r p b x = 0) : b ≤ 4294967296 ∧ x ≤ 4294967296 := by
  unfold chkM at h
  split at h
  · exact chkD_ok h
  · obtain ⟨_, _, _, h1, h2⟩ := chkS_ok h
    exact ⟨h1, h2⟩
theorem colV_of {c : Int} (h0 : 0 ≤ c) (h1 : c ≤ 2) : colV true c = c := by
  unfold colV
  rw [if_pos rfl, if_neg (by omega)]
/-- A run of a meter that may be: its colours. -/
theorem run_cols {k : Int} {a : Bool} {r p b x : Int} {xs : List (Int × Int)} {pre : List Int} (hr : U r) (hp : U p) (hb : U b) (hx : U x) (hc : chkM k r p b x = 0) (hxs : ∀ p ∈ xs, okS p) :
    ∃ r0 r1 r2 r3 out, mrun k a r p b x xs (ovr xs.length pre) (b * 1000000000) (x * 1000000000) 0 false xs.length = some ((r0, r1, r2, r3), out) ∧ out.length = xs.length ∧ ∀ j, j < xs.length → 0 ≤ out.getD j 0 ∧ out.getD j 0 ≤ 2 ∧ colV a ((ovr xs.length pre).getD j 0) ≤ out.getD j 0 := by
  obtain ⟨kb, kx⟩ := chkM_ok hc
  obtain ⟨⟨⟨r0, r1, r2, r3⟩, out⟩, e, _, _, _, hl, hlo, _⟩ := mrun_some (k := k) (a := a) (s3 := false) hr hp hb hx (nano_in hb kb).2.1 (nano_in hx kx).2.1 U_zero hxs (ovr_length xs.length pre) xs.length (Nat.le_refl _)
  exact ⟨r0, r1, r2, r3, out, e, hl, hlo⟩

set_option maxRecDepth 100000 in
set_option maxHeartbeats 1000000 in
theorem painted_any (m0 : Int) (m1 : Bool) (m2 m3 m4 m5 : Int) (k0 : Int) (k1 : Bool) (k2 k3 k4 k5 : Int) (A : Option Addr) (cap : Nat) (xs : List (Int × Int)) (w : World) (um2 : U m2) (um3 : U m3) (um4 : U m4) (um5 : U m5) (uk2 : U k2) (uk3 : U k3) (uk4 : U k4) (uk5 : U k5) (hxs : ∀ p ∈ xs, okS p) (hL : rowsP w A xs) (hle : xs.length ≤ cap) :
    Calls Try.prog 11 #[.agg #[.int .i64 m0, .bool m1, .int .u64 m2, .int .u64 m3, .int .u64 m4, .int .u64 m5], .agg #[.int .i64 k0, .bool k1, .int .u64 k2, .int .u64 k3, .int .u64 k4, .int .u64 k5], .slice A xs.length cap] w fun e w' => e = .returned (.bool true) ∧ Below w.heap.size w w' := by
  have HL := Lib.hid hL
  clear hL
  go_enter Try.func11, Try.ntmps11
  go_upto_if 14 with fail
  have m := (Blk.new w 24 #[.int .i64 m0, .bool m1, .int .u64 m2, .int .u64 m3, .int .u64 m4, .int .u64 m5]).alloc (.cells #[.int .i64 k0, .bool k1, .int .u64 k2, .int .u64 k3, .int .u64 k4, .int .u64 k5] 24)
  have k : Blk ((w.alloc (.cells #[.int .i64 m0, .bool m1, .int .u64 m2, .int .u64 m3, .int .u64 m4, .int .u64 m5] 24)).alloc (.cells #[.int .i64 k0, .bool k1, .int .u64 k2, .int .u64 k3, .int .u64 k4, .int .u64 k5] 24)) (w.heap.size + 1) 24 #[.int .i64 k0, .bool k1, .int .u64 k2, .int .u64 k3, .int .u64 k4, .int .u64 k5] := by
    have h := Blk.new (w.alloc (.cells #[.int .i64 m0, .bool m1, .int .u64 m2, .int .u64 m3, .int .u64 m4, .int .u64 m5] 24)) 24 #[.int .i64 k0, .bool k1, .int .u64 k2, .int .u64 k3, .int .u64 k4, .int .u64 k5]
    simpa only [World.size_alloc] using h
  have nB : Below w.heap.size w ((w.alloc (.cells #[.int .i64 m0, .bool m1, .int .u64 m2, .int .u64 m3, .int .u64 m4, .int .u64 m5] 24)).alloc (.cells #[.int .i64 k0, .bool k1, .int .u64 k2, .int .u64 k3, .int .u64 k4, .int .u64 k5] 24)) := by go_grown
  generalize (w.alloc (.cells #[.int .i64 m0, .bool m1, .int .u64 m2, .int .u64 m3, .int .u64 m4, .int .u64 m5] 24)).alloc (.cells #[.int .i64 k0, .bool k1, .int .u64 k2, .int .u64 k3, .int .u64 k4, .int .u64 k5] 24) = W2 at *
  go_cut [2] from 12 to 16 (fun v wx => ∃ ys : List (Int × Int), v = .slice A ys.length cap ∧ ys.length ≤ 100 ∧ Hid (∀ p ∈ ys, okS p) ∧ Hid (rowsP w A ys) ∧ wx = W2)
  case first =>
    by_cases h : xs.length ≤ 100
    · have h2 : ¬ (xs.length : Int) > 100 := by omega
      go_wp2_with fail
      go_meet
      exact ⟨xs, rfl, h, hxs, HL.out, rfl⟩
    · have h2 : (xs.length : Int) > 100 := by omega
      have h3 : 100 ≤ cap := by omega
      obtain ⟨bb, off, hA, _⟩ := HL.out 0 (by omega)
      subst hA
      have hl : (xs.take 100).length = 100 := by rw [List.length_take]; omega
      go_wp2_with fail
      go_meet
      exact ⟨xs.take 100, by rw [hl], by omega, fun p hp => hxs p (List.mem_of_mem_take hp), rowsP_take HL.out 100, rfl⟩
  case rest =>
    obtain ⟨ys, rfl, hlen, HY, HR, rfl⟩ := hcut
    clear hle hxs HL
    have e1 := mcheck_eq m0 m1 m2 m3 m4 m5 um4 um5
    have e2 := mcheck_eq k0 true k2 k3 k4 k5 uk4 uk5
    have e3 : meter_Check.f 0 false 0 0 0 0 = some 10 := by rw [mcheck_eq _ _ _ _ _ _ U_zero U_zero]; rfl
    obtain ⟨v1, hv1⟩ : ∃ v1, v1 = chkM m0 m2 m3 m4 m5 := ⟨_, rfl⟩
    obtain ⟨v2, hv2⟩ : ∃ v2, v2 = chkM k0 k2 k3 k4 k5 := ⟨_, rfl⟩
    rw [← hv1] at e1
    rw [← hv2] at e2
    have C1 := Lib.hid e1
    have C2 := Lib.hid e2
    have C3 := Lib.hid e3
    have V1 := Lib.hid hv1
    have V2 := Lib.hid hv2
    clear e1 e2 e3 hv1 hv2
    have p0 := k.cell 0
    have p1 := k.cell 1
    have p2 := k.cell 2
    have p3 := k.cell 3
    have p4 := k.cell 4
    have p5 := k.cell 5
    have pf0 := k.frozen 0
    have pf1 := k.frozen 1
    have pf2 := k.frozen 2
    have pf3 := k.frozen 3
    have pf4 := k.frozen 4
    have pf5 := k.frozen 5
    simp only [List.getElem?_toArray, List.getElem?_cons_zero, List.getElem?_cons_succ] at p0 p1 p2 p3 p4 p5
    have lk := k.lt
    go_upto_region 4 with fail
    replace k := k.put 1 (.bool true)
    simp only [List.setIfInBounds_toArray, List.set_cons_zero, List.set_cons_succ] at k
    replace m := m.far (p := ⟨w.heap.size + 1, 1, none⟩) (by simp) (.bool true)
    replace nB := nB.setCell (p := ⟨w.heap.size + 1, 1, none⟩) (by simp) (.bool true)
    generalize wc.setCell ⟨w.heap.size + 1, 1, none⟩ (.bool true) = W3 at *
    clear p0 pf0 p1 pf1 p2 pf2 p3 pf3 p4 pf4 p5 pf5
    clear lk
    have p0 := m.cell 0
    have p1 := m.cell 1
    have p2 := m.cell 2
    have p3 := m.cell 3
    have p4 := m.cell 4
    have p5 := m.cell 5
    have pf0 := m.frozen 0
    have pf1 := m.frozen 1
    have pf2 := m.frozen 2
    have pf3 := m.frozen 3
    have pf4 := m.frozen 4
    have pf5 := m.frozen 5
    simp only [List.getElem?_toArray, List.getElem?_cons_zero, List.getElem?_cons_succ] at p0 p1 p2 p3 p4 p5
    go_wp2_with fail
    refine (meter_Check.calls _ _ _ _ _ _ _ _ C1.out).mono ?_
    rintro e W4 ⟨rfl, hW4⟩
    clear p0 pf0 p1 pf1 p2 pf2 p3 pf3 p4 pf4 p5 pf5
    replace m := m.step hW4
    replace k := k.step hW4
    replace nB := below_of nB hW4
    clear hW4
    by_cases h1 : v1 = 0
    · have h1' : (v1 != 0) = false := by simp [h1]
      have p0 := k.cell 0
      have p1 := k.cell 1
      have p2 := k.cell 2
      have p3 := k.cell 3
      have p4 := k.cell 4
      have p5 := k.cell 5
      have pf0 := k.frozen 0
      have pf1 := k.frozen 1
      have pf2 := k.frozen 2
      have pf3 := k.frozen 3
      have pf4 := k.frozen 4
      have pf5 := k.frozen 5
      simp only [List.getElem?_toArray, List.getElem?_cons_zero, List.getElem?_cons_succ] at p0 p1 p2 p3 p4 p5
      go_wp2_with fail
      refine (meter_Check.calls _ _ _ _ _ _ _ _ C2.out).mono ?_
      rintro e W5 ⟨rfl, hW5⟩
      clear p0 pf0 p1 pf1 p2 pf2 p3 pf3 p4 pf4 p5 pf5
      replace m := m.step hW5
      replace k := k.step hW5
      replace nB := below_of nB hW5
      clear hW5
      by_cases h2 : v2 = 0
      · have h2' : (v2 != 0) = false := by simp [h2]
        have K1 : chkM m0 m2 m3 m4 m5 = 0 := V1.out.symm.trans h1
        have K2 : chkM k0 k2 k3 k4 k5 = 0 := V2.out.symm.trans h2
        obtain ⟨a0, a1, a2, a3, l1, g1, hl1, hc1⟩ := run_cols (a := m1) (pre := []) um2 um3 um4 um5 K1 HY.out
        obtain ⟨b0, b1, b2, b3, l2, g2, hl2, hc2⟩ := run_cols (a := true) (pre := l1) uk2 uk3 uk4 uk5 K2 HY.out
        have hfin : ∀ j, j < ys.length → ¬ l2.getD j 0 < l1.getD j 0 ∧ ¬ l2.getD j 0 > 2 := fun j hj => by
          obtain ⟨p0, p1, _⟩ := hc1 j hj
          obtain ⟨_, q1, q2⟩ := hc2 j hj
          rw [← hl1, ovr_self, colV_of p0 p1] at q2
          omega
        have HF := Lib.hid hfin
        have G1 := Lib.hid g1
        have G2 := Lib.hid g2
        have K1 := Lib.hid K1
        have K2 := Lib.hid K2
        clear hfin g1 g2 hc1 hc2
        go_upto_region 6 with fail
        have p0 := m.cell 0
        have p1 := m.cell 1
        have p2 := m.cell 2
        have p3 := m.cell 3
        have p4 := m.cell 4
        have p5 := m.cell 5
        have pf0 := m.frozen 0
        have pf1 := m.frozen 1
        have pf2 := m.frozen 2
        have pf3 := m.frozen 3
        have pf4 := m.frozen 4
        have pf5 := m.frozen 5
        simp only [List.getElem?_toArray, List.getElem?_cons_zero, List.getElem?_cons_succ] at p0 p1 p2 p3 p4 p5
        go_wp2_with fail
        refine (run_any m0 m1 m2 m3 m4 m5 A cap ys none 0 [] a0 a1 a2 a3 l1 _ um4 um5 K1.out G1.out (by omega) (rowsP_below HR.out nB) (nil_C _)).mono ?_
        rintro e W6 ⟨g6, rfl, hh6, r1, hW6⟩
        clear p0 pf0 p1 pf1 p2 pf2 p3 pf3 p4 pf4 p5 pf5
        have k_r1 := Nat.le_trans nB.size hh6
        clear hh6
        replace k := k.step hW6
        replace nB := below_of nB hW6
        clear hW6
        go_upto_region 7 with fail
        have lk := k.lt
        replace r1 := r1.alloc (.cells #[.int .u64 a0, .int .u64 a1, .int .u64 a2, .bool a3] 26)
        replace k := k.alloc (.cells #[.int .u64 a0, .int .u64 a1, .int .u64 a2, .bool a3] 26)
        replace nB := nB.alloc nB.size (.cells #[.int .u64 a0, .int .u64 a1, .int .u64 a2, .bool a3] 26)
        generalize W6.alloc (.cells #[.int .u64 a0, .int .u64 a1, .int .u64 a2, .bool a3] 26) = W7 at *
        have p0 := k.cell 0
        have p1 := k.cell 1
        have p2 := k.cell 2
        have p3 := k.cell 3
        have p4 := k.cell 4
        have p5 := k.cell 5
        have pf0 := k.frozen 0
        have pf1 := k.frozen 1
        have pf2 := k.frozen 2
        have pf3 := k.frozen 3
        have pf4 := k.frozen 4
        have pf5 := k.frozen 5
        simp only [List.getElem?_toArray, List.getElem?_cons_zero, List.getElem?_cons_succ] at p0 p1 p2 p3 p4 p5
        go_wp2_with fail
        have hrun := run_any k0 true k2 k3 k4 k5 A cap ys (some ⟨g6, 0, none⟩) ys.length l1 b0 b1 b2 b3 l2 W7 uk4 uk5 K2.out G2.out (by omega) (rowsP_below HR.out nB) (ints_C r1 (by omega))
        rw [hl1] at hrun
        refine hrun.mono ?_
        clear hrun
        rintro e W8 ⟨g8, rfl, hh8, r2, hW8⟩
        clear p0 pf0 p1 pf1 p2 pf2 p3 pf3 p4 pf4 p5 pf5
        clear hh8 k
        replace r1 := r1.step hW8
        replace nB := below_of nB hW8
        clear hW8
        have hbn : ((ys.length : Int) != (ys.length : Int)) = false := by simp
        go_wp2_with fail
        have lr1 := r1.lt
        have lr2 := r2.lt
        replace r1 := r1.alloc (.cells #[.int .u64 b0, .int .u64 b1, .int .u64 b2, .bool b3] 26)
        replace r2 := r2.alloc (.cells #[.int .u64 b0, .int .u64 b1, .int .u64 b2, .bool b3] 26)
        replace nB := nB.alloc nB.size (.cells #[.int .u64 b0, .int .u64 b1, .int .u64 b2, .bool b3] 26)
        generalize W8.alloc (.cells #[.int .u64 b0, .int .u64 b1, .int .u64 b2, .bool b3] 26) = W9 at *
        have R1 := Lib.hid r1
        have R2 := Lib.hid r2
        have NB := Lib.hid nB
        clear r1 r2 nB
        go_loopw [11] (fun iv wr => ∃ k : Nat, k ≤ ys.length ∧ iv = .int .i64 k ∧ Hid (Blk wr g6 3 (ints l1)) ∧ Hid (Blk wr g8 3 (ints l2)) ∧ Hid (Below w.heap.size w wr)) (fun iv _ => ((ys.length : Int) - intOf iv).toNat)
        case atStart => exact ⟨0, by omega, rfl, R1.out, R2.out, NB.out⟩
        case round =>
          obtain ⟨k, hk, rfl, E1, E2, EB⟩ := hrel
          by_cases hlt : k < ys.length
          · have h2 : (k : Int) < (ys.length : Int) := by omega
            obtain ⟨c, hc⟩ : ∃ c, c = l1.getD k 0 := ⟨_, rfl⟩
            obtain ⟨d, hd⟩ : ∃ d, d = l2.getD k 0 := ⟨_, rfl⟩
            obtain ⟨f1, f2⟩ := HF.out k hlt
            rw [← hc, ← hd] at f1
            rw [← hd] at f2
            have hg1 : (ints l1)[k]? = some (.int .i64 c) := by
              unfold ints
              rw [List.getElem?_toArray, List.getElem?_map, hc, List.getD_eq_getElem?_getD, List.getElem?_eq_getElem (by omega)]
              rfl
            have hg2 : (ints l2)[k]? = some (.int .i64 d) := by
              unfold ints
              rw [List.getElem?_toArray, List.getElem?_map, hd, List.getD_eq_getElem?_getD, List.getElem?_eq_getElem (by omega)]
              rfl
            have q1 := (E1.out.cell k).trans hg1
            have q2 := (E2.out.cell k).trans hg2
            have q3 := E1.out.lt
            have q4 := E2.out.lt
            have q5 : decide (d < c) = false := decide_eq_false (by omega)
            have q6 : decide (2 < d) = false := decide_eq_false (by omega)
            clear hg1 hg2 hc hd f1 f2
            go_wp2_with fail
            go_region
            all_goals
              go_wp2_with fail
              exact ⟨⟨k + 1, by omega, rfl, E1.out.drew, E2.out.drew, EB.out.drew⟩, by first | (simp [intOf]; done) | (simp [intOf]; omega)⟩
          · obtain rfl : k = ys.length := by omega
            go_wp2_with fail
            refine (meter_Check.calls _ _ _ _ _ _ _ _ C3.out).mono ?_
            rintro e W10 ⟨rfl, hW10⟩
            have nB := below_of EB.out hW10
            go_wp2_with fail
            go_returns
            exact ⟨rfl, nB⟩
      · have h2' : (v2 != 0) = true := by simp [h2]
        go_wp2_with fail
        refine (meter_Check.calls _ _ _ _ _ _ _ _ C3.out).mono ?_
        rintro e W6 ⟨rfl, hW6⟩
        replace nB := below_of nB hW6
        go_wp2_with fail
        go_returns
        exact ⟨rfl, nB⟩
    · have h1' : (v1 != 0) = true := by simp [h1]
      go_wp2_with fail
      refine (meter_Check.calls _ _ _ _ _ _ _ _ C3.out).mono ?_
      rintro e W6 ⟨rfl, hW6⟩
      replace nB := below_of nB hW6
      go_wp2_with fail
      go_returns
      exact ⟨rfl, nB⟩
end Go.Proofs.Ytkefamalcmglgaa.P
namespace Go.Proofs.Ytkefamalcmglgaa
open Go.ChangeShapes Go.WideShapes Go.ChangeAt Go.RowKit
theorem painted_at (m0 : Int) (m1 : Bool) (m2 m3 m4 m5 : Int) (k0 : Int) (k1 : Bool) (k2 k3 k4 k5 : Int) (A : Option Addr) (n cap : Nat) (w : World) (um2 : U m2) (um3 : U m3) (um4 : U m4) (um5 : U m5) (uk2 : U k2) (uk3 : U k3) (uk4 : U k4) (uk5 : U k5) (hle : n ≤ cap)
    (hL : ∀ k, k < n → ∃ (b off : Nat) (cs : List Value), A = some ⟨b, off, none⟩ ∧ b < w.heap.size ∧ cellsOk [some .u64, some .i64] cs ∧ ∀ i, i < 2 → w.cell? ⟨b, off + k * 2 + i, none⟩ = cs[i]?) :
    Calls Try.prog 11 #[.agg #[.int .i64 m0, .bool m1, .int .u64 m2, .int .u64 m3, .int .u64 m4, .int .u64 m5], .agg #[.int .i64 k0, .bool k1, .int .u64 k2, .int .u64 k3, .int .u64 k4, .int .u64 k5], .slice A n cap] w fun e w' => e = .returned (.bool true) ∧ Below w.heap.size w w' := by
  obtain ⟨xs, rfl, hok, hr⟩ := P.samples_list hL
  exact P.painted_any m0 m1 m2 m3 m4 m5 k0 k1 k2 k3 k4 k5 A cap xs w um2 um3 um4 um5 uk2 uk3 uk4 uk5 hok hr hle
set_option maxRecDepth 100000 in
set_option maxHeartbeats 1000000 in
theorem painted_lifted (os : Os) (started : os.Started) (H : Type) (enc : TypeId × Value → H) :
    ReturnsInHanded {} Try.checked os 11 .any (Rows.wholePaintedSpec.pre6 enc Try.prog Try.f11 Rows.wholePaintedRow.domain false) (Rows.wholePaintedSpec.post enc Try.prog Try.f11 false true false false) := by
  refine returnsInHanded_of_change_sized (C := Try.checked) Try.own started (by kernel_rfl) Try.func11
    (ChangeSpec.witness6 (enc := enc) (C := Try.checked) false ⟨#[], #[.agg #[.int .i64 0, .bool false, .int .u64 0, .int .u64 0, .int .u64 0, .int .u64 0], .agg #[.int .i64 0, .bool false, .int .u64 0, .int .u64 0, .int .u64 0, .int .u64 0], .slice none 0 0], []⟩ 8 (by kernel_rfl) (by kernel_rfl) (by kernel_rfl) (by kernel_rfl)) ?_
  intro W base args ds gs before hval0 hW hcnd hsz0 _
  have hsz : (DataW.weightsEach Try.prog (Try.f11.params.toList ++ Rows.wholePaintedSpec.plain.varTypes Try.prog) (ds ++ gs)).all (· ≤ reachBytes) = true := hsz0
  have hval : ∀ (j : Nat) t v, Try.f11.params[j]? = some t → args[j]? = some v → Value.okWide Try.prog W .any base t v := hval0
  have hW' := hW
  obtain ⟨p, q, hA0, hV, rfl, hfz, hnd⟩ := hW
  have hA : DataW.TrodAll enc Try.prog W 0 (fun _ => true) true Try.f11.params.toList args.toList ds p := hA0
  have hAk := hA
  rw [Try.params11] at hA hval hsz
  obtain ⟨v0, vs0, d0, ds0, p0, q0, hargs, rfl, rfl, h0, r0⟩ := trodAll_cons hA
  obtain ⟨v1, vs1, d1, ds1, p1, q1, rfl, rfl, rfl, h1, r1⟩ := trodAll_cons r0
  obtain ⟨v2, vs2, d2, ds2, p2, q2, rfl, rfl, rfl, h2, r2⟩ := trodAll_cons r1
  obtain ⟨rfl, rfl, rfl⟩ := trodAll_nil r2
  obtain rfl : args = #[v0, v1, v2] := by simpa using congrArg List.toArray hargs
  obtain ⟨rfl, rfl⟩ := trodVars_none hV
  obtain ⟨cs0, rfl, hc0⟩ := open_struct Try.underlying24 (by kernel_rfl) (ks := [some .i64, none, some .u64, some .u64, some .u64, some .u64]) (by kernel_rfl) (by kernel_rfl) (hval 0 24 v0 rfl rfl) h0
  obtain ⟨_, _, rfl, ⟨m0, rfl, wfm0⟩, _, _, rfl, ⟨m1, rfl⟩, _, _, rfl, ⟨m2, rfl, wfm2⟩, _, _, rfl, ⟨m3, rfl, wfm3⟩, _, _, rfl, ⟨m4, rfl, wfm4⟩, _, _, rfl, ⟨m5, rfl, wfm5⟩, rfl⟩ := hc0
  have wm0 : I64 m0 := I64_wf wfm0
  have wm2 : U m2 := U_wf wfm2
  have wm3 : U m3 := U_wf wfm3
  have wm4 : U m4 := U_wf wfm4
  have wm5 : U m5 := U_wf wfm5
  obtain ⟨cs1, rfl, hc1⟩ := open_struct Try.underlying24 (by kernel_rfl) (ks := [some .i64, none, some .u64, some .u64, some .u64, some .u64]) (by kernel_rfl) (by kernel_rfl) (hval 1 24 v1 rfl rfl) h1
  obtain ⟨_, _, rfl, ⟨k0, rfl, wfk0⟩, _, _, rfl, ⟨k1, rfl⟩, _, _, rfl, ⟨k2, rfl, wfk2⟩, _, _, rfl, ⟨k3, rfl, wfk3⟩, _, _, rfl, ⟨k4, rfl, wfk4⟩, _, _, rfl, ⟨k5, rfl, wfk5⟩, rfl⟩ := hc1
  have wk0 : I64 k0 := I64_wf wfk0
  have wk2 : U k2 := U_wf wfk2
  have wk3 : U k3 := U_wf wfk3
  have wk4 : U k4 := U_wf wfk4
  have wk5 : U k5 := U_wf wfk5
  have hs2 := hsz
  obtain ⟨ao2, n2, cap2, rfl, hle2, hmax2, hL2⟩ := open_structs Try.underlying45 Try.underlying75 (by kernel_rfl) (ks := [some .u64, some .i64]) (by kernel_rfl) (c := 2) (by kernel_rfl) rfl (by decide) (hval 2 45 v2 rfl rfl) h2
  have hz2 := len_sized hs2 (j := 2) rfl rfl Try.underlying45 rfl h2
  clear hA0 hval0 hsz0 hsz
  simp only [List.append_nil] at hW' hAk
  refine (painted_at m0 m1 m2 m3 m4 m5 k0 k1 k2 k3 k4 k5 ao2 n2 cap2 W wm2 wm3 wm4 wm5 wk2 wk3 wk4 wk5 hle2 hL2).mono fun e W' ⟨he, hb⟩ => ?_
  subst he
  exact ⟨_, rfl, law_post Try.laidOut (by kernel_rfl) rfl Try.underlying4 rfl hW' hAk rfl hb⟩

/-- The law WholePainted answers true, whatever the input. Condition: none. -/
theorem wholePainted_holds : Rows.WholePaintedSaid :=
  OpenClaim.holds_of_wide 11 Try.f11 rfl rfl rfl rfl rfl rfl rfl ⟨rfl, rfl, rfl, rfl, rfl⟩ rfl rfl rfl rfl rfl (by kernel_rfl) Try.func11 (by kernel_rfl)
    (of_decide_eq_true (by kernel_rfl)) (by unfold Func.isWrapper; rw [if_neg (of_decide_eq_false (by kernel_rfl))]; exact ⟨rfl, rfl⟩)
    (fun os started H enc _ => painted_lifted os started H enc)
end Go.Proofs.Ytkefamalcmglgaa
