/- Part of the proof. -/
import Derived.Test.YtiaoaoebghnpkaaMT41
/- The outlook laws' examples: they come as they must. -/
namespace Go.Proofs.Ytiaoaoebghnpkaa.P
open Go.RowKit Go.Proofs.YtiaoaoebghnpkaaW.PrintWords Go.Proofs.YtiaoaoebghnpkaaW.PrintLast Go.Proofs.YtiaoaoebghnpkaaW.PrintMore

theorem u_of {x : Int} (h : decide (0 ≤ x ∧ x < 18446744073709551616) = true) : U x := of_decide_eq_true h
theorem lit_C {k : IntKind} {w : World} {g : Nat} {t : TypeId} (l : List Int) (h : Blk w g t (l.map (Value.int k)).toArray) (hl : l.length ≤ 1000) : Kd.C (Kd.int k) w (some ⟨g, 0, none⟩) l.length l :=
  Kd.C_of_reads (d := (0 : Int)) ⟨rfl, by omega, fun _ => ⟨⟨g, 0, none⟩, rfl, fun j hj => by
    have e : (⟨g, 0, none⟩ : Addr).add j = ⟨g, j, none⟩ := by
      unfold Addr.add
      by_cases h : j = 0
      · simp [h]
      · simp [h]
    rw [e, h.cell j, List.getElem?_toArray, List.getElem?_map, List.getElem?_eq_getElem hj, List.getD_eq_getElem?_getD, List.getElem?_eq_getElem hj]
    rfl⟩⟩
def weighbridgelaw30_live.f (_ : Nat) : Option Bool := some true
set_option maxRecDepth 100000 in
set_option maxHeartbeats 4000000 in
theorem live30_any (w : World) : Calls Try.prog 30 #[] w fun e w' => e = .returned (.bool true) ∧ Below w.heap.size w w' := by
  have ul : ∀ size want r1 : Int, ∀ r2 : Bool, I64 size → outWhen 1 1000 0 1500 1000 500000000000 500000000000 7 true size want = (r1, r2) → outlook_When.f 3 1 false 1000 0 1500 1000 500000000000 500000000000 7 true size want = some (r1, r2) := fun size want r1 r2 hs hr => by
    rw [outWhen_eq 0 1 false 1000 0 1500 1000 500000000000 500000000000 7 true size want (u_of rfl) (u_of rfl) (u_of rfl) (u_of rfl) (u_of rfl) (u_of rfl) (u_of rfl) hs, hr]
  have hi : ∀ xs : List Int, (∀ z ∈ xs, z = 1500 ∨ z = 500 ∨ z = 1 ∨ z = 1501) → ∀ z ∈ xs, I64 z := fun xs h z hz => by
    have := h z hz
    unfold I64; omega
  obtain ⟨K1, g1⟩ := pace_eq (k := 1) (a := false) (r := 1000) (p := 0) (b := 1500) (x := 1000) (want := 0) (xs := [1500, 500, 500]) (u_of rfl) (u_of rfl) (u_of rfl) (u_of rfl) (hi _ (by simp)) (by decide)
  obtain ⟨K2, g2⟩ := pace_eq (k := 1) (a := false) (r := 1000) (p := 0) (b := 1500) (x := 1000) (want := 0) (xs := [1, 1501]) (u_of rfl) (u_of rfl) (u_of rfl) (u_of rfl) (hi _ (by simp)) (by decide)
  obtain ⟨K3, g3⟩ := same25_ev [0, 500000000, 1000000000] (by decide)
  have e6 : paceV 1 false 1000 0 1500 1000 0 [1500, 500, 500] = ([0, 500000000, 1000000000], 0, 0) := by decide +kernel
  have e7 : paceV 1 false 1000 0 1500 1000 0 [1, 1501] = ([], 8, 1) := by decide +kernel
  have e8 : outIdle 1 1000 0 1500 1000 500000000000 500000000000 7 true = (1500000007, true) := by decide +kernel
  have h8 := outIdle_eq 1 false 1000 0 1500 1000 500000000000 500000000000 7 true (u_of rfl) (u_of rfl) (u_of rfl) (u_of rfl) (u_of rfl) (u_of rfl) (u_of rfl)
  rw [e8] at h8
  dsimp only at g1 g2 g3
  rw [e6] at g1
  rw [e7] at g2
  have H1 := Lib.hid (ul 1000 0 500000007 true (by unfold I64; omega) (by decide +kernel))
  have H2 := Lib.hid (ul 1000 1 500000007 true (by unfold I64; omega) (by decide +kernel))
  have H3 := Lib.hid (ul 500 1 7 true (by unfold I64; omega) (by decide +kernel))
  have H4 := Lib.hid (ul 1501 1 0 false (by unfold I64; omega) (by decide +kernel))
  have H5 := Lib.hid (ul 9000 2 7 true (by unfold I64; omega) (by decide +kernel))
  have H6 := Lib.hid (g1 K1 (Nat.le_refl _))
  have H7 := Lib.hid (g2 K2 (Nat.le_refl _))
  have H8 := Lib.hid h8
  have H9 := Lib.hid (g3 K3 (Nat.le_refl _))
  clear ul hi g1 g2 g3 e6 e7 e8 h8
  go_enter Try.func30, Try.ntmps30
  go_upto_region 3 with fail
  have nm := (Blk.new w 49 #[.int .i64 1, .bool false, .int .u64 1000, .int .u64 0, .int .u64 1500, .int .u64 1000]).alloc (.cells #[.int .u64 500000000000, .int .u64 500000000000, .int .u64 7, .bool true] 51)
  have ns : Blk ((w.alloc (.cells #[.int .i64 1, .bool false, .int .u64 1000, .int .u64 0, .int .u64 1500, .int .u64 1000] 49)).alloc (.cells #[.int .u64 500000000000, .int .u64 500000000000, .int .u64 7, .bool true] 51)) (w.heap.size + 1) 51 #[.int .u64 500000000000, .int .u64 500000000000, .int .u64 7, .bool true] := by
    have h := Blk.new (w.alloc (.cells #[.int .i64 1, .bool false, .int .u64 1000, .int .u64 0, .int .u64 1500, .int .u64 1000] 49)) 51 #[.int .u64 500000000000, .int .u64 500000000000, .int .u64 7, .bool true]
    simpa only [World.size_alloc] using h
  have nB : Below w.heap.size w ((w.alloc (.cells #[.int .i64 1, .bool false, .int .u64 1000, .int .u64 0, .int .u64 1500, .int .u64 1000] 49)).alloc (.cells #[.int .u64 500000000000, .int .u64 500000000000, .int .u64 7, .bool true] 51)) := by go_grown
  generalize ((w.alloc (.cells #[.int .i64 1, .bool false, .int .u64 1000, .int .u64 0, .int .u64 1500, .int .u64 1000] 49)).alloc (.cells #[.int .u64 500000000000, .int .u64 500000000000, .int .u64 7, .bool true] 51)) = W0 at *
  have p0 := nm.cell 0
  have p1 := nm.cell 1
  have p2 := nm.cell 2
  have p3 := nm.cell 3
  have p4 := nm.cell 4
  have p5 := nm.cell 5
  have pf0 := nm.frozen 0
  have pf1 := nm.frozen 1
  have pf2 := nm.frozen 2
  have pf3 := nm.frozen 3
  have pf4 := nm.frozen 4
  have pf5 := nm.frozen 5
  simp only [List.getElem?_toArray, List.getElem?_cons_zero, List.getElem?_cons_succ] at p0 p1 p2 p3 p4 p5
  have q0 := ns.cell 0
  have q1 := ns.cell 1
  have q2 := ns.cell 2
  have q3 := ns.cell 3
  have qf0 := ns.frozen 0
  have qf1 := ns.frozen 1
  have qf2 := ns.frozen 2
  have qf3 := ns.frozen 3
  simp only [List.getElem?_toArray, List.getElem?_cons_zero, List.getElem?_cons_succ] at q0 q1 q2 q3
  go_wp2_with fail
  refine (outlook_When.calls 3 _ _ _ _ _ _ _ _ _ _ _ _ 500000007 true _ H1.out).mono ?_
  rintro e V1 ⟨rfl, hV1⟩
  clear p0 pf0 p1 pf1 p2 pf2 p3 pf3 p4 pf4 p5 pf5
  clear q0 qf0 q1 qf1 q2 qf2 q3 qf3
  replace nm := nm.step hV1
  replace ns := ns.step hV1
  replace nB := below_of nB hV1
  clear hV1
  have p0 := nm.cell 0
  have p1 := nm.cell 1
  have p2 := nm.cell 2
  have p3 := nm.cell 3
  have p4 := nm.cell 4
  have p5 := nm.cell 5
  have pf0 := nm.frozen 0
  have pf1 := nm.frozen 1
  have pf2 := nm.frozen 2
  have pf3 := nm.frozen 3
  have pf4 := nm.frozen 4
  have pf5 := nm.frozen 5
  simp only [List.getElem?_toArray, List.getElem?_cons_zero, List.getElem?_cons_succ] at p0 p1 p2 p3 p4 p5
  have q0 := ns.cell 0
  have q1 := ns.cell 1
  have q2 := ns.cell 2
  have q3 := ns.cell 3
  have qf0 := ns.frozen 0
  have qf1 := ns.frozen 1
  have qf2 := ns.frozen 2
  have qf3 := ns.frozen 3
  simp only [List.getElem?_toArray, List.getElem?_cons_zero, List.getElem?_cons_succ] at q0 q1 q2 q3
  go_wp2_with fail
  refine (outlook_When.calls 3 _ _ _ _ _ _ _ _ _ _ _ _ 500000007 true _ H2.out).mono ?_
  rintro e V2 ⟨rfl, hV2⟩
  clear p0 pf0 p1 pf1 p2 pf2 p3 pf3 p4 pf4 p5 pf5
  clear q0 qf0 q1 qf1 q2 qf2 q3 qf3
  replace nm := nm.step hV2
  replace ns := ns.step hV2
  replace nB := below_of nB hV2
  clear hV2
  have p0 := nm.cell 0
  have p1 := nm.cell 1
  have p2 := nm.cell 2
  have p3 := nm.cell 3
  have p4 := nm.cell 4
  have p5 := nm.cell 5
  have pf0 := nm.frozen 0
  have pf1 := nm.frozen 1
  have pf2 := nm.frozen 2
  have pf3 := nm.frozen 3
  have pf4 := nm.frozen 4
  have pf5 := nm.frozen 5
  simp only [List.getElem?_toArray, List.getElem?_cons_zero, List.getElem?_cons_succ] at p0 p1 p2 p3 p4 p5
  have q0 := ns.cell 0
  have q1 := ns.cell 1
  have q2 := ns.cell 2
  have q3 := ns.cell 3
  have qf0 := ns.frozen 0
  have qf1 := ns.frozen 1
  have qf2 := ns.frozen 2
  have qf3 := ns.frozen 3
  simp only [List.getElem?_toArray, List.getElem?_cons_zero, List.getElem?_cons_succ] at q0 q1 q2 q3
  go_wp2_with fail
  refine (outlook_When.calls 3 _ _ _ _ _ _ _ _ _ _ _ _ 7 true _ H3.out).mono ?_
  rintro e V3 ⟨rfl, hV3⟩
  clear p0 pf0 p1 pf1 p2 pf2 p3 pf3 p4 pf4 p5 pf5
  clear q0 qf0 q1 qf1 q2 qf2 q3 qf3
  replace nm := nm.step hV3
  replace ns := ns.step hV3
  replace nB := below_of nB hV3
  clear hV3
  have p0 := nm.cell 0
  have p1 := nm.cell 1
  have p2 := nm.cell 2
  have p3 := nm.cell 3
  have p4 := nm.cell 4
  have p5 := nm.cell 5
  have pf0 := nm.frozen 0
  have pf1 := nm.frozen 1
  have pf2 := nm.frozen 2
  have pf3 := nm.frozen 3
  have pf4 := nm.frozen 4
  have pf5 := nm.frozen 5
  simp only [List.getElem?_toArray, List.getElem?_cons_zero, List.getElem?_cons_succ] at p0 p1 p2 p3 p4 p5
  have q0 := ns.cell 0
  have q1 := ns.cell 1
  have q2 := ns.cell 2
  have q3 := ns.cell 3
  have qf0 := ns.frozen 0
  have qf1 := ns.frozen 1
  have qf2 := ns.frozen 2
  have qf3 := ns.frozen 3
  simp only [List.getElem?_toArray, List.getElem?_cons_zero, List.getElem?_cons_succ] at q0 q1 q2 q3
  go_wp2_with fail
  refine (outlook_When.calls 3 _ _ _ _ _ _ _ _ _ _ _ _ 0 false _ H4.out).mono ?_
  rintro e V4 ⟨rfl, hV4⟩
  clear p0 pf0 p1 pf1 p2 pf2 p3 pf3 p4 pf4 p5 pf5
  clear q0 qf0 q1 qf1 q2 qf2 q3 qf3
  replace nm := nm.step hV4
  replace ns := ns.step hV4
  replace nB := below_of nB hV4
  clear hV4
  have p0 := nm.cell 0
  have p1 := nm.cell 1
  have p2 := nm.cell 2
  have p3 := nm.cell 3
  have p4 := nm.cell 4
  have p5 := nm.cell 5
  have pf0 := nm.frozen 0
  have pf1 := nm.frozen 1
  have pf2 := nm.frozen 2
  have pf3 := nm.frozen 3
  have pf4 := nm.frozen 4
  have pf5 := nm.frozen 5
  simp only [List.getElem?_toArray, List.getElem?_cons_zero, List.getElem?_cons_succ] at p0 p1 p2 p3 p4 p5
  have q0 := ns.cell 0
  have q1 := ns.cell 1
  have q2 := ns.cell 2
  have q3 := ns.cell 3
  have qf0 := ns.frozen 0
  have qf1 := ns.frozen 1
  have qf2 := ns.frozen 2
  have qf3 := ns.frozen 3
  simp only [List.getElem?_toArray, List.getElem?_cons_zero, List.getElem?_cons_succ] at q0 q1 q2 q3
  go_wp2_with fail
  refine (outlook_When.calls 3 _ _ _ _ _ _ _ _ _ _ _ _ 7 true _ H5.out).mono ?_
  rintro e V5 ⟨rfl, hV5⟩
  clear p0 pf0 p1 pf1 p2 pf2 p3 pf3 p4 pf4 p5 pf5
  clear q0 qf0 q1 qf1 q2 qf2 q3 qf3
  replace nm := nm.step hV5
  replace ns := ns.step hV5
  replace nB := below_of nB hV5
  clear hV5
  have p0 := nm.cell 0
  have p1 := nm.cell 1
  have p2 := nm.cell 2
  have p3 := nm.cell 3
  have p4 := nm.cell 4
  have p5 := nm.cell 5
  have pf0 := nm.frozen 0
  have pf1 := nm.frozen 1
  have pf2 := nm.frozen 2
  have pf3 := nm.frozen 3
  have pf4 := nm.frozen 4
  have pf5 := nm.frozen 5
  simp only [List.getElem?_toArray, List.getElem?_cons_zero, List.getElem?_cons_succ] at p0 p1 p2 p3 p4 p5
  go_wp2_with fail
  have nl := Blk.new V5 3 #[.int .i64 1500, .int .i64 500, .int .i64 500]
  have lm := nm.lt
  replace nm := nm.alloc (.cells #[.int .i64 1500, .int .i64 500, .int .i64 500] 3)
  replace ns := ns.alloc (.cells #[.int .i64 1500, .int .i64 500, .int .i64 500] 3)
  replace nB := nB.alloc nB.size (.cells #[.int .i64 1500, .int .i64 500, .int .i64 500] 3)
  generalize V5.alloc (.cells #[.int .i64 1500, .int .i64 500, .int .i64 500] 3) = V6 at *
  refine (outlook_Pace.calls K1 1 false 1000 0 1500 1000 _ 3 [1500, 500, 500] 0 _ 0 0 V6 (lit_C [1500, 500, 500] nl (by decide)) (by decide) H6.out).mono ?_
  rintro e V7 ⟨v1, rfl, hR1, hV7⟩
  obtain ⟨A1, c1, rfl, hc1, hC1⟩ := Kd.R_reads hR1
  clear nl hR1
  clear p0 pf0 p1 pf1 p2 pf2 p3 pf3 p4 pf4 p5 pf5
  clear lm
  replace nm := nm.step hV7
  replace ns := ns.step hV7
  replace nB := below_of nB hV7
  clear hV7
  go_upto_region 9 with fail
  have f1 := Blk.new V7 26 #[.int .i64 0, .int .i64 0]
  have lnm_f1 := nm.lt
  replace nm := nm.alloc (.cells #[.int .i64 0, .int .i64 0] 26)
  have lns_f1 := ns.lt
  replace ns := ns.alloc (.cells #[.int .i64 0, .int .i64 0] 26)
  replace hC1 := Kd.C_below hC1 ((Below.refl V7.heap.size V7).alloc (Nat.le_refl _) (.cells #[.int .i64 0, .int .i64 0] 26))
  replace nB := nB.alloc nB.size (.cells #[.int .i64 0, .int .i64 0] 26)
  generalize V7.alloc (.cells #[.int .i64 0, .int .i64 0] 26) = V8 at *
  generalize V7.heap.size = gf1 at *
  have p0 := nm.cell 0
  have p1 := nm.cell 1
  have p2 := nm.cell 2
  have p3 := nm.cell 3
  have p4 := nm.cell 4
  have p5 := nm.cell 5
  have pf0 := nm.frozen 0
  have pf1 := nm.frozen 1
  have pf2 := nm.frozen 2
  have pf3 := nm.frozen 3
  have pf4 := nm.frozen 4
  have pf5 := nm.frozen 5
  simp only [List.getElem?_toArray, List.getElem?_cons_zero, List.getElem?_cons_succ] at p0 p1 p2 p3 p4 p5
  go_wp2_with fail
  clear p0 pf0 p1 pf1 p2 pf2 p3 pf3 p4 pf4 p5 pf5
  have nl := Blk.new V8 3 #[.int .i64 1, .int .i64 1501]
  have lnm_nl := nm.lt
  replace nm := nm.alloc (.cells #[.int .i64 1, .int .i64 1501] 3)
  have lns_nl := ns.lt
  replace ns := ns.alloc (.cells #[.int .i64 1, .int .i64 1501] 3)
  have lf1_nl := f1.lt
  replace f1 := f1.alloc (.cells #[.int .i64 1, .int .i64 1501] 3)
  replace hC1 := Kd.C_below hC1 ((Below.refl V8.heap.size V8).alloc (Nat.le_refl _) (.cells #[.int .i64 1, .int .i64 1501] 3))
  replace nB := nB.alloc nB.size (.cells #[.int .i64 1, .int .i64 1501] 3)
  generalize V8.alloc (.cells #[.int .i64 1, .int .i64 1501] 3) = V9 at *
  generalize V8.heap.size = gnl at *
  refine (outlook_Pace.calls K2 1 false 1000 0 1500 1000 _ 2 [1, 1501] 0 _ 8 1 V9 (lit_C [1, 1501] nl (by decide)) (by decide) H7.out).mono ?_
  rintro e V10 ⟨v2, rfl, hR2, hV10⟩
  obtain ⟨A2, c2, rfl, hc2, hC2⟩ := Kd.R_reads hR2
  clear nl hR2 hC2
  replace hC1 := Kd.C_below hC1 hV10
  replace nm := nm.step hV10
  replace ns := ns.step hV10
  replace f1 := f1.step hV10
  replace nB := below_of nB hV10
  clear hV10
  go_upto_region 10 with fail
  have f2 := Blk.new V10 26 #[.int .i64 8, .int .i64 1]
  have lnm_f2 := nm.lt
  replace nm := nm.alloc (.cells #[.int .i64 8, .int .i64 1] 26)
  have lns_f2 := ns.lt
  replace ns := ns.alloc (.cells #[.int .i64 8, .int .i64 1] 26)
  have lf1_f2 := f1.lt
  replace f1 := f1.alloc (.cells #[.int .i64 8, .int .i64 1] 26)
  replace hC1 := Kd.C_below hC1 ((Below.refl V10.heap.size V10).alloc (Nat.le_refl _) (.cells #[.int .i64 8, .int .i64 1] 26))
  replace nB := nB.alloc nB.size (.cells #[.int .i64 8, .int .i64 1] 26)
  generalize V10.alloc (.cells #[.int .i64 8, .int .i64 1] 26) = V11 at *
  generalize V10.heap.size = gf2 at *
  have p0 := nm.cell 0
  have p1 := nm.cell 1
  have p2 := nm.cell 2
  have p3 := nm.cell 3
  have p4 := nm.cell 4
  have p5 := nm.cell 5
  have pf0 := nm.frozen 0
  have pf1 := nm.frozen 1
  have pf2 := nm.frozen 2
  have pf3 := nm.frozen 3
  have pf4 := nm.frozen 4
  have pf5 := nm.frozen 5
  simp only [List.getElem?_toArray, List.getElem?_cons_zero, List.getElem?_cons_succ] at p0 p1 p2 p3 p4 p5
  have q0 := ns.cell 0
  have q1 := ns.cell 1
  have q2 := ns.cell 2
  have q3 := ns.cell 3
  have qf0 := ns.frozen 0
  have qf1 := ns.frozen 1
  have qf2 := ns.frozen 2
  have qf3 := ns.frozen 3
  simp only [List.getElem?_toArray, List.getElem?_cons_zero, List.getElem?_cons_succ] at q0 q1 q2 q3
  go_wp2_with fail
  refine (outlook_Idle.calls _ _ _ _ _ _ _ _ _ _ _ _ _ H8.out).mono ?_
  rintro e V12 ⟨rfl, hV12⟩
  clear p0 pf0 p1 pf1 p2 pf2 p3 pf3 p4 pf4 p5 pf5
  clear q0 qf0 q1 qf1 q2 qf2 q3 qf3
  replace hC1 := Kd.C_below hC1 hV12
  replace f1 := f1.step hV12
  replace f2 := f2.step hV12
  replace nB := below_of nB hV12
  clear hV12
  go_wp2_with fail
  have nu := Blk.new V12 23 #[.int .u64 0, .int .u64 500000000, .int .u64 1000000000]
  have lf1_nu := f1.lt
  replace f1 := f1.alloc (.cells #[.int .u64 0, .int .u64 500000000, .int .u64 1000000000] 23)
  have lf2_nu := f2.lt
  replace f2 := f2.alloc (.cells #[.int .u64 0, .int .u64 500000000, .int .u64 1000000000] 23)
  replace hC1 := Kd.C_below hC1 ((Below.refl V12.heap.size V12).alloc (Nat.le_refl _) (.cells #[.int .u64 0, .int .u64 500000000, .int .u64 1000000000] 23))
  replace nB := nB.alloc nB.size (.cells #[.int .u64 0, .int .u64 500000000, .int .u64 1000000000] 23)
  generalize V12.alloc (.cells #[.int .u64 0, .int .u64 500000000, .int .u64 1000000000] 23) = V13 at *
  generalize V12.heap.size = gnu at *
  refine (weighbridgeref25_Same.calls K3 _ _ _ _ _ [0, 500000000, 1000000000] _ V13 hC1 hc1 (lit_C [0, 500000000, 1000000000] nu (by decide)) (by decide) H9.out).mono ?_
  rintro e V14 ⟨rfl, hV14⟩
  clear hC1 nu
  replace f1 := f1.step hV14
  replace f2 := f2.step hV14
  replace nB := below_of nB hV14
  clear hV14
  have p0 := f1.cell 0
  have p1 := f1.cell 1
  have pf0 := f1.frozen 0
  have pf1 := f1.frozen 1
  simp only [List.getElem?_toArray, List.getElem?_cons_zero, List.getElem?_cons_succ] at p0 p1
  have q0 := f2.cell 0
  have q1 := f2.cell 1
  have qf0 := f2.frozen 0
  have qf1 := f2.frozen 1
  simp only [List.getElem?_toArray, List.getElem?_cons_zero, List.getElem?_cons_succ] at q0 q1
  go_wp2_with fail
  go_returns
  exact ⟨rfl, nB⟩
theorem weighbridgelaw30_live.calls (k : Nat) (r : Bool) (w : World) (h : weighbridgelaw30_live.f k = some r) : Calls Try.prog 30 #[] w fun e w' => e = .returned (.bool r) ∧ Below w.heap.size w w' := by
  obtain rfl := Option.some.inj h
  exact live30_any w
end Go.Proofs.Ytiaoaoebghnpkaa.P
