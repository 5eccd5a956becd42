/- Part of the proof. -/
import Derived.Test.YtiaoaoebghnpkaaKB42
/- meter.Run: what it computes, by what meter.New and meter.Step compute. -/
namespace Go.Proofs.Ytiaoaoebghnpkaa.P
open Go.RowKit Go.Proofs.YtiaoaoebghnpkaaW.PrintWords Go.Proofs.YtiaoaoebghnpkaaW.PrintLast
set_option linter.unusedVariables false

/-- Behind k packets: the level, and the colours. -/
def mrun (m0 : Int) (m1 : Bool) (m2 m3 m4 m5 : Int) (xs : List (Int × Int)) (o : List Int) (s0 s1 s2 : Int) (s3 : Bool) : Nat → Option ((Int × Int × Int × Bool) × List Int)
  | 0 => some ((s0, s1, s2, s3), o)
  | k + 1 => (mrun m0 m1 m2 m3 m4 m5 xs o s0 s1 s2 s3 k).bind fun q => (meter_Step.f m0 m1 m2 m3 m4 m5 q.1.1 q.1.2.1 q.1.2.2.1 q.1.2.2.2 (xs.getD k (0, 0)).1 (xs.getD k (0, 0)).2 (q.2.getD k 0)).bind fun z => some ((z.1, z.2.1, z.2.2.1, z.2.2.2.1), q.2.set k z.2.2.2.2)
theorem mrun_le {m0 : Int} {m1 : Bool} {m2 m3 m4 m5 : Int} {xs : List (Int × Int)} {o : List Int} {s0 s1 s2 : Int} {s3 : Bool} : ∀ (d k : Nat) {q}, mrun m0 m1 m2 m3 m4 m5 xs o s0 s1 s2 s3 (k + d) = some q → ∃ p, mrun m0 m1 m2 m3 m4 m5 xs o s0 s1 s2 s3 k = some p
  | 0, k, q, h => ⟨q, h⟩
  | d + 1, k, q, h => by
    rw [show k + (d + 1) = (k + d) + 1 from by omega] at h
    unfold mrun at h
    obtain ⟨p, hp, _⟩ := Option.bind_eq_some_iff.1 h
    exact mrun_le d k hp
theorem mrun_length {m0 : Int} {m1 : Bool} {m2 m3 m4 m5 : Int} {xs : List (Int × Int)} {o : List Int} {s0 s1 s2 : Int} {s3 : Bool} : ∀ (k : Nat) {q}, mrun m0 m1 m2 m3 m4 m5 xs o s0 s1 s2 s3 k = some q → q.2.length = o.length
  | 0, q, h => by
    unfold mrun at h
    obtain rfl := Option.some.inj h
    rfl
  | k + 1, q, h => by
    unfold mrun at h
    obtain ⟨p, hp, h⟩ := Option.bind_eq_some_iff.1 h
    obtain ⟨z, _, h⟩ := Option.bind_eq_some_iff.1 h
    obtain rfl := Option.some.inj h
    have := mrun_length k hp
    simpa using this

theorem Try.infoInt : (Try.prog.info? 3).map (fun i => (i.zero, i.size, i.bytes)) = some (some (.int .i64 0), 1, 8) := by kernel_rfl
theorem made_ints (n : Nat) : madeCells #[.int .i64 0] n = ints (List.replicate n 0) := by
  unfold ints
  apply Array.ext'
  apply List.ext_getElem?
  intro j
  rcases Nat.lt_or_ge j n with hj | hj
  · simp [madeCells, hj, Nat.mod_one]
  · simp [madeCells, hj]

set_option maxRecDepth 100000 in
set_option maxHeartbeats 4000000 in
theorem mrun_any (m0 : Int) (m1 : Bool) (m2 m3 m4 m5 : Int) (A1 : Option Addr) (c1 : Nat) (xs : List (Int × Int)) (A2 : Option Addr) (c2 : Nat) (pre : List Int) (s0 s1 s2 : Int) (s3 : Bool) (r0 r1 r2 : Int) (r3 : Bool) (out : List Int) (w : World)
    (hn : meter_New.f m0 m1 m2 m3 m4 m5 = some (s0, s1, s2, s3, 0)) (hr : mrun m0 m1 m2 m3 m4 m5 xs (ovr xs.length pre) s0 s1 s2 s3 xs.length = some ((r0, r1, r2, r3), out)) (hlen : xs.length ≤ 1000)
    (hL : ∀ k, k < xs.length → ∃ b off, A1 = some ⟨b, off, none⟩ ∧ b < w.heap.size ∧ w.cell? ⟨b, off + k * 2, none⟩ = some (.int .u64 (xs.getD k (0, 0)).1) ∧ w.cell? ⟨b, off + k * 2 + 1, none⟩ = some (.int .i64 (xs.getD k (0, 0)).2))
    (hp : Kd.C (Kd.int .i64) w A2 pre.length pre) :
    Calls Try.prog 36 #[.agg #[.int .i64 m0, .bool m1, .int .u64 m2, .int .u64 m3, .int .u64 m4, .int .u64 m5], .slice A1 xs.length c1, .slice A2 pre.length c2] w fun e w' => ∃ g, e = .returned (.tuple #[.slice (some ⟨g, 0, none⟩) xs.length xs.length, .agg #[.int .u64 r0, .int .u64 r1, .int .u64 r2, .bool r3]]) ∧ w.heap.size ≤ g ∧ Blk w' g 3 (ints out) ∧ Below w.heap.size w w' := by
  obtain ⟨i0, hi, hz0, hz1, hz2⟩ := info_parts Try.infoInt
  have hmk : ∀ W, (Instr.makeSlice 33 (.int .i64 (xs.length : Int)) (.int .i64 (xs.length : Int))).run Try.prog W = .ok (.slice (some ⟨W.heap.size, 0, none⟩) xs.length xs.length) (W.alloc (.cells (ints (List.replicate xs.length 0)) 3)) := fun W => by
    have := run_make (P := Try.prog) W 33 3 i0 (.int .i64 0) Try.underlying33 hi hz0 .i64 .i64 (xs.length : Int) (xs.length : Int) (by omega) (Int.le_refl _) (by rw [hz2]; omega) (by omega)
    rw [hz1, Int.toNat_natCast, Nat.mul_one] at this
    rw [this, ← made_ints]
    rfl
  have HN := Lib.hid hn
  have HR := Lib.hid hr
  have HL := Lib.hid hL
  have HP := Lib.hid hp
  clear hn hr hL hp
  go_enter Try.func36, Try.ntmps36
  go_wp2_with fail
  refine (meter_New.calls _ _ _ _ _ _ _ _ _ _ _ _ HN.out).mono ?_
  rintro e W1 ⟨rfl, hW1⟩
  have hB := below_of (w := w) (by go_grown) hW1
  have n0 : Blk ((w.alloc (.cells #[.int .i64 m0, .bool m1, .int .u64 m2, .int .u64 m3, .int .u64 m4, .int .u64 m5] 49)).alloc (.cells #[.int .u64 0, .int .u64 0, .int .u64 0, .bool false] 51)) w.heap.size 49 #[.int .i64 m0, .bool m1, .int .u64 m2, .int .u64 m3, .int .u64 m4, .int .u64 m5] := (Blk.new w 49 #[.int .i64 m0, .bool m1, .int .u64 m2, .int .u64 m3, .int .u64 m4, .int .u64 m5]).alloc _
  have n1 : Blk ((w.alloc (.cells #[.int .i64 m0, .bool m1, .int .u64 m2, .int .u64 m3, .int .u64 m4, .int .u64 m5] 49)).alloc (.cells #[.int .u64 0, .int .u64 0, .int .u64 0, .bool false] 51)) (w.heap.size + 1) 51 #[.int .u64 0, .int .u64 0, .int .u64 0, .bool false] := by
    have h := Blk.new (w.alloc (.cells #[.int .i64 m0, .bool m1, .int .u64 m2, .int .u64 m3, .int .u64 m4, .int .u64 m5] 49)) 51 #[.int .u64 0, .int .u64 0, .int .u64 0, .bool false]
    simpa only [World.size_alloc] using h
  have b0 := n0.step hW1
  have b1 := n1.step hW1
  have hltB := b1.lt
  clear n0 n1 hW1
  go_upto_region 5 with fail
  have g0 := (b0.alloc (.cells #[.int .u64 s0, .int .u64 s1, .int .u64 s2, .bool s3] 51)).alloc (.cells (ints (List.replicate xs.length 0)) 3)
  have g1 := (b1.alloc (.cells #[.int .u64 s0, .int .u64 s1, .int .u64 s2, .bool s3] 51)).alloc (.cells (ints (List.replicate xs.length 0)) 3)
  have gs := (Blk.new W1 51 #[.int .u64 s0, .int .u64 s1, .int .u64 s2, .bool s3]).alloc (.cells (ints (List.replicate xs.length 0)) 3)
  have go : Blk ((W1.alloc (.cells #[.int .u64 s0, .int .u64 s1, .int .u64 s2, .bool s3] 51)).alloc (.cells (ints (List.replicate xs.length 0)) 3)) (W1.heap.size + 1) 3 (ints (List.replicate xs.length 0)) := by
    have h := Blk.new (W1.alloc (.cells #[.int .u64 s0, .int .u64 s1, .int .u64 s2, .bool s3] 51)) 3 (ints (List.replicate xs.length 0))
    simpa only [World.size_alloc] using h
  have gB := (hB.alloc hB.size (.cells #[.int .u64 s0, .int .u64 s1, .int .u64 s2, .bool s3] 51)).alloc (show w.heap.size ≤ (W1.alloc (.cells #[.int .u64 s0, .int .u64 s1, .int .u64 s2, .bool s3] 51)).heap.size by rw [World.size_alloc]; omega) (.cells (ints (List.replicate xs.length 0)) 3)
  generalize (W1.alloc (.cells #[.int .u64 s0, .int .u64 s1, .int .u64 s2, .bool s3] 51)).alloc (.cells (ints (List.replicate xs.length 0)) 3) = W2 at g0 g1 gs go gB ⊢
  generalize hgl : W1.heap.size = gl at *
  clear b0 b1 hB
  obtain ⟨W3, hcp, f3, B3, K3⟩ := copy_pre W2 (gl + 1) xs.length c2 A2 pre 3 go (Kd.C_below HP.out gB) w.heap.size w gB (by omega)
  have f0 := K3 _ _ _ (by omega) g0
  have f1 := K3 _ _ _ (by omega) g1
  have fs := K3 _ _ _ (by omega) gs
  clear g0 g1 gs go gB K3
  go_wp2_with fail
  go_loopw [29] (fun iv wr => ∃ (k : Nat) (t0 t1 t2 : Int) (t3 : Bool) (o : List Int), k ≤ xs.length ∧ iv = .int .i64 k ∧ Hid (mrun m0 m1 m2 m3 m4 m5 xs (ovr xs.length pre) s0 s1 s2 s3 k = some ((t0, t1, t2, t3), o)) ∧
      Hid (Blk wr w.heap.size 49 #[.int .i64 m0, .bool m1, .int .u64 m2, .int .u64 m3, .int .u64 m4, .int .u64 m5]) ∧ Hid (Blk wr (w.heap.size + 1) 51 #[.int .u64 0, .int .u64 0, .int .u64 0, .bool false]) ∧ Hid (Blk wr gl 51 #[.int .u64 t0, .int .u64 t1, .int .u64 t2, .bool t3]) ∧ Hid (Blk wr (gl + 1) 3 (ints o)) ∧ Hid (Below w.heap.size w wr)) (fun iv _ => ((xs.length : Int) - intOf iv).toNat)
  case atStart => exact ⟨0, s0, s1, s2, s3, _, by omega, rfl, rfl, f0, f1, fs, f3, B3⟩
  case round =>
    obtain ⟨k, t0, t1, t2, t3, o, hk, rfl, D, E0, E1, ES, EO, EB⟩ := hrel
    by_cases hlt : k < xs.length
    · obtain ⟨⟨⟨z0, z1, z2, z3⟩, o'⟩, hz⟩ := mrun_le (xs.length - (k + 1)) (k + 1) (by rw [show k + 1 + (xs.length - (k + 1)) = xs.length from by omega]; exact HR.out)
      have hz' := hz
      unfold mrun at hz'
      rw [D.out] at hz'
      simp only [Option.bind_some] at hz'
      obtain ⟨⟨y0, y1, y2, y3, cc⟩, hst, hz'⟩ := Option.bind_eq_some_iff.1 hz'
      simp only [Option.some.injEq, Prod.mk.injEq] at hz'
      obtain ⟨⟨rfl, rfl, rfl, rfl⟩, ho'⟩ := hz'
      have hol : o.length = xs.length := by have := mrun_length k D.out; rw [ovr_length] at this; exact this
      obtain ⟨b, off, rfl, hbw, hc0, hc1⟩ := HL.out k hlt
      obtain ⟨px, hpx⟩ : ∃ px, px = xs.getD k (0, 0) := ⟨_, rfl⟩
      obtain ⟨ov, hov⟩ : ∃ ov, ov = o.getD k 0 := ⟨_, rfl⟩
      rw [← hpx] at hc0 hc1 hst
      rw [← hov] at hst
      obtain ⟨pt, ps⟩ := px
      dsimp only at hc0 hc1 hst
      have hx0 := (EB.out.cell (p := ⟨b, off + k * 2, none⟩) hbw).trans hc0
      have hx1 := (EB.out.cell (p := ⟨b, off + k * 2 + 1, none⟩) hbw).trans hc1
      have hov' : (ints o)[k]? = some (.int .i64 ov) := by
        unfold ints
        rw [List.getElem?_toArray, List.getElem?_map, List.getElem?_eq_getElem (by omega), hov, List.getD_eq_getElem?_getD, List.getElem?_eq_getElem (by omega)]
        rfl
      have HZ := Lib.hid hz
      have HST := Lib.hid hst
      have HO := Lib.hid ho'
      have HOV := Lib.hid hov'
      have hki : (k : Int) < (xs.length : Int) := by omega
      clear hz hst ho' hc0 hc1 hov' hov hpx D
      go_upto_region 9 with fail
      have G0 := Lib.hid (E0.out.alloc (.cells #[.int .u64 pt, .int .i64 ps] 68))
      have G1 := Lib.hid (E1.out.alloc (.cells #[.int .u64 pt, .int .i64 ps] 68))
      have GS := Lib.hid (ES.out.alloc (.cells #[.int .u64 pt, .int .i64 ps] 68))
      have GO := Lib.hid (EO.out.alloc (.cells #[.int .u64 pt, .int .i64 ps] 68))
      have GB := Lib.hid (EB.out.alloc EB.out.size (.cells #[.int .u64 pt, .int .i64 ps] 68))
      have GP := Lib.hid (Blk.new wr 68 #[.int .u64 pt, .int .i64 ps])
      generalize wr.alloc (.cells #[.int .u64 pt, .int .i64 ps] 68) = W4 at G0 G1 GS GO GB GP ⊢
      generalize hgp : wr.heap.size = gp at *
      clear E0 E1 ES EO EB hx0 hx1
      have c0 := G0.out.cell 0
      have c1' := G0.out.cell 1
      have c2' := G0.out.cell 2
      have c3 := G0.out.cell 3
      have c4 := G0.out.cell 4
      have c5 := G0.out.cell 5
      have d0 := GS.out.cell 0
      have d1 := GS.out.cell 1
      have d2 := GS.out.cell 2
      have d3 := GS.out.cell 3
      have p0 := GP.out.cell 0
      have p1 := GP.out.cell 1
      simp only [List.getElem?_toArray, List.getElem?_cons_zero, List.getElem?_cons_succ] at c0 c1' c2' c3 c4 c5 d0 d1 d2 d3 p0 p1
      have q0 := (GO.out.cell k).trans HOV.out
      have l0 := G0.out.lt
      have lS := GS.out.lt
      have lO := GO.out.lt
      have lP := GP.out.lt
      refine wp_region_text (by kernel_rfl) (by kernel_rfl) fun Q2 hQ2 => ?_
      refine drawn_calls 16 (by kernel_rfl) ?_
      simp only [List.take_succ_cons, List.take_zero, List.drop_succ_cons, List.drop_zero]
      refine walk1_open fun K hK => ?_
      repeat
        apply walk1_value (by rfl)
        · intro W hcl hsz; go_simp; rfl
        simp only [Act.put, List.setIfInBounds_toArray, List.set_cons_zero, List.set_cons_succ]
      apply walk1_call (by rfl)
      · intro W hsz; go_simp; first | exact ⟨rfl, rfl⟩ | rfl
      · intro W hlW; exact meter_Step.calls _ _ _ _ _ _ _ _ _ _ _ _ _ _ _ _ _ _ W HST.out
      simp only [Act.put, List.setIfInBounds_toArray, List.set_cons_zero, List.set_cons_succ]
      repeat
        apply walk1_value (by rfl)
        · intro W hcl hsz; go_simp; rfl
        simp only [Act.put, List.setIfInBounds_toArray, List.set_cons_zero, List.set_cons_succ]
      refine walk1_nil (hK _ ?_); clear hK K
      intro W5 hW5
      have I0 := Lib.hid (G0.out.step hW5)
      have I1 := Lib.hid (G1.out.step hW5)
      have IS := Lib.hid (GS.out.step hW5)
      have IO := Lib.hid (GO.out.step hW5)
      have IB := Lib.hid (below_of GB.out hW5)
      clear G0 G1 GS GO GB GP hW5 c0 c1' c2' c3 c4 c5 d0 d1 d2 d3 p0 p1 q0 l0 lS lO lP
      have d0 := IS.out.cell 0
      have d1 := IS.out.cell 1
      have d2 := IS.out.cell 2
      have d3 := IS.out.cell 3
      have h0 := IS.out.frozen 0
      have h1 := IS.out.frozen 1
      have h2 := IS.out.frozen 2
      have h3 := IS.out.frozen 3
      simp only [List.getElem?_toArray, List.getElem?_cons_zero, List.getElem?_cons_succ] at d0 d1 d2 d3
      have q0 := (IO.out.cell k).trans HOV.out
      have q1 := IO.out.frozen k
      go_wp2_with fail
      have hst : (ints o).setIfInBounds k (.int .i64 cc) = ints o' := by
        rw [← HO.out]; unfold ints; simp [List.map_set]
      have e0 : w.heap.size ≠ gl := by omega
      have e1 : w.heap.size ≠ gl + 1 := by omega
      have e2 : w.heap.size + 1 ≠ gl := by omega
      have e3 : w.heap.size + 1 ≠ gl + 1 := by omega
      have e4 : gl ≠ gl + 1 := by omega
      have e5 : gl + 1 ≠ gl := by omega
      have b1 : w.heap.size ≤ gl := by omega
      have b2 : w.heap.size ≤ gl + 1 := by omega
      refine ⟨⟨k + 1, y0, y1, y2, y3, o', by omega, rfl, HZ, ((((I0.out.far e0 _).far e0 _).far e0 _).far e0 _).far e1 _, ((((I1.out.far e2 _).far e2 _).far e2 _).far e2 _).far e3 _,
        ((((IS.out.put 0 _).put 1 _).put 2 _).put 3 _).far e4 _, ?_, ((((IB.out.setCell b1 _).setCell b1 _).setCell b1 _).setCell b1 _).setCell b2 _⟩, ?_⟩
      · have := ((((IO.out.far e5 (.int .u64 y0) (p := ⟨gl, 0, none⟩)).far e5 (.int .u64 y1) (p := ⟨gl, 1, none⟩)).far e5 (.int .u64 y2) (p := ⟨gl, 2, none⟩)).far e5 (.bool y3) (p := ⟨gl, 3, none⟩)).put k (.int .i64 cc)
        rw [hst] at this
        exact this
      · simp [intOf]; omega
    · obtain rfl : k = xs.length := by omega
      have hd := D.out
      rw [HR.out] at hd
      simp only [Option.some.injEq, Prod.mk.injEq] at hd
      obtain ⟨⟨rfl, rfl, rfl, rfl⟩, rfl⟩ := hd
      have d0 := ES.out.cell 0
      have d1 := ES.out.cell 1
      have d2 := ES.out.cell 2
      have d3 := ES.out.cell 3
      simp only [List.getElem?_toArray, List.getElem?_cons_zero, List.getElem?_cons_succ] at d0 d1 d2 d3
      have l0 := ES.out.lt
      have l1 := E1.out.lt
      go_wp2_with fail
      refine wp_region_calls 3 (by kernel_rfl) (by kernel_rfl) ?_
      simp only [List.take_succ_cons, List.take_zero, List.drop_succ_cons, List.drop_zero]
      refine walk1_open fun K hK => ?_
      repeat
        apply walk1_value (by rfl)
        · intro W hcl hsz; go_simp; rfl
        simp only [Act.put, List.setIfInBounds_toArray, List.set_cons_zero, List.set_cons_succ]
      refine walk1_nil (hK _ ?_); clear hK K
      intro W5 hW5
      have I1 := Lib.hid (E1.out.step hW5)
      have IO := Lib.hid (EO.out.step hW5)
      have IB := Lib.hid (below_of EB.out hW5)
      clear E0 E1 ES EO EB hW5 d0 d1 d2 d3 l0 l1
      have y0 := I1.out.cell 0
      have y1 := I1.out.cell 1
      have y2 := I1.out.cell 2
      have y3 := I1.out.cell 3
      have h0 := I1.out.frozen 0
      have h1 := I1.out.frozen 1
      have h2 := I1.out.frozen 2
      have h3 := I1.out.frozen 3
      simp only [List.getElem?_toArray, List.getElem?_cons_zero, List.getElem?_cons_succ] at y0 y1 y2 y3
      go_wp2_with fail
      have e1 : gl + 1 ≠ w.heap.size + 1 := by omega
      have b1 : w.heap.size ≤ w.heap.size + 1 := by omega
      have R2 : Blk ((((W5.setCell ⟨w.heap.size + 1, 0, none⟩ (.int .u64 r0)).setCell ⟨w.heap.size + 1, 1, none⟩ (.int .u64 r1)).setCell ⟨w.heap.size + 1, 2, none⟩ (.int .u64 r2)).setCell ⟨w.heap.size + 1, 3, none⟩ (.bool r3)) (w.heap.size + 1) 51 #[.int .u64 r0, .int .u64 r1, .int .u64 r2, .bool r3] := (((I1.out.put 0 _).put 1 _).put 2 _).put 3 _
      have RO : Blk ((((W5.setCell ⟨w.heap.size + 1, 0, none⟩ (.int .u64 r0)).setCell ⟨w.heap.size + 1, 1, none⟩ (.int .u64 r1)).setCell ⟨w.heap.size + 1, 2, none⟩ (.int .u64 r2)).setCell ⟨w.heap.size + 1, 3, none⟩ (.bool r3)) (gl + 1) 3 (ints out) := (((IO.out.far e1 _).far e1 _).far e1 _).far e1 _
      have RB : Below w.heap.size w ((((W5.setCell ⟨w.heap.size + 1, 0, none⟩ (.int .u64 r0)).setCell ⟨w.heap.size + 1, 1, none⟩ (.int .u64 r1)).setCell ⟨w.heap.size + 1, 2, none⟩ (.int .u64 r2)).setCell ⟨w.heap.size + 1, 3, none⟩ (.bool r3)) := (((IB.out.setCell b1 _).setCell b1 _).setCell b1 _).setCell b1 _
      generalize ((((W5.setCell ⟨w.heap.size + 1, 0, none⟩ (.int .u64 r0)).setCell ⟨w.heap.size + 1, 1, none⟩ (.int .u64 r1)).setCell ⟨w.heap.size + 1, 2, none⟩ (.int .u64 r2)).setCell ⟨w.heap.size + 1, 3, none⟩ (.bool r3)) = W7 at R2 RO RB ⊢
      clear y0 y1 y2 y3 h0 h1 h2 h3
      refine bodyPost_ret (Go.Proofs.YtiaoaoebghnpkaaW.PrintWords.results_list (rs := [.tmp 6, .cell 7 51]) rfl (by simp) (.tmp (.cell (w.heap.size + 1) 51 #[.int .u64 r0, .int .u64 r1, .int .u64 r2, .bool r3] (0, 0) _ rfl R2 Try.underlying51 rfl (by kernel_rfl) .nil))) rfl ?_
      exact ⟨gl + 1, rfl, by omega, RO, RB⟩
end Go.Proofs.Ytiaoaoebghnpkaa.P
