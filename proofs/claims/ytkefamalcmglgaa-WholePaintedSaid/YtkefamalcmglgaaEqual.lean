/- The law WholeEqual answers true, whatever the input. Condition: none. -/
import Derived.Test.YtkefamalcmglgaaRows
import Derived.Test.YtkefamalcmglgaaOpen
import Derived.Test.YtkefamalcmglgaaMlaw
namespace Go.Proofs.Ytkefamalcmglgaa.P
open Go.ChangeShapes Go.WideShapes Go.ChangeAt Go.RowKit Go.Proofs.YtkefamalcmglgaaW.PrintWords Go.Proofs.YtkefamalcmglgaaW.PrintLast

/-- A slice of packets lies so. -/
def rowsP (w : World) (A : Option Addr) (xs : List (Int × Int)) : Prop := ∀ k, k < xs.length → ∃ b off, A = some ⟨b, off, none⟩ ∧ b < w.heap.size ∧ w.cell? ⟨b, off + k * 2, none⟩ = some (.int .u64 (xs.getD k (0, 0)).1) ∧ w.cell? ⟨b, off + k * 2 + 1, none⟩ = some (.int .i64 (xs.getD k (0, 0)).2)
theorem rowsP_below {w W : World} {A : Option Addr} {xs : List (Int × Int)} (h : rowsP w A xs) (hb : Below w.heap.size w W) : rowsP W A xs := fun k hk => by
  obtain ⟨b, off, rfl, hbw, h0, h1⟩ := h k hk
  exact ⟨b, off, rfl, Nat.lt_of_lt_of_le hbw hb.size, (hb.cell (p := ⟨b, off + k * 2, none⟩) hbw).trans h0, (hb.cell (p := ⟨b, off + k * 2 + 1, none⟩) hbw).trans h1⟩
theorem rowsP_take {w : World} {A : Option Addr} {xs : List (Int × Int)} (h : rowsP w A xs) (n : Nat) : rowsP w A (xs.take n) := fun k hk => by
  have hk' : k < xs.length := by rw [List.length_take] at hk; omega
  have hkn : k < n := by rw [List.length_take] at hk; omega
  have e : (xs.take n).getD k (0, 0) = xs.getD k (0, 0) := by
    rw [List.getD_eq_getElem?_getD, List.getD_eq_getElem?_getD, List.getElem?_take, if_pos hkn]
  rw [e]
  exact h k hk'
/-- A slice of packets that came in, as a list. -/
theorem samples_list {w : World} {ao : Option Addr} {n : Nat}
    (hL : ∀ k, k < n → ∃ (b off : Nat) (cs : List Value), ao = some ⟨b, off, none⟩ ∧ b < w.heap.size ∧ cellsOk [some .u64, some .i64] cs ∧ ∀ i, i < 2 → w.cell? ⟨b, off + k * 2 + i, none⟩ = cs[i]?) :
    ∃ xs : List (Int × Int), xs.length = n ∧ (∀ p ∈ xs, okS p) ∧ rowsP w ao xs := by
  obtain ⟨xs, hl, hx⟩ := list_of (R := fun k (p : Int × Int) => okS p ∧ ∃ b off, ao = some ⟨b, off, none⟩ ∧ b < w.heap.size ∧ w.cell? ⟨b, off + k * 2, none⟩ = some (.int .u64 p.1) ∧ w.cell? ⟨b, off + k * 2 + 1, none⟩ = some (.int .i64 p.2)) n fun k hk => by
    obtain ⟨b, off, cs, hao, hb, hcs, hcell⟩ := hL k hk
    obtain ⟨_, _, rfl, ⟨z0, rfl, w0⟩, _, _, rfl, ⟨z1, rfl, w1⟩, rfl⟩ := hcs
    exact ⟨⟨z0, z1⟩, ⟨U_wf w0, I64_wf w1⟩, b, off, hao, hb, (hcell 0 (by decide)).trans rfl, (hcell 1 (by decide)).trans rfl⟩
  refine ⟨xs, hl, fun p hp => ?_, fun k hk => ?_⟩
  · obtain ⟨j, hj, rfl⟩ := List.mem_iff_getElem.1 hp
    exact (hx j _ (List.getElem?_eq_getElem hj)).1
  · have h := (hx k _ (List.getElem?_eq_getElem hk)).2
    have e : xs.getD k (0, 0) = xs[k] := by rw [List.getD_eq_getElem?_getD, List.getElem?_eq_getElem hk]; rfl
    rw [e]
    exact h

/-- meter.Run, of a meter that may be. -/
theorem run_any (k : Int) (a : Bool) (r p b x : Int) (A1 : Option Addr) (c1 : Nat) (xs : List (Int × Int)) (A2 : Option Addr) (c2 : Nat) (pre : List Int) (r0 r1 r2 : Int) (r3 : Bool) (out : List Int) (w : World)
    (hb : U b) (hx : U x) (hc : chkM k r p b x = 0) (hr : mrun k a r p b x xs (ovr xs.length pre) (b * 1000000000) (x * 1000000000) 0 false xs.length = some ((r0, r1, r2, r3), out)) (hlen : xs.length ≤ 1000)
    (hL : rowsP w A1 xs) (hp : Kd.C (Kd.int .i64) w A2 pre.length pre) :
    Calls Try.prog 28 #[.agg #[.int .i64 k, .bool a, .int .u64 r, .int .u64 p, .int .u64 b, .int .u64 x], .slice A1 xs.length c1, .slice A2 pre.length c2] w fun e w' => ∃ g, e = .returned (.tuple #[.slice (some ⟨g, 0, none⟩) xs.length xs.length, .agg #[.int .u64 r0, .int .u64 r1, .int .u64 r2, .bool r3]]) ∧ w.heap.size ≤ g ∧ Blk w' g 3 (ints out) ∧ Below w.heap.size w w' :=
  mrun_any k a r p b x A1 c1 xs A2 c2 pre _ _ _ _ r0 r1 r2 r3 out w (by rw [mnew_eq k a r p b x hb hx, hc]; rfl) hr hlen hL hp
theorem ovr_nil (n j : Nat) : (ovr n []).getD j 0 = 0 := by
  unfold ovr
  simp [List.getD_eq_getElem?_getD, List.getElem?_replicate]
  split <;> rfl
theorem nil_C (w : World) : Kd.C (Kd.int .i64) w none ([] : List Int).length [] := ⟨rfl, by decide, fun h => absurd h (by decide)⟩

set_option maxRecDepth 100000 in
set_option maxHeartbeats 1000000 in
theorem equal_any (x0 x1 : Int) (a : Bool) (A : Option Addr) (cap : Nat) (xs : List (Int × Int)) (w : World) (hx0 : U x0) (hx1 : U x1) (hxs : ∀ p ∈ xs, okS p) (hL : rowsP w A xs) (hle : xs.length ≤ cap) :
    Calls Try.prog 10 #[.agg #[.int .u64 x0, .int .u64 x1], .slice A xs.length cap, .bool a] w fun e w' => e = .returned (.bool true) ∧ Below w.heap.size w w' := by
  have HL := Lib.hid hL
  clear hL
  go_enter Try.func10, Try.ntmps10
  go_upto_region 1 with fail
  have nx := Blk.new w 41 #[.int .u64 x0, .int .u64 x1]
  have nB : Below w.heap.size w (w.alloc (.cells #[.int .u64 x0, .int .u64 x1] 41)) := by go_grown
  generalize (w.alloc (.cells #[.int .u64 x0, .int .u64 x1] 41)) = W1 at *
  have p0 := nx.cell 0
  have p1 := nx.cell 1
  have pf0 := nx.frozen 0
  have pf1 := nx.frozen 1
  simp only [List.getElem?_toArray, List.getElem?_cons_zero, List.getElem?_cons_succ] at p0 p1
  have l1 := nx.lt
  have e0 : x0.tmod 1099511627777 = x0 % 1099511627777 := Int.tmod_eq_emod_of_nonneg hx0.1
  have e1 : x1.tmod 4294967296 = x1 % 4294967296 := Int.tmod_eq_emod_of_nonneg hx1.1
  obtain ⟨r, hr⟩ : ∃ r, r = x0 % 1099511627777 := ⟨_, rfl⟩
  obtain ⟨b, hb⟩ : ∃ b, b = 1 + x1 % 4294967296 := ⟨_, rfl⟩
  have hr0 : 0 ≤ r := by omega
  have hr1 : r ≤ 1099511627776 := by omega
  have hb1 : 1 ≤ b := by omega
  have hb2 : b ≤ 4294967296 := by omega
  have ur : U r := by unfold U; omega
  have ub : U b := by unfold U; omega
  have e2 : IntKind.u64.wrap (1 + x1 % 4294967296) = b := by rw [← hb]; exact wrap_in ub
  rw [← hr] at e0
  clear hr hb
  go_region
  clear p0 pf0 p1 pf1
  replace nx := nx.drew
  replace nB := nB.drew
  clear l1 nx
  generalize W1.drew = W2 at *
  go_upto_if 25 with fail
  go_cut [1] from 23 to 27 (fun v wx => ∃ ys : List (Int × Int), v = .slice A ys.length cap ∧ ys.length ≤ 100 ∧ Hid (∀ p ∈ ys, okS p) ∧ Hid (rowsP w A ys) ∧ wx = W2)
  case first =>
    by_cases h : xs.length ≤ 100
    · have h2 : ¬ (xs.length : Int) > 100 := by omega
      go_wp2_with fail
      go_meet
      exact ⟨xs, rfl, h, hxs, HL.out, rfl⟩
    · have h2 : (xs.length : Int) > 100 := by omega
      have h3 : 100 ≤ cap := by omega
      obtain ⟨bb, off, hA, _⟩ := HL.out 0 (by omega)
      subst hA
      have hl : (xs.take 100).length = 100 := by rw [List.length_take]; omega
      go_wp2_with fail
      go_meet
      exact ⟨xs.take 100, by rw [hl], by omega, fun p hp => hxs p (List.mem_of_mem_take hp), rowsP_take HL.out 100, rfl⟩
  case rest =>
    obtain ⟨ys, rfl, hlen, HY, HR, rfl⟩ := hcut
    clear hle hxs HL
    obtain ⟨z, t, l, b3, g1, g2, hll, hne, _⟩ := same_run a r b ys (ovr ys.length []) (b * 1000000000) 0 false ur hb1 hb2 hr1 (nano_in ub hb2).2.1 U_zero HY.out (ovr_length _ _) (ovr_nil _) ys.length (Nat.le_refl _)
    have k2 : chkM 2 r r b b = 0 := by rw [chkM_two rfl]; exact dchk_good rfl (by omega) (by omega)
    have k1 : chkM 1 r 0 b 0 = 0 := by rw [chkM_one (by decide)]; exact chk_good rfl (by omega) (by omega)
    have G1 := Lib.hid g1
    have G2 := Lib.hid g2
    have HN := Lib.hid hne
    have K1 := Lib.hid k1
    have K2 := Lib.hid k2
    clear g1 g2 hne k1 k2
    go_upto_region 6 with fail
    have m1 := (Blk.new wc 24 #[.int .i64 2, .bool a, .int .u64 r, .int .u64 r, .int .u64 b, .int .u64 b]).alloc (.cells #[.int .i64 1, .bool a, .int .u64 r, .int .u64 0, .int .u64 b, .int .u64 0] 24)
    have m2 : Blk ((wc.alloc (.cells #[.int .i64 2, .bool a, .int .u64 r, .int .u64 r, .int .u64 b, .int .u64 b] 24)).alloc (.cells #[.int .i64 1, .bool a, .int .u64 r, .int .u64 0, .int .u64 b, .int .u64 0] 24)) (wc.heap.size + 1) 24 #[.int .i64 1, .bool a, .int .u64 r, .int .u64 0, .int .u64 b, .int .u64 0] := by
      have h := Blk.new (wc.alloc (.cells #[.int .i64 2, .bool a, .int .u64 r, .int .u64 r, .int .u64 b, .int .u64 b] 24)) 24 #[.int .i64 1, .bool a, .int .u64 r, .int .u64 0, .int .u64 b, .int .u64 0]
      simpa only [World.size_alloc] using h
    have k0 := nB.size
    replace nB : Below w.heap.size w ((wc.alloc (.cells #[.int .i64 2, .bool a, .int .u64 r, .int .u64 r, .int .u64 b, .int .u64 b] 24)).alloc (.cells #[.int .i64 1, .bool a, .int .u64 r, .int .u64 0, .int .u64 b, .int .u64 0] 24)) := (nB.alloc nB.size _).alloc (nB.alloc nB.size _).size _
    generalize (wc.alloc (.cells #[.int .i64 2, .bool a, .int .u64 r, .int .u64 r, .int .u64 b, .int .u64 b] 24)).alloc (.cells #[.int .i64 1, .bool a, .int .u64 r, .int .u64 0, .int .u64 b, .int .u64 0] 24) = W3 at *
    generalize wc.heap.size = gm at *
    have p0 := m1.cell 0
    have p1 := m1.cell 1
    have p2 := m1.cell 2
    have p3 := m1.cell 3
    have p4 := m1.cell 4
    have p5 := m1.cell 5
    have pf0 := m1.frozen 0
    have pf1 := m1.frozen 1
    have pf2 := m1.frozen 2
    have pf3 := m1.frozen 3
    have pf4 := m1.frozen 4
    have pf5 := m1.frozen 5
    simp only [List.getElem?_toArray, List.getElem?_cons_zero, List.getElem?_cons_succ] at p0 p1 p2 p3 p4 p5
    go_wp2_with fail
    refine (run_any 2 a r r b b A cap ys none 0 [] z z t b3 l _ ub ub K2.out G1.out (by omega) (rowsP_below HR.out nB) (nil_C _)).mono ?_
    rintro e W4 ⟨g4, rfl, hh4, r1, hW4⟩
    clear p0 pf0 p1 pf1 p2 pf2 p3 pf3 p4 pf4 p5 pf5
    have g4m := m2.lt
    replace m1 := m1.step hW4
    replace m2 := m2.step hW4
    replace nB := below_of nB hW4
    clear hW4
    go_upto_region 7 with fail
    have l4 := nB.size
    have lm1 := m1.lt
    have lm2 := m2.lt
    have lr1 := r1.lt
    replace m1 := m1.alloc (.cells #[.int .u64 z, .int .u64 z, .int .u64 t, .bool b3] 26)
    replace m2 := m2.alloc (.cells #[.int .u64 z, .int .u64 z, .int .u64 t, .bool b3] 26)
    replace r1 := r1.alloc (.cells #[.int .u64 z, .int .u64 z, .int .u64 t, .bool b3] 26)
    have n4 := Blk.new W4 26 #[.int .u64 z, .int .u64 z, .int .u64 t, .bool b3]
    replace nB := nB.alloc nB.size (.cells #[.int .u64 z, .int .u64 z, .int .u64 t, .bool b3] 26)
    generalize W4.alloc (.cells #[.int .u64 z, .int .u64 z, .int .u64 t, .bool b3] 26) = W5 at *
    generalize W4.heap.size = gl at *
    have p0 := m2.cell 0
    have p1 := m2.cell 1
    have p2 := m2.cell 2
    have p3 := m2.cell 3
    have p4 := m2.cell 4
    have p5 := m2.cell 5
    have pf0 := m2.frozen 0
    have pf1 := m2.frozen 1
    have pf2 := m2.frozen 2
    have pf3 := m2.frozen 3
    have pf4 := m2.frozen 4
    have pf5 := m2.frozen 5
    simp only [List.getElem?_toArray, List.getElem?_cons_zero, List.getElem?_cons_succ] at p0 p1 p2 p3 p4 p5
    go_wp2_with fail
    refine (run_any 1 a r 0 b 0 A cap ys none 0 [] z 0 t b3 l _ ub U_zero K1.out (by rw [Int.zero_mul]; exact G2.out) (by omega) (rowsP_below HR.out nB) (nil_C _)).mono ?_
    rintro e W6 ⟨g6, rfl, hh6, r2, hW6⟩
    clear p0 pf0 p1 pf1 p2 pf2 p3 pf3 p4 pf4 p5 pf5
    have lr1' := r1.lt
    have ln4' := n4.lt
    replace m1 := m1.step hW6
    replace m2 := m2.step hW6
    replace r1 := r1.step hW6
    replace n4 := n4.step hW6
    replace nB := below_of nB hW6
    clear hW6
    go_upto_region 8 with fail
    have hbn : ((ys.length : Int) != (ys.length : Int)) = false := by simp
    go_wp2_with fail
    have lr2 := r2.lt
    have ln4 := n4.lt
    have lm1' := m1.lt
    have lm2' := m2.lt
    have n6 := Blk.new W6 26 #[.int .u64 z, .int .u64 0, .int .u64 t, .bool b3]
    have nB6 := nB.alloc nB.size (.cells #[.int .u64 z, .int .u64 0, .int .u64 t, .bool b3] 26)
    replace m1 := m1.alloc (.cells #[.int .u64 z, .int .u64 0, .int .u64 t, .bool b3] 26)
    replace m2 := m2.alloc (.cells #[.int .u64 z, .int .u64 0, .int .u64 t, .bool b3] 26)
    replace r1 := r1.alloc (.cells #[.int .u64 z, .int .u64 0, .int .u64 t, .bool b3] 26)
    replace r2 := r2.alloc (.cells #[.int .u64 z, .int .u64 0, .int .u64 t, .bool b3] 26)
    replace n4 := n4.alloc (.cells #[.int .u64 z, .int .u64 0, .int .u64 t, .bool b3] 26)
    generalize W6.alloc (.cells #[.int .u64 z, .int .u64 0, .int .u64 t, .bool b3] 26) = W7 at *
    generalize W6.heap.size = gn at *
    have R1 := Lib.hid r1
    have R2 := Lib.hid r2
    have N4 := Lib.hid n4
    have N6 := Lib.hid n6
    have M1 := Lib.hid m1
    have M2 := Lib.hid m2
    have NB := Lib.hid nB6
    clear r1 r2 n4 n6 m1 m2 nB nB6
    go_loopw [15] (fun iv wr => ∃ k : Nat, k ≤ ys.length ∧ iv = .int .i64 k ∧ Hid (Blk wr g4 3 (ints l)) ∧ Hid (Blk wr g6 3 (ints l)) ∧ Hid (Below W7.heap.size W7 wr)) (fun iv _ => ((ys.length : Int) - intOf iv).toNat)
    case atStart => exact ⟨0, by omega, rfl, R1.out, R2.out, Below.refl _ _⟩
    case round =>
      obtain ⟨k, hk, rfl, E1, E2, EB⟩ := hrel
      by_cases hlt : k < ys.length
      · have h2 : (k : Int) < (ys.length : Int) := by omega
        obtain ⟨c, hc⟩ : ∃ c, c = l.getD k 0 := ⟨_, rfl⟩
        have hc1 : c ≠ 1 := by rw [hc]; exact HN.out k hlt
        have hg : (ints l)[k]? = some (.int .i64 c) := by
          unfold ints
          rw [List.getElem?_toArray, List.getElem?_map, hc, List.getD_eq_getElem?_getD, List.getElem?_eq_getElem (by omega)]
          rfl
        have q1 := (E1.out.cell k).trans hg
        have q2 := (E2.out.cell k).trans hg
        have q3 := E1.out.lt
        have q4 := E2.out.lt
        have q5 : (c == 1) = false := by simpa using hc1
        have q6 : (c != c) = false := by simp
        clear hg hc
        go_wp2_with fail
        go_region
        all_goals
          go_wp2_with fail
          exact ⟨⟨k + 1, by omega, rfl, E1.out.drew, E2.out.drew, EB.out.drew⟩, by first | (simp [intOf]; done) | (simp [intOf]; omega)⟩
      · obtain rfl : k = ys.length := by omega
        have n4 := N4.out.step EB.out
        have n6 := N6.out.step EB.out
        have m1 := M1.out.step EB.out
        have m2 := M2.out.step EB.out
        have nB := below_of NB.out EB.out
        clear N4 N6 M1 M2 NB EB E1 E2 R1 R2
        have d0 := n4.cell 0
        have d1 := n4.cell 1
        have d2 := n4.cell 2
        have d3 := n4.cell 3
        have df0 := n4.frozen 0
        have df1 := n4.frozen 1
        have df2 := n4.frozen 2
        have df3 := n4.frozen 3
        simp only [List.getElem?_toArray, List.getElem?_cons_zero, List.getElem?_cons_succ] at d0 d1 d2 d3
        have f0 := n6.cell 0
        have f1 := n6.cell 1
        have f2 := n6.cell 2
        have f3 := n6.cell 3
        have ff0 := n6.frozen 0
        have ff1 := n6.frozen 1
        have ff2 := n6.frozen 2
        have ff3 := n6.frozen 3
        simp only [List.getElem?_toArray, List.getElem?_cons_zero, List.getElem?_cons_succ] at f0 f1 f2 f3
        have p0 := m1.cell 0
        have p1 := m1.cell 1
        have p2 := m1.cell 2
        have p3 := m1.cell 3
        have p4 := m1.cell 4
        have p5 := m1.cell 5
        have pf0 := m1.frozen 0
        have pf1 := m1.frozen 1
        have pf2 := m1.frozen 2
        have pf3 := m1.frozen 3
        have pf4 := m1.frozen 4
        have pf5 := m1.frozen 5
        simp only [List.getElem?_toArray, List.getElem?_cons_zero, List.getElem?_cons_succ] at p0 p1 p2 p3 p4 p5
        have q0 := m2.cell 0
        have q1 := m2.cell 1
        have q2 := m2.cell 2
        have q3 := m2.cell 3
        have q4 := m2.cell 4
        have q5 := m2.cell 5
        have qf0 := m2.frozen 0
        have qf1 := m2.frozen 1
        have qf2 := m2.frozen 2
        have qf3 := m2.frozen 3
        have qf4 := m2.frozen 4
        have qf5 := m2.frozen 5
        simp only [List.getElem?_toArray, List.getElem?_cons_zero, List.getElem?_cons_succ] at q0 q1 q2 q3 q4 q5
        have c1 : double_Check.f 5 2 a r r b b = some 0 := by rw [dcheck_eq 4 _ _ _ _ _ _ ub ub, dchk_good rfl (by omega) (by omega)]
        have c2 : single_Check.f 5 1 a r 0 b 0 = some 0 := by rw [scheck_eq 4 _ _ _ _ _ _ ub U_zero, chk_good rfl (by omega) (by omega)]
        have c3 : meter_Check.f 0 false 0 0 0 0 = some 10 := by rw [mcheck_eq _ _ _ _ _ _ U_zero U_zero]; rfl
        have C1 := Lib.hid c1
        have C2 := Lib.hid c2
        have C3 := Lib.hid c3
        have ln4 := n4.lt
        have ln6 := n6.lt
        have lm1 := m1.lt
        have lm2 := m2.lt
        clear c1 c2 c3 n4 n6 m1
        go_wp2_with fail
        refine (double_Check.calls 5 _ _ _ _ _ _ _ _ C1.out).mono ?_
        rintro e W8 ⟨rfl, hW8⟩
        clear d0 df0 d1 df1 d2 df2 d3 df3
        clear f0 ff0 f1 ff1 f2 ff2 f3 ff3
        clear p0 pf0 p1 pf1 p2 pf2 p3 pf3 p4 pf4 p5 pf5
        clear q0 qf0 q1 qf1 q2 qf2 q3 qf3 q4 qf4 q5 qf5
        replace m2 := m2.step hW8
        replace nB := below_of nB hW8
        clear hW8
        have p0 := m2.cell 0
        have p1 := m2.cell 1
        have p2 := m2.cell 2
        have p3 := m2.cell 3
        have p4 := m2.cell 4
        have p5 := m2.cell 5
        have pf0 := m2.frozen 0
        have pf1 := m2.frozen 1
        have pf2 := m2.frozen 2
        have pf3 := m2.frozen 3
        have pf4 := m2.frozen 4
        have pf5 := m2.frozen 5
        simp only [List.getElem?_toArray, List.getElem?_cons_zero, List.getElem?_cons_succ] at p0 p1 p2 p3 p4 p5
        go_wp2_with fail
        refine (single_Check.calls 5 _ _ _ _ _ _ _ _ C2.out).mono ?_
        rintro e W9 ⟨rfl, hW9⟩
        clear p0 pf0 p1 pf1 p2 pf2 p3 pf3 p4 pf4 p5 pf5
        replace nB := below_of nB hW9
        clear hW9 m2
        go_wp2_with fail
        refine (meter_Check.calls _ _ _ _ _ _ _ _ C3.out).mono ?_
        rintro e W10 ⟨rfl, hW10⟩
        replace nB := below_of nB hW10
        clear hW10
        go_wp2_with fail
        go_returns
        exact ⟨rfl, nB⟩
end Go.Proofs.Ytkefamalcmglgaa.P
namespace Go.Proofs.Ytkefamalcmglgaa
open Go.ChangeShapes Go.WideShapes Go.ChangeAt Go.RowKit
theorem equal_at (x0 x1 : Int) (a : Bool) (A : Option Addr) (n cap : Nat) (w : World) (hx0 : U x0) (hx1 : U x1) (hle : n ≤ cap)
    (hL : ∀ k, k < n → ∃ (b off : Nat) (cs : List Value), A = some ⟨b, off, none⟩ ∧ b < w.heap.size ∧ cellsOk [some .u64, some .i64] cs ∧ ∀ i, i < 2 → w.cell? ⟨b, off + k * 2 + i, none⟩ = cs[i]?) :
    Calls Try.prog 10 #[.agg #[.int .u64 x0, .int .u64 x1], .slice A n cap, .bool a] w fun e w' => e = .returned (.bool true) ∧ Below w.heap.size w w' := by
  obtain ⟨xs, rfl, hok, hr⟩ := P.samples_list hL
  exact P.equal_any x0 x1 a A cap xs w hx0 hx1 hok hr hle
set_option maxRecDepth 100000 in
set_option maxHeartbeats 1000000 in
theorem equal_lifted (os : Os) (started : os.Started) (H : Type) (enc : TypeId × Value → H) :
    ReturnsInHanded {} Try.checked os 10 .any (Rows.wholeEqualSpec.pre6 enc Try.prog Try.f10 Rows.wholeEqualRow.domain false) (Rows.wholeEqualSpec.post enc Try.prog Try.f10 false true false false) := by
  refine returnsInHanded_of_change_sized (C := Try.checked) Try.own started (by kernel_rfl) Try.func10
    (ChangeSpec.witness6 (enc := enc) (C := Try.checked) false ⟨#[], #[.agg #[.int .u64 0, .int .u64 0], .slice none 0 0, .bool false], []⟩ 8 (by kernel_rfl) (by kernel_rfl) (by kernel_rfl) (by kernel_rfl)) ?_
  intro W base args ds gs before hval0 hW hcnd hsz0 _
  have hsz : (DataW.weightsEach Try.prog (Try.f10.params.toList ++ Rows.wholeEqualSpec.plain.varTypes Try.prog) (ds ++ gs)).all (· ≤ reachBytes) = true := hsz0
  have hval : ∀ (j : Nat) t v, Try.f10.params[j]? = some t → args[j]? = some v → Value.okWide Try.prog W .any base t v := hval0
  have hW' := hW
  obtain ⟨p, q, hA0, hV, rfl, hfz, hnd⟩ := hW
  have hA : DataW.TrodAll enc Try.prog W 0 (fun _ => true) true Try.f10.params.toList args.toList ds p := hA0
  have hAk := hA
  rw [Try.params10] at hA hval hsz
  obtain ⟨v0, vs0, d0, ds0, p0, q0, hargs, rfl, rfl, h0, r0⟩ := trodAll_cons hA
  obtain ⟨v1, vs1, d1, ds1, p1, q1, rfl, rfl, rfl, h1, r1⟩ := trodAll_cons r0
  obtain ⟨v2, vs2, d2, ds2, p2, q2, rfl, rfl, rfl, h2, r2⟩ := trodAll_cons r1
  obtain ⟨rfl, rfl, rfl⟩ := trodAll_nil r2
  obtain rfl : args = #[v0, v1, v2] := by simpa using congrArg List.toArray hargs
  obtain ⟨rfl, rfl⟩ := trodVars_none hV
  obtain ⟨zs0, rfl, hz0, hwz0⟩ := open_ints_by_value Try.underlying41 Try.underlying22 (by kernel_rfl) (by kernel_rfl) (hval 0 41 v0 rfl rfl) h0
  obtain ⟨x, y, rfl⟩ := two_of hz0
  have wx : U x := U_wf (hwz0 x (by simp))
  have wy : U y := U_wf (hwz0 y (by simp))
  have hs1 := hsz
  obtain ⟨ao1, n1, cap1, rfl, hle1, hmax1, hL1⟩ := open_structs Try.underlying45 Try.underlying75 (by kernel_rfl) (ks := [some .u64, some .i64]) (by kernel_rfl) (c := 2) (by kernel_rfl) rfl (by decide) (hval 1 45 v1 rfl rfl) h1
  have hz1 := len_sized hs1 (j := 1) rfl rfl Try.underlying45 rfl h1
  obtain ⟨b, rfl, rfl, rfl⟩ := open_bool Try.underlying4 (hval 2 4 v2 rfl rfl) h2
  clear hA0 hval0 hsz0 hsz
  simp only [List.append_nil] at hW' hAk
  refine (equal_at x y b ao1 n1 cap1 W wx wy hle1 hL1).mono fun e W' ⟨he, hb⟩ => ?_
  subst he
  exact ⟨_, rfl, law_post Try.laidOut (by kernel_rfl) rfl Try.underlying4 rfl hW' hAk rfl hb⟩

/-- The law WholeEqual answers true, whatever the input. Condition: none. -/
theorem wholeEqual_holds : Rows.WholeEqualSaid :=
  OpenClaim.holds_of_wide 10 Try.f10 rfl rfl rfl rfl rfl rfl rfl ⟨rfl, rfl, rfl, rfl, rfl⟩ rfl rfl rfl rfl rfl (by kernel_rfl) Try.func10 (by kernel_rfl)
    (of_decide_eq_true (by kernel_rfl)) (by unfold Func.isWrapper; rw [if_neg (of_decide_eq_false (by kernel_rfl))]; exact ⟨rfl, rfl⟩)
    (fun os started H enc _ => equal_lifted os started H enc)
end Go.Proofs.Ytkefamalcmglgaa
