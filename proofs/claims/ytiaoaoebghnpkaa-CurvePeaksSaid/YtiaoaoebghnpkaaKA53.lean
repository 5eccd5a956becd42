/- Part of the proof. -/
import Derived.Deep.DeepCutAuto
import Derived.Test.YtiaoaoebghnpkaaRows
import Derived.Test.YtiaoaoebghnpkaaKA19
import Derived.Test.YtiaoaoebghnpkaaKA50
import Derived.Test.YtiaoaoebghnpkaaKA48
/- The law CurvePeaks answers true, whatever the input. Condition: none. -/
namespace Go.Proofs.Ytiaoaoebghnpkaa.P.Cv
open Go.ChangeShapes Go.WideShapes Go.ChangeAt Go.RowKit Go.Proofs.YtiaoaoebghnpkaaW.PrintWords Go.Proofs.YtiaoaoebghnpkaaW.PrintLast Go.Proofs.YtiaoaoebghnpkaaW.PrintMore
set_option maxRecDepth 100000 in
set_option maxHeartbeats 2000000 in
theorem cpeaks_any (A : Option Addr) (cap : Nat) (xs : List S68) (x y rate : Int) (w : World) (hr : U rate) (hx : U x) (hy : U y) (hxs : ∀ p ∈ xs, okU p) (hC : Kd.C k68 w A xs.length xs) (hle : xs.length ≤ cap) :
    Calls Try.prog 5 #[.slice A xs.length cap, .agg #[.int .u64 x, .int .u64 y], .int .u64 rate] w fun e w' => e = .returned (.bool true) ∧ Below w.heap.size w w' := by
  have HC := Lib.hid hC
  clear hC
  go_enter Try.func5, Try.ntmps5
  go_upto_if 25 with fail
  have nx := Blk.new w 39 #[.int .u64 x, .int .u64 y]
  have nB : Below w.heap.size w (w.alloc (.cells #[.int .u64 x, .int .u64 y] 39)) := by go_grown
  generalize (w.alloc (.cells #[.int .u64 x, .int .u64 y] 39)) = W0 at *
  have HNX := Lib.hid nx
  have HNB := Lib.hid nB
  clear nx nB
  go_cut [0] from 23 to 27 (fun v wx => ∃ ys : List S68, v = .slice A ys.length cap ∧ ys.length ≤ 60 ∧ ys.length ≤ cap ∧ Hid (∀ z ∈ ys, okU z) ∧ Hid (Kd.C k68 w A ys.length ys) ∧ W0 = wx)
  case first =>
    by_cases h : xs.length ≤ 60
    · have h2 : ¬ (xs.length : Int) > 60 := by omega
      go_wp2_with fail
      go_meet
      exact ⟨xs, rfl, h, hle, hxs, HC.out, rfl⟩
    · have h2 : (xs.length : Int) > 60 := by omega
      have h3 : 60 ≤ cap := by omega
      obtain ⟨_, _, hA⟩ := HC.out
      obtain ⟨ad, rfl, _⟩ := hA (by omega)
      have hl : (xs.take 60).length = 60 := by rw [List.length_take]; omega
      go_wp2_with fail
      go_meet
      exact ⟨xs.take 60, by rw [hl], by omega, by omega, okU_take hxs 60, by rw [hl]; exact samp_take HC.out 60 (by omega), rfl⟩
  case rest =>
    obtain ⟨ys, rfl, hlen, hcap, HY, HR, rfl⟩ := hcut
    clear hle hxs HC
    have nx := HNX.out
    have nB := HNB.out
    clear HNX HNB
    have p0 := nx.cell 0
    have p1 := nx.cell 1
    have pf0 := nx.frozen 0
    have pf1 := nx.frozen 1
    simp only [List.getElem?_toArray, List.getElem?_cons_zero, List.getElem?_cons_succ] at p0 p1
    have l0 := nx.lt
    obtain ⟨lo', hlo⟩ : ∃ z, z = (if y < x then y else x) := ⟨_, rfl⟩
    obtain ⟨hi', hhi⟩ : ∃ z, z = (if x < y then y else x) := ⟨_, rfl⟩
    go_upto_region 3 with fail
    refine wp_region_calls 12 (by kernel_rfl) (by kernel_rfl) ?_
    simp only [List.take_succ_cons, List.take_zero, List.drop_succ_cons, List.drop_zero]
    refine walk1_open fun K hK => ?_
    repeat
      apply walk1_value (by rfl)
      · intro W hcl hsz; go_simp; rfl
      simp only [Act.put, List.setIfInBounds_toArray, List.set_cons_zero, List.set_cons_succ]
    refine walk1_nil (hK _ ?_); clear hK K
    intro W1 hW1
    go_upto_region 4 with fail
    rw [← hlo, ← hhi]
    replace nB := nB.trans (hW1.mono nB.size)
    clear hW1
    clear p0 pf0 p1 pf1
    clear nx l0
    have ul : U lo' := by rw [hlo]; split <;> assumption
    have uh : U hi' := by rw [hhi]; split <;> assumption
    have hlh : lo' ≤ hi' := by rw [hlo, hhi]; split <;> split <;> omega
    have HLO := Lib.hid hlo
    have HHI := Lib.hid hhi
    clear hlo hhi
    obtain ⟨K6, g6⟩ := live29_ev
    have G6 := Lib.hid (g6 K6 (Nat.le_refl _))
    clear g6
    have hyU := okU_times HY.out
    have HYU := Lib.hid hyU
    clear hyU
    have hle1 : ys.length ≤ 1000000 := by omega
    rcases chk_cases ys with hok | ⟨a, ha, hbad⟩
    · obtain ⟨n, hn, K1, g1⟩ := peak_ev (W := lo') hok hle1 ul.1 HYU.out
      obtain ⟨n', hn', K2, g2⟩ := rpeak_ev (W := lo') hok hle1 HYU.out
      obtain rfl := peak_unique hn hn'
      obtain ⟨more, hmore, K3, g3⟩ := peak_ev (W := hi') hok hle1 uh.1 HYU.out
      obtain ⟨all, hall, K4, g4⟩ := peak_ev (W := 18446744073709551615) hok hle1 (by omega) HYU.out
      obtain ⟨K5, g5⟩ := total_ev (l := ys) hle1
      have et : totV ys = (all, 0, 0) := by
        unfold totV
        rw [chk_ok hok, if_pos rfl, peak_all hok HYU.out hall]
      rw [et] at g5
      have g0 : curve_Least.f ys rate = some (ceilN (mW rate ys ys.length), 0, 0) := by
        unfold curve_Least.f
        rw [if_pos ⟨⟨hle1, HYU.out⟩, hr⟩]
        unfold lstV
        rw [chk_ok hok, if_pos rfl]
      have hrate := peak_rate hok hr.1 ul.1 HYU.out hn
      have hmn := peak_le hn hmore hlh
      have hnb := peak_in hok hn
      have hmw := mW_in hok hr.1 HYU.out ys.length (Nat.le_refl _)
      have hps := psum_in hok ys.length (Nat.le_refl _)
      obtain ⟨bu, hbu⟩ : ∃ b, b = ceilN (mW rate ys ys.length) := ⟨_, rfl⟩
      have ub : U bu := by
        rw [hbu]
        unfold ceilN U
        split <;> omega
      rw [← hbu] at g0 hrate
      dsimp only at g1 g2 g3 g4 g5
      have G0 := Lib.hid g0
      have G1 := Lib.hid (g1 K1 (Nat.le_refl _))
      have G2 := Lib.hid (g2 K2 (Nat.le_refl _))
      have G3 := Lib.hid (g3 K3 (Nat.le_refl _))
      have G4 := Lib.hid (g4 K4 (Nat.le_refl _))
      have G5 := Lib.hid (g5 K5 (Nat.le_refl _))
      have HRT := Lib.hid hrate
      have n0 : 0 ≤ n := hnb.1
      have n1 : n ≤ 65575000000 := by omega
      clear g0 g1 g2 g3 g4 g5 hrate hbu hmw hps hok et hn hn' hmore hall hnb
      go_wp2_with fail
      refine (curve_Peak.calls K1 _ _ _ _ _ _ _ _ (Kd.C_below HR.out nB) hcap G1.out).mono ?_
      rintro e W2 ⟨rfl, hW2⟩
      replace nB := nB.trans (hW2.mono nB.size)
      clear hW2
      go_upto_region 5 with fail
      have f1 := Blk.new W2 26 #[.int .i64 0, .int .i64 0]
      replace nB := nB.alloc nB.size (.cells #[.int .i64 0, .int .i64 0] 26)
      generalize W2.alloc (.cells #[.int .i64 0, .int .i64 0] 26) = W3 at *
      generalize W2.heap.size = gf1 at *
      go_wp2_with fail
      refine (weighbridgeref29_Peak.calls K2 _ _ _ _ _ _ _ _ (Kd.C_below HR.out nB) hcap G2.out).mono ?_
      rintro e W4 ⟨rfl, hW4⟩
      replace f1 := f1.step hW4
      replace nB := below_of nB hW4
      clear hW4
      go_upto_region 6 with fail
      have lf2 := f1.lt
      have f2 := Blk.new W4 26 #[.int .i64 0, .int .i64 0]
      replace f1 := f1.alloc (.cells #[.int .i64 0, .int .i64 0] 26)
      replace nB := nB.alloc nB.size (.cells #[.int .i64 0, .int .i64 0] 26)
      generalize W4.alloc (.cells #[.int .i64 0, .int .i64 0] 26) = W5 at *
      generalize W4.heap.size = gf2 at *
      have p0 := f1.cell 0
      have p1 := f1.cell 1
      have pf0 := f1.frozen 0
      have pf1 := f1.frozen 1
      simp only [List.getElem?_toArray, List.getElem?_cons_zero, List.getElem?_cons_succ] at p0 p1
      have q0 := f2.cell 0
      have q1 := f2.cell 1
      have qf0 := f2.frozen 0
      have qf1 := f2.frozen 1
      simp only [List.getElem?_toArray, List.getElem?_cons_zero, List.getElem?_cons_succ] at q0 q1
      go_upto_region 10 with fail
      clear p0 pf0 p1 pf1
      clear q0 qf0 q1 qf1
      clear f1 f2 lf2
      go_wp2_with fail
      refine (curve_Peak.calls K3 _ _ _ _ _ _ _ _ (Kd.C_below HR.out nB) hcap G3.out).mono ?_
      rintro e W6 ⟨rfl, hW6⟩
      replace nB := nB.trans (hW6.mono nB.size)
      clear hW6
      go_upto_region 11 with fail
      have f3 := Blk.new W6 26 #[.int .i64 0, .int .i64 0]
      replace nB := nB.alloc nB.size (.cells #[.int .i64 0, .int .i64 0] 26)
      generalize W6.alloc (.cells #[.int .i64 0, .int .i64 0] 26) = W7 at *
      generalize W6.heap.size = gf3 at *
      go_wp2_with fail
      refine (curve_Peak.calls K4 _ _ _ _ _ _ _ _ (Kd.C_below HR.out nB) hcap G4.out).mono ?_
      rintro e W8 ⟨rfl, hW8⟩
      replace f3 := f3.step hW8
      replace nB := below_of nB hW8
      clear hW8
      go_upto_region 12 with fail
      have lf4 := f3.lt
      have f4 := Blk.new W8 26 #[.int .i64 0, .int .i64 0]
      replace f3 := f3.alloc (.cells #[.int .i64 0, .int .i64 0] 26)
      replace nB := nB.alloc nB.size (.cells #[.int .i64 0, .int .i64 0] 26)
      generalize W8.alloc (.cells #[.int .i64 0, .int .i64 0] 26) = W9 at *
      generalize W8.heap.size = gf4 at *
      go_wp2_with fail
      refine (curve_Total.calls K5 _ _ _ _ _ _ _ (Kd.C_below HR.out nB) hcap G5.out).mono ?_
      rintro e W10 ⟨rfl, hW10⟩
      replace f3 := f3.step hW10
      replace f4 := f4.step hW10
      replace nB := below_of nB hW10
      clear hW10
      go_upto_region 13 with fail
      have lf5 := f4.lt
      have f5 := Blk.new W10 26 #[.int .i64 0, .int .i64 0]
      replace f3 := f3.alloc (.cells #[.int .i64 0, .int .i64 0] 26)
      replace f4 := f4.alloc (.cells #[.int .i64 0, .int .i64 0] 26)
      replace nB := nB.alloc nB.size (.cells #[.int .i64 0, .int .i64 0] 26)
      generalize W10.alloc (.cells #[.int .i64 0, .int .i64 0] 26) = W11 at *
      generalize W10.heap.size = gf5 at *
      go_wp2_with fail
      refine (curve_Least.calls _ _ _ _ _ _ _ _ (Kd.C_below HR.out nB) hcap G0.out).mono ?_
      rintro e W12 ⟨rfl, hW12⟩
      replace f3 := f3.step hW12
      replace f4 := f4.step hW12
      replace f5 := f5.step hW12
      replace nB := below_of nB hW12
      clear hW12
      go_upto_region 14 with fail
      have lf6 := f5.lt
      have f6 := Blk.new W12 26 #[.int .i64 0, .int .i64 0]
      replace f3 := f3.alloc (.cells #[.int .i64 0, .int .i64 0] 26)
      replace f4 := f4.alloc (.cells #[.int .i64 0, .int .i64 0] 26)
      replace f5 := f5.alloc (.cells #[.int .i64 0, .int .i64 0] 26)
      replace nB := nB.alloc nB.size (.cells #[.int .i64 0, .int .i64 0] 26)
      generalize W12.alloc (.cells #[.int .i64 0, .int .i64 0] 26) = W13 at *
      generalize W12.heap.size = gf6 at *
      go_wp2_with fail
      refine (mul_any _ _ _ ub nanoU).mono ?_
      rintro e W14 ⟨rfl, hW14⟩
      replace f3 := f3.step hW14
      replace f4 := f4.step hW14
      replace f5 := f5.step hW14
      replace f6 := f6.step hW14
      replace nB := below_of nB hW14
      clear hW14
      go_wp2_with fail
      refine (mul_any _ _ _ hr ul).mono ?_
      rintro e W15 ⟨rfl, hW15⟩
      replace f3 := f3.step hW15
      replace f4 := f4.step hW15
      replace f5 := f5.step hW15
      replace f6 := f6.step hW15
      replace nB := below_of nB hW15
      clear hW15
      go_wp2_with fail
      refine (add_any _ _ _ _ _ (U_hi _) (U_lo _) (U_hi _) (U_lo _)).mono ?_
      rintro e W16 ⟨rfl, hW16⟩
      rw [wd_hi_lo (V_mul ub nanoU), wd_hi_lo (V_mul hr ul)]
      replace f3 := f3.step hW16
      replace f4 := f4.step hW16
      replace f5 := f5.step hW16
      replace f6 := f6.step hW16
      replace nB := below_of nB hW16
      clear hW16
      have vs := V_mul ub nanoU
      have vs2 := V_mul hr ul
      obtain ⟨S, hS⟩ : ∃ S, S = bu * 1000000000 + rate * lo' := ⟨_, rfl⟩
      have S0 : 0 ≤ S := by rw [hS]; have := vs.1; have := vs2.1; omega
      have HRT2 := Lib.hid (show n * 1000000000 ≤ S by rw [hS]; exact HRT.out)
      rw [← hS]
      clear hS vs vs2
      go_upto_region 15 with fail
      have f7 := Blk.new W16 42 #[.int .u64 (hi S), .int .u64 (lo S)]
      have lf7 := f6.lt
      replace f3 := f3.alloc (.cells #[.int .u64 (hi S), .int .u64 (lo S)] 42)
      replace f4 := f4.alloc (.cells #[.int .u64 (hi S), .int .u64 (lo S)] 42)
      replace f5 := f5.alloc (.cells #[.int .u64 (hi S), .int .u64 (lo S)] 42)
      replace f6 := f6.alloc (.cells #[.int .u64 (hi S), .int .u64 (lo S)] 42)
      replace nB := nB.alloc nB.size (.cells #[.int .u64 (hi S), .int .u64 (lo S)] 42)
      generalize W16.alloc (.cells #[.int .u64 (hi S), .int .u64 (lo S)] 42) = W17 at *
      generalize W16.heap.size = gf7 at *
      have p0 := f3.cell 0
      have p1 := f3.cell 1
      have pf0 := f3.frozen 0
      have pf1 := f3.frozen 1
      simp only [List.getElem?_toArray, List.getElem?_cons_zero, List.getElem?_cons_succ] at p0 p1
      have q0 := f4.cell 0
      have q1 := f4.cell 1
      have qf0 := f4.frozen 0
      have qf1 := f4.frozen 1
      simp only [List.getElem?_toArray, List.getElem?_cons_zero, List.getElem?_cons_succ] at q0 q1
      have r0 := f5.cell 0
      have r1 := f5.cell 1
      have rf0 := f5.frozen 0
      have rf1 := f5.frozen 1
      simp only [List.getElem?_toArray, List.getElem?_cons_zero, List.getElem?_cons_succ] at r0 r1
      have s0 := f6.cell 0
      have s1 := f6.cell 1
      have sf0 := f6.frozen 0
      have sf1 := f6.frozen 1
      simp only [List.getElem?_toArray, List.getElem?_cons_zero, List.getElem?_cons_succ] at s0 s1
      have t0 := f7.cell 0
      have t1 := f7.cell 1
      have tf0 := f7.frozen 0
      have tf1 := f7.frozen 1
      simp only [List.getElem?_toArray, List.getElem?_cons_zero, List.getElem?_cons_succ] at t0 t1
      have lt3 := f3.lt
      have lt4 := f4.lt
      have lt5 := f5.lt
      have lt6 := f6.lt
      have lt7 := f7.lt
      have un : U n := by unfold U; omega
      rcases Bool.eq_false_or_eq_true (ov S) with ho | ho
      · rw [ho]
        refine wp_region_calls 47 (by kernel_rfl) (by kernel_rfl) ?_
        simp only [List.take_succ_cons, List.take_zero, List.drop_succ_cons, List.drop_zero]
        refine walk1_open fun K hK => ?_
        apply walk1_call (by rfl)
        · intro W hsz; go_simp; first | exact ⟨rfl, rfl⟩ | rfl
        · intro W hlW; (refine (weighbridgelaw29_live.calls K6 _ _ G6.out).mono ?_; rintro e w' ⟨rfl, hw'⟩; exact ⟨rfl, hw'⟩)
        simp only [Act.put, List.setIfInBounds_toArray, List.set_cons_zero, List.set_cons_succ]
        repeat
          apply walk1_value (by rfl)
          · intro W hcl hsz; go_simp; rfl
          simp only [Act.put, List.setIfInBounds_toArray, List.set_cons_zero, List.set_cons_succ]
        apply walk1_skip (by rfl)
        simp only [Act.put, List.setIfInBounds_toArray, List.set_cons_zero, List.set_cons_succ]
        apply walk1_skip (by rfl)
        simp only [Act.put, List.setIfInBounds_toArray, List.set_cons_zero, List.set_cons_succ]
        apply walk1_skip (by rfl)
        simp only [Act.put, List.setIfInBounds_toArray, List.set_cons_zero, List.set_cons_succ]
        apply walk1_skip (by rfl)
        simp only [Act.put, List.setIfInBounds_toArray, List.set_cons_zero, List.set_cons_succ]
        apply walk1_skip (by rfl)
        simp only [Act.put, List.setIfInBounds_toArray, List.set_cons_zero, List.set_cons_succ]
        apply walk1_skip (by rfl)
        simp only [Act.put, List.setIfInBounds_toArray, List.set_cons_zero, List.set_cons_succ]
        repeat
          apply walk1_value (by rfl)
          · intro W hcl hsz; go_simp; rfl
          simp only [Act.put, List.setIfInBounds_toArray, List.set_cons_zero, List.set_cons_succ]
        refine walk1_nil (hK _ ?_); clear hK K
        intro W18 hW18
        replace nB := nB.trans (hW18.mono nB.size)
        clear hW18
        clear p0 pf0 p1 pf1
        clear q0 qf0 q1 qf1
        clear r0 rf0 r1 rf1
        clear s0 sf0 s1 sf1
        clear t0 tf0 t1 tf1
        go_wp2_with fail
        go_returns
        exact ⟨by simp, nB⟩
      · rw [ho]
        have vS : V S := by
          unfold ov at ho
          have := of_decide_eq_false ho
          unfold V
          omega
        have hS2 := HRT2.out
        have hls : decide (S < n * 1000000000) = false := decide_eq_false (by omega)
        have HLS := Lib.hid hls
        clear hls hS2
        refine wp_region_calls 47 (by kernel_rfl) (by kernel_rfl) ?_
        simp only [List.take_succ_cons, List.take_zero, List.drop_succ_cons, List.drop_zero]
        refine walk1_open fun K hK => ?_
        apply walk1_call (by rfl)
        · intro W hsz; go_simp; first | exact ⟨rfl, rfl⟩ | rfl
        · intro W hlW; (refine (weighbridgelaw29_live.calls K6 _ _ G6.out).mono ?_; rintro e w' ⟨rfl, hw'⟩; exact ⟨rfl, hw'⟩)
        simp only [Act.put, List.setIfInBounds_toArray, List.set_cons_zero, List.set_cons_succ]
        repeat
          apply walk1_value (by rfl)
          · intro W hcl hsz; go_simp; rfl
          simp only [Act.put, List.setIfInBounds_toArray, List.set_cons_zero, List.set_cons_succ]
        apply walk1_call (by rfl)
        · intro W hsz; go_simp; first | exact ⟨rfl, rfl⟩ | rfl
        · intro W hlW; exact mul_any _ _ _ (U_wrap n) nanoU
        simp only [Act.put, List.setIfInBounds_toArray, List.set_cons_zero, List.set_cons_succ]
        apply walk1_call (by rfl)
        · intro W hsz; go_simp; first | exact ⟨rfl, rfl⟩ | rfl
        · intro W hlW; (refine (less_any _ _ _ _ _ (U_lo _) (U_lo _)).mono ?_; rintro e w' ⟨rfl, hw'⟩; rw [wd_hi_lo vS, wU un, wd_hi_lo (V_mul un nanoU), HLS.out]; exact ⟨rfl, hw'⟩)
        simp only [Act.put, List.setIfInBounds_toArray, List.set_cons_zero, List.set_cons_succ]
        repeat
          apply walk1_value (by rfl)
          · intro W hcl hsz; go_simp; rfl
          simp only [Act.put, List.setIfInBounds_toArray, List.set_cons_zero, List.set_cons_succ]
        refine walk1_nil (hK _ ?_); clear hK K
        intro W18 hW18
        replace nB := nB.trans (hW18.mono nB.size)
        clear hW18
        clear p0 pf0 p1 pf1
        clear q0 qf0 q1 qf1
        clear r0 rf0 r1 rf1
        clear s0 sf0 s1 sf1
        clear t0 tf0 t1 tf1
        go_wp2_with fail
        go_returns
        exact ⟨by simp, nB⟩
    · obtain ⟨K1, g1⟩ := peak_bad (W := lo') hle1 hbad
      obtain ⟨K2, g2⟩ := rpeak_bad (W := lo') hle1 hbad
      dsimp only at g1 g2
      have G1 := Lib.hid (g1 K1 (Nat.le_refl _))
      have G2 := Lib.hid (g2 K2 (Nat.le_refl _))
      clear g1 g2 hbad ha
      go_wp2_with fail
      refine (curve_Peak.calls K1 _ _ _ _ _ _ _ _ (Kd.C_below HR.out nB) hcap G1.out).mono ?_
      rintro e W2 ⟨rfl, hW2⟩
      replace nB := nB.trans (hW2.mono nB.size)
      clear hW2
      go_upto_region 5 with fail
      have f1 := Blk.new W2 26 #[.int .i64 1, .int .i64 (a : Int)]
      replace nB := nB.alloc nB.size (.cells #[.int .i64 1, .int .i64 (a : Int)] 26)
      generalize W2.alloc (.cells #[.int .i64 1, .int .i64 (a : Int)] 26) = W3 at *
      generalize W2.heap.size = gf1 at *
      go_wp2_with fail
      refine (weighbridgeref29_Peak.calls K2 _ _ _ _ _ _ _ _ (Kd.C_below HR.out nB) hcap G2.out).mono ?_
      rintro e W4 ⟨rfl, hW4⟩
      replace f1 := f1.step hW4
      replace nB := below_of nB hW4
      clear hW4
      go_upto_region 6 with fail
      have lf2 := f1.lt
      have f2 := Blk.new W4 26 #[.int .i64 1, .int .i64 (a : Int)]
      replace f1 := f1.alloc (.cells #[.int .i64 1, .int .i64 (a : Int)] 26)
      replace nB := nB.alloc nB.size (.cells #[.int .i64 1, .int .i64 (a : Int)] 26)
      generalize W4.alloc (.cells #[.int .i64 1, .int .i64 (a : Int)] 26) = W5 at *
      generalize W4.heap.size = gf2 at *
      have p0 := f1.cell 0
      have p1 := f1.cell 1
      have pf0 := f1.frozen 0
      have pf1 := f1.frozen 1
      simp only [List.getElem?_toArray, List.getElem?_cons_zero, List.getElem?_cons_succ] at p0 p1
      have q0 := f2.cell 0
      have q1 := f2.cell 1
      have qf0 := f2.frozen 0
      have qf1 := f2.frozen 1
      simp only [List.getElem?_toArray, List.getElem?_cons_zero, List.getElem?_cons_succ] at q0 q1
      go_wp2_with fail
      refine (weighbridgelaw29_live.calls K6 _ _ G6.out).mono ?_
      rintro e W9 ⟨rfl, hW9⟩
      clear p0 pf0 p1 pf1
      clear q0 qf0 q1 qf1
      replace f1 := f1.step hW9
      replace f2 := f2.step hW9
      replace nB := below_of nB hW9
      clear hW9
      go_wp2_with fail
      go_returns
      exact ⟨by simp, nB⟩
end Go.Proofs.Ytiaoaoebghnpkaa.P.Cv
namespace Go.Proofs.Ytiaoaoebghnpkaa
open Go.ChangeShapes Go.WideShapes Go.ChangeAt Go.RowKit
theorem cpeaks_at (A : Option Addr) (n cap : Nat) (x y rate : Int) (w : World) (hr : U rate) (hx : U x) (hy : U y) (hle : n ≤ cap) (hmax : cap ≤ maxLen)
    (hL : ∀ k, k < n → ∃ (b off : Nat) (cs : List Value), A = some ⟨b, off, none⟩ ∧ b < w.heap.size ∧ cellsOk [some .u64, some .i64] cs ∧ ∀ i, i < 2 → w.cell? ⟨b, off + k * 2 + i, none⟩ = cs[i]?) :
    Calls Try.prog 5 #[.slice A n cap, .agg #[.int .u64 x, .int .u64 y], .int .u64 rate] w fun e w' => e = .returned (.bool true) ∧ Below w.heap.size w w' := by
  obtain ⟨xs, rfl, hok, hC⟩ := P.Cv.samp_list (Nat.le_trans hle hmax) hL
  exact P.Cv.cpeaks_any A cap xs x y rate w hr hx hy hok hC hle
set_option maxRecDepth 100000 in
set_option maxHeartbeats 1000000 in
theorem cpeaks_lifted (os : Os) (started : os.Started) (H : Type) (enc : TypeId × Value → H) :
    ReturnsInHanded {} Try.checked os 5 .any (Rows.curvePeaksSpec.pre6 enc Try.prog Try.f5 Rows.curvePeaksRow.domain false) (Rows.curvePeaksSpec.post enc Try.prog Try.f5 false true false false) := by
  refine returnsInHanded_of_change_sized (C := Try.checked) Try.own started (by kernel_rfl) Try.func5
    (ChangeSpec.witness6 (enc := enc) (C := Try.checked) false ⟨#[], #[.slice none 0 0, .agg #[.int .u64 0, .int .u64 0], .int .u64 0], []⟩ 8 (by kernel_rfl) (by kernel_rfl) (by kernel_rfl) (by kernel_rfl)) ?_
  intro W base args ds gs before hval0 hW hcnd hsz0 _
  have hsz : (DataW.weightsEach Try.prog (Try.f5.params.toList ++ Rows.curvePeaksSpec.plain.varTypes Try.prog) (ds ++ gs)).all (· ≤ reachBytes) = true := hsz0
  have hval : ∀ (j : Nat) t v, Try.f5.params[j]? = some t → args[j]? = some v → Value.okWide Try.prog W .any base t v := hval0
  have hW' := hW
  obtain ⟨p, q, hA0, hV, rfl, hfz, hnd⟩ := hW
  have hA : DataW.TrodAll enc Try.prog W 0 (fun _ => true) true Try.f5.params.toList args.toList ds p := hA0
  have hAk := hA
  rw [Try.params5] at hA hval hsz
  obtain ⟨v0, vs0, d0, ds0, p0, q0, hargs, rfl, rfl, h0, r0⟩ := trodAll_cons hA
  obtain ⟨v1, vs1, d1, ds1, p1, q1, rfl, rfl, rfl, h1, r1⟩ := trodAll_cons r0
  obtain ⟨v2, vs2, d2, ds2, p2, q2, rfl, rfl, rfl, h2, r2⟩ := trodAll_cons r1
  obtain ⟨rfl, rfl, rfl⟩ := trodAll_nil r2
  obtain rfl : args = #[v0, v1, v2] := by simpa using congrArg List.toArray hargs
  obtain ⟨rfl, rfl⟩ := trodVars_none hV
  have hs0 := hsz
  obtain ⟨ao0, n0, cap0, rfl, hle0, hmax0, hL0⟩ := open_structs Try.underlying22 Try.underlying68 (by kernel_rfl) (ks := [some .u64, some .i64]) (by kernel_rfl) (c := 2) (by kernel_rfl) rfl (by decide) (hval 0 22 v0 rfl rfl) h0
  have hz0 := len_sized hs0 (j := 0) rfl rfl Try.underlying22 rfl h0
  obtain ⟨zs1, rfl, hz1, hwz1⟩ := open_ints_by_value Try.underlying39 Try.underlying23 (by kernel_rfl) (by kernel_rfl) (hval 1 39 v1 rfl rfl) h1
  obtain ⟨x, y, rfl⟩ := two_of hz1
  have wx : U x := U_wf (hwz1 x (by simp))
  have wy : U y := U_wf (hwz1 y (by simp))
  obtain ⟨r, rfl, rfl, rfl, wfr⟩ := open_int Try.underlying23 (hval 2 23 v2 rfl rfl) h2
  have wr : U r := U_wf wfr
  clear hA0 hval0 hsz0 hsz
  simp only [List.append_nil] at hW' hAk
  refine (cpeaks_at ao0 n0 cap0 x y r W wr wx wy hle0 hmax0 hL0).mono fun e W' ⟨he, hb⟩ => ?_
  subst he
  exact ⟨_, rfl, law_post Try.laidOut (by kernel_rfl) rfl Try.underlying4 rfl hW' hAk rfl hb⟩

/-- The law CurvePeaks answers true, whatever the input. Condition: none. -/
theorem curvePeaks_holds : Rows.CurvePeaksSaid :=
  OpenClaim.holds_of_wide 5 Try.f5 rfl rfl rfl rfl rfl rfl rfl ⟨rfl, rfl, rfl, rfl, rfl⟩ rfl rfl rfl rfl rfl (by kernel_rfl) Try.func5 (by kernel_rfl)
    (of_decide_eq_true (by kernel_rfl)) (by unfold Func.isWrapper; rw [if_neg (of_decide_eq_false (by kernel_rfl))]; exact ⟨rfl, rfl⟩)
    (fun os started H enc _ => cpeaks_lifted os started H enc)
end Go.Proofs.Ytiaoaoebghnpkaa
