/- Part of the proof. -/
import Derived.Test.YtiaoaoebghnpkaaKA18
import Derived.Test.YtiaoaoebghnpkaaKA25
import Derived.Test.YtiaoaoebghnpkaaKA27
namespace Go.Proofs.Ytiaoaoebghnpkaa.P
open Go.RowKit Go.Proofs.YtiaoaoebghnpkaaW.PrintWords Go.Proofs.YtiaoaoebghnpkaaW.PrintLast Go.Proofs.YtiaoaoebghnpkaaW.PrintMore
attribute [local go_sem] max2_int min2_int max_two min_two max_three min_three max_four min_four   -- for this text's walks alone
set_option linter.unusedVariables false
set_option linter.unusedSimpArgs false

/-! ### weighbridgeref29_over: function 43 -/
def weighbridgeref29_over.l0 : Nat → List (S68) → Int → Int → Int → List Int → Int → Int → Option (Int × Int)
 | 0, _, _, _, _, _, _, _ => none
 | k + 1, x0, x1, x2, x3, x9, x10, x12 => if x12 ≤ x3 then (if 0 ≤ x12 then (if x12 < (x0.length : Int) then (if x9.length < 17592186044416 then (weighbridgeref29_over.l0 k x0 x1 x2 x3 (x9 ++ [(rd_T68 x0 x12).f0]) x10 (wrap64 (x12 + 1))) else (none)) else (none)) else (none)) else ((weighbridgeref25_Run.f k x9).bind fun t114 => ((weighbridgeref02_Mul.f (IntKind.u64.wrap (x10)) 1000000000).bind fun bt117 => (if 0 ≤ x3 then (if x3 < (t114.length : Int) then (if 0 ≤ x2 then (if x2 < (t114.length : Int) then ((weighbridgeref02_Mul.f x1 (IntKind.u64.wrap ((rd t114 x3) - (rd t114 x2)))).bind fun bt122 => ((weighbridgeref02_Less.f bt117.1 bt117.2 bt122.1 bt122.2).bind fun t125 => (if t125 = true then (some (0, 0)) else ((weighbridgeref02_Sub.f bt117.1 bt117.2 bt122.1 bt122.2).bind fun bt126 => (some (bt126.1, bt126.2.1)))))) else (none)) else (none)) else (none)) else (none))))
def weighbridgeref29_over.f (k : Nat) (l0 : List (S68)) (a1 : Int) (a2 : Int) (a3 : Int) : Option (Int × Int) := if 0 ≤ a2 then (if a2 ≤ (wrap64 (a3 + 1)) then (if (wrap64 (a3 + 1)) ≤ (l0.length : Int) then ((weighbridgeref29_Total.f k ((l0.take ((wrap64 (a3 + 1)) : Int).toNat).drop (a2 : Int).toNat)).bind fun bt106 => (weighbridgeref29_over.l0 k l0 a1 a2 a3 ([] : List Int) bt106.1 0)) else (none)) else (none)) else (none)
def weighbridgeref29_over.T9 : Bool × List (List Nat × List Nat) := (true, [([], []), ([], []), ([], []), ([1, 2], [1, 2]), ([3], [3]), ([], []), ([], []), ([5, 6], [5, 6]), ([7], [7]), ([4, 8], [4, 8]), ([0, 9], [0, 9]), ([], []), ([11, 10, 10, 0, 1, 2, 3, 4, 5, 6, 7, 8, 9, 10, 11], [10, 11])])
def weighbridgeref29_over.B9 : List Nat := [0, 0, 0, 6, 14, 0, 0, 96, 224, 510, 1023, 0, 4095]
theorem weighbridgeref29_over.tab9 : rtab .any (opsOf Try.f43 9) = weighbridgeref29_over.T9 := by kernel_rfl
theorem weighbridgeref29_over.bits9 : waitsOk weighbridgeref29_over.T9.2 weighbridgeref29_over.B9 = true := by kernel_rfl
set_option maxHeartbeats 8000000 in
set_option maxRecDepth 100000 in
theorem weighbridgeref29_over.calls (k : Nat) (A0 : Option Addr) (c0 : Nat) (l0 : List (S68)) (a1 : Int) (a2 : Int) (a3 : Int) (r1 : Int) (r2 : Int) (w : World) (hr0 : Kd.C k68 w A0 l0.length l0) (hc0 : l0.length ≤ c0) (h : weighbridgeref29_over.f k l0 a1 a2 a3 = some (r1, r2)) :
  Calls Try.prog 43 #[.slice A0 l0.length c0, .int .u64 a1, .int .i64 a2, .int .i64 a3] w fun e w' => e = .returned (.agg #[.int .u64 r1, .int .u64 r2]) ∧ Below w.heap.size w w' := by
 have hu42 := Try.underlying42
 have hu26 := Try.underlying26
 have HR0 := zq3 hr0
 have HC0 := zq3 hc0
 clear hr0 hc0
 have HB := zq3 (Below.refl w.heap.size w)
 have H : (if 0 ≤ a2 then (if a2 ≤ (wrap64 (a3 + 1)) then (if (wrap64 (a3 + 1)) ≤ (l0.length : Int) then ((weighbridgeref29_Total.f k ((l0.take ((wrap64 (a3 + 1)) : Int).toNat).drop (a2 : Int).toNat)).bind fun bt106 => (weighbridgeref29_over.l0 k l0 a1 a2 a3 ([] : List Int) bt106.1 0)) else (none)) else (none)) else (none)) = some (r1, r2) := h
 clear h
 by_cases c5 : 0 ≤ a2
 ·
  rw [if_pos c5] at H
  have c5b0 := eq_true c5
  have c5b1 : decide (0 ≤ a2) = true := decide_eq_true c5
  clear c5
  by_cases c6 : a2 ≤ (wrap64 (a3 + 1))
  ·
   rw [if_pos c6] at H
   have c6b0 := eq_true c6
   have c6b1 : decide (a2 ≤ (wrap64 (a3 + 1))) = true := decide_eq_true c6
   by_cases c7 : (wrap64 (a3 + 1)) ≤ (l0.length : Int)
   ·
    rw [if_pos c7] at H
    have c7b0 := eq_true c7
    have c7b1 : decide ((wrap64 (a3 + 1)) ≤ (l0.length : Int)) = true := decide_eq_true c7
    obtain ⟨y102, hy102⟩ : ∃ y_ : List (S68), y_ = ((l0.take ((wrap64 (a3 + 1)) : Int).toNat).drop (a2 : Int).toNat) := ⟨_, rfl⟩
    replace H : ((weighbridgeref29_Total.f k y102).bind fun bt106 => (weighbridgeref29_over.l0 k l0 a1 a2 a3 ([] : List Int) bt106.1 0)) = some (r1, r2) := by first | (rw [hy102]; with_reducible exact H) | (have H2_ := (Option.bind_some _ _).symm.trans H; rw [hy102]; with_reducible exact H2_) | (have H2_ := (Option.bind_some _ _).symm.trans H; with_reducible exact H2_) | with_reducible exact H | (rw [hy102]; exact H) | exact H
    have Ny102 := zq3 hy102
    clear hy102
    replace H := Option.bind_eq_some_iff.mp H
    obtain ⟨⟨t106, t107, t108⟩, A80, H⟩ := H
    replace H : (weighbridgeref29_over.l0 k l0 a1 a2 a3 ([] : List Int) t106 0) = some (r1, r2) := H
    have A8 := zq3 A80
    clear A80
    have H' := zq3 H
    clear H
    go_enter Try.func43, Try.ntmps43
    go_wp2_with (first | ((with_reducible refine zd 8 rfl ?_); refine zb 8 #[.int .u64 0, .int .u64 0] 42 ?_; intro gb101 hg w9 hbox hb; have BK101 := zq3 (hbox); have GW101 := ze hg HB; have GE101 := GW101; replace HB := zt HB hb; clear hb hbox hg; have q10 : ((wrap64 (a3 + 1)) : Int) ≤ ((l0.length : Int) : Int) := of_decide_eq_true (by first | (with_reducible assumption) | assumption); obtain ⟨i010, hi010, _, hsz10, _⟩ := info_parts info68; have hroom10 : l0.length ≤ c0 := HC0.out; have hC10 : Kd.C k68 _ A0 l0.length l0 := HR0.out; have ql10 : (a2 : Int) ≤ ((wrap64 (a3 + 1)) : Int) := of_decide_eq_true (by first | (with_reducible assumption) | assumption); have q010 : (0 : Int) ≤ (a2 : Int) := of_decide_eq_true (by first | (with_reducible assumption) | assumption); have hcut10 := cut_mid (P := Try.prog) 22 68 .i64 .i64 Try.underlying22 hi010 2 hsz10 A0 l0.length c0 a2 (wrap64 (a3 + 1)) q010 ql10 q10 hroom10; have hr10 := Kd.C_mid (lo := (a2 : Int).toNat) (hi := ((wrap64 (a3 + 1)) : Int).toNat) (c := c0) hC10 (by omega) (by omega) hroom10; obtain ⟨A10, hA10⟩ : ∃ A1, A1 = (if c0 = (a2 : Int).toNat then A0 else (A0 : Option Addr).map (·.add ((a2 : Int).toNat * 2))) := ⟨_, rfl⟩; obtain ⟨c10, hc10⟩ : ∃ c1, c1 = c0 - (a2 : Int).toNat := ⟨_, rfl⟩; have hy10 : y102.length = ((wrap64 (a3 + 1)) : Int).toNat - (a2 : Int).toNat := (by rw [Ny102.out, List.length_drop, List.length_take] <;> omega); rw [show ((l0).take ((wrap64 (a3 + 1)) : Int).toNat).drop (a2 : Int).toNat = y102 from Ny102.out.symm] at hr10; replace hr10 : Kd.C k68 _ A10 y102.length y102 := (by rw [hA10]; exact hr10); rw [← hy10, ← hA10, ← hc10] at hcut10; have HR105 := zq3 hr10; have HC105 := zq3 (show y102.length ≤ c10 from by rw [hy10, hc10]; exact Nat.sub_le_sub_right (Nat.le_trans (by omega) hroom10) _); clear hr10 hC10 hroom10 hi010 hsz10 hc10; have KY10 := zq3 hy10; have KA10 := zq3 hA10; clear hy10 hA10; replace q10 := eq_true q10) | ((with_reducible refine gate_callee (f := 14) rfl ?_); refine zgo (some 24) Try.func14 #[.slice A10 y102.length c10] ?_; (with_reducible refine (weighbridgeref29_Total.calls k _ _ y102 t106 t107 t108 _ ?side1 ?side2 A8.out).mono ?_); (case side1 => repeat (first | exact (Kd.C_below HR105.out HB.out) | (with_reducible refine Kd.C_alloc ?_ _) | (with_reducible refine Kd.C_drewN ?_ _) | (with_reducible refine Kd.C_drew ?_))); (case side2 => exact HC105.out); rintro e w11 ⟨rfl, hb⟩; refine ⟨_, rfl, ?_⟩; replace BK101 := zs BK101 hb; replace HB := zt HB hb; (try clear hb)) | ((with_reducible refine zd 11 rfl ?_); refine zb 11 #[.int .i64 0, .int .i64 0] 26 ?_; intro gb109 hg w12 hbox hb; have BK109 := zq3 (hbox); have GW109 := ze hg HB; have GE109 := GW109; have NB101_109 := zl hg BK101; have NB109_101 := zg hg BK101; replace BK101 := zs BK101 hb; replace HB := zt HB hb; clear hb hbox hg; have hnb13 := NB109_101.out; have hnc13 := NB101_109.out; obtain ⟨hc14_0, hc14_1⟩ := zc2 BK109; obtain ⟨hf14_0, hf14_1⟩ := zf2 BK109))
    go_loopg [9, 12] k (fun kq v9 v12 w' => ∃ (x9_1 : List Int) (x12_1 : Int), v12 = .int .i64 x12_1 ∧ Aside0 (weighbridgeref29_over.l0 kq l0 a1 a2 a3 x9_1 t106 x12_1 = some (r1, r2)) ∧ Aside0 (kq ≤ k) ∧ Aside0 (Kd.R (Kd.int .u64) 23 w' w.heap.size (fun _ => True) v9 x9_1) ∧ Aside0 (w'.heap[gb101]? = some (.cells #[.int .u64 0, .int .u64 0] 42 (0, 0))) ∧ Aside0 (w'.heap[gb109]? = some (.cells #[.int .i64 t107, .int .i64 t108] 26 (0, 0))) ∧ Aside0 (Below w.heap.size w w'))
    case atStart => exact ⟨(([] : List Int)), (0), (by first | rfl | (simp; done) | (simp [*]; done)), H', ⟨Nat.le_refl _⟩, ⟨by first | exact Kd.R_nil _ _ _ _ _ | exact Kd.N_nil _ _ _ _ _ | exact Kd.V_nil _ _ _ _ _ | exact Kd.Q_nil _ _ _ _ _ | exact Kd.S_nil _ _ _ _ _⟩, ⟨zw BK101⟩, ⟨zw2 BK109⟩, ⟨zh HB⟩⟩
    case round =>
     clear H'
     (try clear c1); (try clear q1); (try clear p2); (try clear c4); (try clear c5); (try clear c5b0); (try clear c5b1); (try clear c6); (try clear c6b0); (try clear c6b1); (try clear p6); (try clear c7); (try clear c7b0); (try clear c7b1); (try clear c10); (try clear q10); (try clear c13); (try clear c14)
     try clear hc14_0 hc14_1 hf14_0 hf14_1
     (try clear q010); (try clear q10)
     obtain ⟨x9_1, x12_1, rfl, HA, HK1, HO_9, BK101, BK109, HB⟩ := hrel
     cases gk with
     | zero => exact absurd HA.out (by simp [weighbridgeref29_over.l0])
     | succ k1 =>
      have H := HA.out
      clear HA
      simp only [weighbridgeref29_over.l0] at H
      by_cases c15 : x12_1 ≤ a3
      ·
       rw [if_pos c15] at H
       have c15b0 : decide (x12_1 ≤ a3) = true := decide_eq_true c15
       clear c15
       by_cases c16 : 0 ≤ x12_1
       ·
        rw [if_pos c16] at H
        have c16b0 : decide (0 ≤ x12_1) = true := decide_eq_true c16
        clear c16
        by_cases c17 : x12_1 < (l0.length : Int)
        ·
         rw [if_pos c17] at H
         have c17b0 : decide (x12_1 < (l0.length : Int)) = true := decide_eq_true c17
         clear c17
         by_cases c18 : x9_1.length < 17592186044416
         ·
          rw [if_pos c18] at H
          have LMc18 := zq3 c18
          clear c18
          obtain ⟨y111, hy111⟩ : ∃ y_ : List Int, y_ = (x9_1 ++ [(rd_T68 l0 x12_1).f0]) := ⟨_, rfl⟩
          replace H : (weighbridgeref29_over.l0 k1 l0 a1 a2 a3 y111 t106 (wrap64 (x12_1 + 1))) = some (r1, r2) := by first | (rw [hy111]; with_reducible exact H) | (have H2_ := (Option.bind_some _ _).symm.trans H; rw [hy111]; with_reducible exact H2_) | (have H2_ := (Option.bind_some _ _).symm.trans H; with_reducible exact H2_) | with_reducible exact H | (rw [hy111]; exact H) | exact H
          have Ny111 := zq3 hy111
          clear hy111
          have H' := zq3 H
          clear H
          have p110 : 0 ≤ (x12_1 : Int) := of_decide_eq_true (by first | (with_reducible assumption) | assumption)
          have q110 : x12_1 < (l0.length : Int) := of_decide_eq_true (by first | (with_reducible assumption) | assumption)
          obtain ⟨ad110, e110, hx110_0, hx110_1⟩ := at_T68 HR0.out x12_1 p110 q110
          cases e110
          replace hx110_0 := (HB.out.cell (World.block_lt_of_cell? w _ hx110_0)).trans hx110_0
          replace hx110_1 := (HB.out.cell (World.block_lt_of_cell? w _ hx110_1)).trans hx110_1
          replace p110 := eq_true p110
          replace q110 := eq_true q110
          go_wp2_with (first | ((with_reducible refine gate_builtin (b := .append) (xs := #[.tmp 32, .tmp 38]) rfl ?_); at_builtin; refine Kd.R_append (Kd.int .u64) (w0 := w) w.heap.size rfl (.tmp 32) (.tmp 38) 57 23 (.int .u64 0) 8 rfl Try.underlying57 info23 rfl (by decide) (by omega) u9 x9_1 ((rd_T68 l0 x12_1).f0) [.int .u64 ((rd_T68 l0 x12_1).f0)] (fun _ => True) (fun _ => False) rfl rfl ?aP (fun _ hk => hk.elim) ?aF ?aO ?aB ?aS ?aL ?_; (case aP => exact rfl); (case aB => exact (zh HB)); (case aF => exact (fun _ _ => trivial)); (case aO => exact (zo HO_9)); (case aS => exact (below_size (zh HB))); (case aL => have := LMc18.out; omega); intro v112 w19 ho hb hg hat; rw [← Ny111.out] at ho; have HO113 := zq3 (ho); replace BK101 := zq3 (blk_grown (g := gb101) (o := .cells #[.int .u64 0, .int .u64 0] 42 (0, 0)) (zw BK101) hg (Kd.R_ne HO_9.out BK101.out (by decide))); replace BK109 := zq3 (blk_grown (g := gb109) (o := .cells #[.int .i64 t107, .int .i64 t108] 26 (0, 0)) (zw BK109) hg (Kd.R_ne HO_9.out BK109.out (by decide))); replace HB := zq3 (hb); clear HO_9; clear ho hb hg hat))
          go_roundg k1
          case measure => have := HK1.out; omega
          case rel => exact ⟨(y111), (wrap64 (x12_1 + 1)), (by first | rfl | (simp; done) | (simp [*]; done)), H', ⟨by have := HK1.out; omega⟩, ⟨by (with_reducible repeat (first | apply Kd.R_alloc | apply Kd.R_drewN | apply Kd.R_drew)); exact HO113.out⟩, ⟨zw BK101⟩, ⟨zw BK109⟩, ⟨zh HB⟩⟩
         ·
          rw [if_neg c18] at H
          exact absurd H (by simp)
        ·
         rw [if_neg c17] at H
         exact absurd H (by simp)
       ·
        rw [if_neg c16] at H
        exact absurd H (by simp)
      ·
       rw [if_neg c15] at H
       have c15b0 : decide (x12_1 ≤ a3) = false := decide_eq_false c15
       clear c15
       replace H := Option.bind_eq_some_iff.mp H
       obtain ⟨t114, A200, H⟩ := H
       replace H : ((weighbridgeref02_Mul.f (IntKind.u64.wrap (t106)) 1000000000).bind fun bt117 => (if 0 ≤ a3 then (if a3 < (t114.length : Int) then (if 0 ≤ a2 then (if a2 < (t114.length : Int) then ((weighbridgeref02_Mul.f a1 (IntKind.u64.wrap ((rd t114 a3) - (rd t114 a2)))).bind fun bt122 => ((weighbridgeref02_Less.f bt117.1 bt117.2 bt122.1 bt122.2).bind fun t125 => (if t125 = true then (some (0, 0)) else ((weighbridgeref02_Sub.f bt117.1 bt117.2 bt122.1 bt122.2).bind fun bt126 => (some (bt126.1, bt126.2.1)))))) else (none)) else (none)) else (none)) else (none))) = some (r1, r2) := H
       have A20 := zq3 A200
       clear A200
       replace H := Option.bind_eq_some_iff.mp H
       obtain ⟨⟨t117, t118⟩, A210, H⟩ := H
       replace H : (if 0 ≤ a3 then (if a3 < (t114.length : Int) then (if 0 ≤ a2 then (if a2 < (t114.length : Int) then ((weighbridgeref02_Mul.f a1 (IntKind.u64.wrap ((rd t114 a3) - (rd t114 a2)))).bind fun bt122 => ((weighbridgeref02_Less.f t117 t118 bt122.1 bt122.2).bind fun t125 => (if t125 = true then (some (0, 0)) else ((weighbridgeref02_Sub.f t117 t118 bt122.1 bt122.2).bind fun bt126 => (some (bt126.1, bt126.2.1)))))) else (none)) else (none)) else (none)) else (none)) = some (r1, r2) := H
       have A21 := zq3 A210
       clear A210
       by_cases c22 : 0 ≤ a3
       ·
        rw [if_pos c22] at H
        have c22b0 : decide (0 ≤ a3) = true := decide_eq_true c22
        clear c22
        by_cases c23 : a3 < (t114.length : Int)
        ·
         rw [if_pos c23] at H
         have c23b0 : decide (a3 < (t114.length : Int)) = true := decide_eq_true c23
         clear c23
         by_cases c24 : 0 ≤ a2
         ·
          rw [if_pos c24] at H
          have c24b0 : decide (0 ≤ a2) = true := decide_eq_true c24
          clear c24
          by_cases c25 : a2 < (t114.length : Int)
          ·
           rw [if_pos c25] at H
           have c25b0 : decide (a2 < (t114.length : Int)) = true := decide_eq_true c25
           clear c25
           replace H := Option.bind_eq_some_iff.mp H
           obtain ⟨⟨t122, t123⟩, A260, H⟩ := H
           replace H : ((weighbridgeref02_Less.f t117 t118 t122 t123).bind fun t125 => (if t125 = true then (some (0, 0)) else ((weighbridgeref02_Sub.f t117 t118 t122 t123).bind fun bt126 => (some (bt126.1, bt126.2.1))))) = some (r1, r2) := H
           have A26 := zq3 A260
           clear A260
           replace H := Option.bind_eq_some_iff.mp H
           obtain ⟨t125, A270, H⟩ := H
           replace H : (if t125 = true then (some (0, 0)) else ((weighbridgeref02_Sub.f t117 t118 t122 t123).bind fun bt126 => (some (bt126.1, bt126.2.1)))) = some (r1, r2) := H
           have A27 := zq3 A270
           clear A270
           by_cases c28 : t125 = true
           ·
            subst c28
            have H1 : (some (0, 0)) = some (r1, r2) := by rw [if_pos rfl] at H; exact H
            clear H
            have H := H1
            clear H1
            simp only [Option.some.injEq, Prod.mk.injEq] at H
            obtain ⟨rfl, rfl⟩ := H
            obtain ⟨Ao29, co29, eo29⟩ := Kd.R_slice HO_9.out
            subst eo29
            try go_wp2_with (first | ((with_reducible refine gate_callee (f := 51) rfl ?_); refine zgo (some 41) Try.func51 #[.slice Ao29 x9_1.length co29] ?_; (with_reducible refine (weighbridgeref25_Run.calls k1 _ _ x9_1 t114 _ ?side1 ?side2 A20.out).mono ?_); (case side1 => repeat (first | exact (Kd.R_reads' HO_9.out).2.2 | (with_reducible refine Kd.C_alloc ?_ _) | (with_reducible refine Kd.C_drewN ?_ _) | (with_reducible refine Kd.C_drew ?_))); (case side2 => exact (Kd.R_reads' HO_9.out).2.1); rintro e w30 ⟨v115, rfl, ho0, hb⟩; refine ⟨_, rfl, ?_⟩; have HO116 := zq3 (Kd.R_lower (Kd.R_new' ho0 (Kd.R_lt (zo HO_9))) (below_size (zh HB))); replace HO_9 := zq3 (Kd.R_elder' (zo HO_9) (Kd.R_base ho0) hb); replace BK101 := zs BK101 hb; replace BK109 := zs BK109 hb; replace HB := zt HB hb; (try clear hb); (try clear ho0)) | ((with_reducible refine gate_callee (f := 42) rfl ?_); refine zgo (some 44) Try.func42 #[.int .u64 (IntKind.u64.wrap (t106)), .int .u64 1000000000] ?_; (with_reducible refine (weighbridgeref02_Mul.calls (IntKind.u64.wrap (t106)) 1000000000 t117 t118 _ A21.out).mono ?_); rintro e w31 ⟨rfl, hb⟩; refine ⟨_, rfl, ?_⟩; replace HO_9 := zr HO_9 hb; replace HO116 := zq3 (Kd.R_below (by (with_reducible repeat (first | apply Kd.R_alloc | apply Kd.R_drewN | apply Kd.R_drew)); exact HO116.out) hb); replace BK101 := zs BK101 hb; replace BK109 := zs BK109 hb; replace HB := zt HB hb; (try clear hb)) | ((with_reducible refine zd 14 rfl ?_); refine zb 14 #[.int .u64 0, .int .u64 0] 42 ?_; intro gb119 hg w32 hbox hb; have BK119 := zq3 (hbox); have GW119 := ze hg HB; have GE119 := GW119; have NB101_119 := zl hg BK101; have NB119_101 := zg hg BK101; have NB109_119 := zl hg BK109; have NB119_109 := zg hg BK109; replace HO_9 := zr HO_9 hb; replace HO116 := zq3 (Kd.R_below (by (with_reducible repeat (first | apply Kd.R_alloc | apply Kd.R_drewN | apply Kd.R_drew)); exact HO116.out) hb); replace BK101 := zs BK101 hb; replace BK109 := zs BK109 hb; replace HB := zt HB hb; clear hb hbox hg; have hnb33 := NB119_101.out; have hnc33 := NB101_119.out; have hnb34 := NB119_109.out; have hnc34 := NB109_119.out; obtain ⟨hc35_0, hc35_1⟩ := zc2 BK119; obtain ⟨hf35_0, hf35_1⟩ := zf2 BK119))
            have n0_ : Aside0 (Kd.R (Kd.int .u64) 23 ((w32.setCell ⟨gb119, 0, none⟩ (.int .u64 t117)).setCell ⟨gb119, 1, none⟩ (.int .u64 t118)) w.heap.size (fun k_ => some k_ ≠ (v115 : Value).ownBlock) (.slice Ao29 x9_1.length co29) x9_1) := ⟨by (with_reducible repeat (first | apply Kd.R_alloc | apply Kd.R_drewN | apply Kd.R_drew)); exact Kd.R_mono (Kd.R_far (p := ⟨gb119, 1, none⟩) (Kd.R_far (p := ⟨gb119, 0, none⟩) (Kd.R_types HO_9.out BK119.out (by decide)) (fun _ hk => hk.2) (.int .u64 t117)) (fun _ hk => hk.2) (.int .u64 t118)) (fun _ hk => hk.1.2)⟩
            have n1_ : Aside0 (Kd.R (Kd.int .u64) 23 ((w32.setCell ⟨gb119, 0, none⟩ (.int .u64 t117)).setCell ⟨gb119, 1, none⟩ (.int .u64 t118)) w.heap.size (fun k_ => some k_ ≠ (.slice Ao29 x9_1.length co29 : Value).ownBlock) v115 t114) := ⟨by (with_reducible repeat (first | apply Kd.R_alloc | apply Kd.R_drewN | apply Kd.R_drew)); exact Kd.R_mono (Kd.R_far (p := ⟨gb119, 1, none⟩) (Kd.R_far (p := ⟨gb119, 0, none⟩) (Kd.R_types HO116.out BK119.out (by decide)) (fun _ hk => hk.2) (.int .u64 t117)) (fun _ hk => hk.2) (.int .u64 t118)) (fun _ hk => hk.1.2)⟩
            have n2_ : Aside0 (((w32.setCell ⟨gb119, 0, none⟩ (.int .u64 t117)).setCell ⟨gb119, 1, none⟩ (.int .u64 t118)).heap[gb101]? = some (.cells #[.int .u64 0, .int .u64 0] 42 (0, 0))) := ⟨zw BK101⟩
            have n3_ : Aside0 (((w32.setCell ⟨gb119, 0, none⟩ (.int .u64 t117)).setCell ⟨gb119, 1, none⟩ (.int .u64 t118)).heap[gb109]? = some (.cells #[.int .i64 t107, .int .i64 t108] 26 (0, 0))) := ⟨zw BK109⟩
            have n4_ : Aside0 (((w32.setCell ⟨gb119, 0, none⟩ (.int .u64 t117)).setCell ⟨gb119, 1, none⟩ (.int .u64 t118)).heap[gb119]? = some (.cells #[.int .u64 t117, .int .u64 t118] 42 (0, 0))) := ⟨zw2 BK119⟩
            have n5_ : Aside0 (Below w.heap.size w ((w32.setCell ⟨gb119, 0, none⟩ (.int .u64 t117)).setCell ⟨gb119, 1, none⟩ (.int .u64 t118))) := ⟨zh HB⟩
            (try clear HO_9)
            (try clear HO116)
            (try clear BK101)
            (try clear BK109)
            (try clear BK119)
            (try clear HB)
            generalize ((w32.setCell ⟨gb119, 0, none⟩ (.int .u64 t117)).setCell ⟨gb119, 1, none⟩ (.int .u64 t118)) = w36 at n0_ n1_ n2_ n3_ n4_ n5_ ⊢
            have HO_9 := n0_
            have HO116 := n1_
            have BK101 := n2_
            have BK109 := n3_
            have BK119 := n4_
            have HB := n5_
            clear n0_ n1_ n2_ n3_ n4_ n5_
            replace HO_9 := zq3 (Kd.R_drew HO_9.out); replace HO116 := zq3 (Kd.R_drew HO116.out); replace BK101 := zq3 (zq2 BK101.out); replace BK109 := zq3 (zq2 BK109.out); replace BK119 := zq3 (zq2 BK119.out); replace HB := zq3 (zq8 HB.out)
            obtain ⟨Ao38, co38, eo38⟩ := Kd.R_slice HO116.out
            (first | subst eo38 | (injection eo38 with f1_ f2_ f3_; have f4_ := f1_.symm; have f5_ := f3_.symm; clear f1_ f2_ f3_; subst f4_; subst f5_))
            have p120 : 0 ≤ (a3 : Int) := of_decide_eq_true (by first | (with_reducible assumption) | assumption)
            have q120 : a3 < (t114.length : Int) := of_decide_eq_true (by first | (with_reducible assumption) | assumption)
            obtain ⟨ad120, e120, hx120_0⟩ := Kd.at_int (Kd.R_reads' HO116.out).2.2 a3 p120 q120
            cases e120
            replace p120 := eq_true p120
            replace q120 := eq_true q120
            have p121 : 0 ≤ (a2 : Int) := of_decide_eq_true (by first | (with_reducible assumption) | assumption)
            have q121 : a2 < (t114.length : Int) := of_decide_eq_true (by first | (with_reducible assumption) | assumption)
            obtain ⟨ad121, e121, hx121_0⟩ := Kd.at_int (Kd.R_reads' HO116.out).2.2 a2 p121 q121
            obtain rfl : ad120 = ad121 := (by injection e121)
            replace p121 := eq_true p121
            replace q121 := eq_true q121
            refine start_ (n := 13) (S := fun w' => w'.cell? (ad120.add (a3).toNat) = some (.int .u64 (rd t114 a3)) ∧ w'.cell? (ad120.add (a2).toNat) = some (.int .u64 (rd t114 a2))) (ds := []) #[false, false, false, false, false, false, false, false, false, false, false, false, false] (by kernel_rfl) rfl rfl ⟨hx120_0, hx121_0⟩ (fun hHeld => ?_); refine with_tabW weighbridgeref29_over.tab9 weighbridgeref29_over.bits9 (fun HT_ HW_ => ?_)
            generalize w36.drew = w37 at HO_9 HO116 BK101 BK109 BK119 HB hx120_0 hx121_0 hHeld ⊢
            refine pure_ (i := 0) (N := some 45) (v := ?_) (a' := ?_) #[true, false, false, false, false, false, false, false, false, false, false, false, false] rfl rfl (any_of HT_.out (by kernel_rfl)) (fun _ _ _ h => h) (Or.inl ⟨by rfl, ?_⟩) ?_ ?_
            rotate_left
            ·
             intro w'
             go_simp
             with_reducible rfl
            rotate_left
            ·
             simp only [Act.put, List.setIfInBounds_toArray, List.set_cons_zero, List.set_cons_succ, i64_w, i32_w]
             rfl
            refine pure_ (i := 1) (N := some 46) (v := ?_) (a' := ?_) #[true, true, false, false, false, false, false, false, false, false, false, false, false] rfl rfl (any_of HT_.out (by kernel_rfl)) (fun _ _ _ h => h) (Or.inl ⟨by rfl, ?_⟩) ?_ ?_
            rotate_left
            ·
             intro w'
             go_simp
             with_reducible rfl
            rotate_left
            ·
             simp only [Act.put, List.setIfInBounds_toArray, List.set_cons_zero, List.set_cons_succ, i64_w, i32_w]
             rfl
            refine pure_ (i := 2) (N := some 47) (v := ?_) (a' := ?_) #[true, true, true, false, false, false, false, false, false, false, false, false, false] rfl rfl (any_of HT_.out (by kernel_rfl)) (fun _ _ _ h => h) (Or.inl ⟨by rfl, ?_⟩) ?_ ?_
            rotate_left
            ·
             intro w'
             go_simp
             with_reducible rfl
            rotate_left
            ·
             simp only [Act.put, List.setIfInBounds_toArray, List.set_cons_zero, List.set_cons_succ, i64_w, i32_w]
             rfl
            refine pure_ (i := 3) (N := some 48) (v := ?_) (a' := ?_) #[true, true, true, true, false, false, false, false, false, false, false, false, false] rfl rfl (any_of HT_.out (by kernel_rfl)) (fun _ _ _ h => h) (Or.inl ⟨by rfl, ?_⟩) ?_ ?_
            rotate_left
            ·
             intro w'
             go_simp
             with_reducible rfl
            rotate_left
            ·
             simp only [Act.put, List.setIfInBounds_toArray, List.set_cons_zero, List.set_cons_succ, i64_w, i32_w]
             rfl
            refine pure_ (i := 5) (N := some 50) (v := ?_) (a' := ?_) #[true, true, true, true, false, true, false, false, false, false, false, false, false] rfl rfl (any_of HT_.out (by kernel_rfl)) (fun _ _ _ h => h) (Or.inl ⟨by rfl, ?_⟩) ?_ ?_
            rotate_left
            ·
             intro w'
             go_simp
             with_reducible rfl
            rotate_left
            ·
             simp only [Act.put, List.setIfInBounds_toArray, List.set_cons_zero, List.set_cons_succ, i64_w, i32_w]
             rfl
            refine pure_ (i := 6) (N := some 51) (v := ?_) (a' := ?_) #[true, true, true, true, false, true, true, false, false, false, false, false, false] rfl rfl (any_of HT_.out (by kernel_rfl)) (fun _ _ _ h => h) (Or.inl ⟨by rfl, ?_⟩) ?_ ?_
            rotate_left
            ·
             intro w'
             go_simp
             with_reducible rfl
            rotate_left
            ·
             simp only [Act.put, List.setIfInBounds_toArray, List.set_cons_zero, List.set_cons_succ, i64_w, i32_w]
             rfl
            refine pure_ (i := 7) (N := some 52) (v := ?_) (a' := ?_) #[true, true, true, true, false, true, true, true, false, false, false, false, false] rfl rfl (any_of HT_.out (by kernel_rfl)) (fun _ _ _ h => h) (Or.inl ⟨by rfl, ?_⟩) ?_ ?_
            rotate_left
            ·
             intro w'
             go_simp
             with_reducible rfl
            rotate_left
            ·
             simp only [Act.put, List.setIfInBounds_toArray, List.set_cons_zero, List.set_cons_succ, i64_w, i32_w]
             rfl
            refine take_ (i := 4) (N := some 49) (v := ?_) (a' := ?_) #[true, true, true, true, true, true, true, true, false, false, false, false, false] rfl rfl (take_ofW HT_.out HW_.out (by kernel_rfl)) (fun _ _ _ h => h) (Or.inl ⟨by rfl, ?_⟩) hHeld ?_ ?_
            rotate_left
            ·
             rintro w' ⟨s0, s1⟩
             go_simp
             with_reducible rfl
            rotate_left
            ·
             simp only [Act.put, List.setIfInBounds_toArray, List.set_cons_zero, List.set_cons_succ, i64_w, i32_w]
             rfl
            refine take_ (i := 8) (N := some 53) (v := ?_) (a' := ?_) #[true, true, true, true, true, true, true, true, true, false, false, false, false] rfl rfl (take_ofW HT_.out HW_.out (by kernel_rfl)) (fun _ _ _ h => h) (Or.inl ⟨by rfl, ?_⟩) hHeld ?_ ?_
            rotate_left
            ·
             rintro w' ⟨s0, s1⟩
             go_simp
             with_reducible rfl
            rotate_left
            ·
             simp only [Act.put, List.setIfInBounds_toArray, List.set_cons_zero, List.set_cons_succ, i64_w, i32_w]
             rfl
            refine pure_ (i := 9) (N := some 54) (v := ?_) (a' := ?_) #[true, true, true, true, true, true, true, true, true, true, false, false, false] rfl rfl (any_of HT_.out (by kernel_rfl)) (fun _ _ _ h => h) (Or.inl ⟨by rfl, ?_⟩) ?_ ?_
            rotate_left
            ·
             intro w'
             go_simp
             with_reducible rfl
            rotate_left
            ·
             simp only [Act.put, List.setIfInBounds_toArray, List.set_cons_zero, List.set_cons_succ, i64_w, i32_w]
             rfl
            refine join_ (σ := Nat) 1 #[true, true, true, true, true, true, true, true, true, true, true, true, false] (fun s_ => [(55, .agg #[.int .u64 t122, .int .u64 t123]), (15, .pointer (some ⟨s_, 0, none⟩))]) (fun s_ w' => (w'.cell? (ad120.add (a3).toNat) = some (.int .u64 (rd t114 a3)) ∧ w'.cell? (ad120.add (a2).toNat) = some (.int .u64 (rd t114 a2))) ∧ (Kd.R (Kd.int .u64) 23 w' w.heap.size (fun k_ => some k_ ≠ (.slice Ao29 x9_1.length co29 : Value).ownBlock) (.slice (some ad120) t114.length co38) t114) ∧ (Kd.R (Kd.int .u64) 23 w' w.heap.size (fun k_ => some k_ ≠ (.slice (some ad120) t114.length co38 : Value).ownBlock) (.slice Ao29 x9_1.length co29) x9_1) ∧ (w'.heap[gb101]? = some (.cells #[.int .u64 0, .int .u64 0] 42 (0, 0))) ∧ (w'.heap[gb109]? = some (.cells #[.int .i64 t107, .int .i64 t108] 26 (0, 0))) ∧ (w'.heap[gb119]? = some (.cells #[.int .u64 t117, .int .u64 t118] 42 (0, 0))) ∧ (w'.heap[s_]? = some (.cells #[.int .u64 0, .int .u64 0] 42 (0, 0))) ∧ (w.heap.size ≤ s_) ∧ (w.heap.size ≤ s_) ∧ (gb101 ≠ s_) ∧ (s_ ≠ gb101) ∧ (gb109 ≠ s_) ∧ (s_ ≠ gb109) ∧ (gb119 ≠ s_) ∧ (s_ ≠ gb119) ∧ (Below w.heap.size w w')) ?_ ?_
            rotate_left
            ·
             intro hCont
             refine two_ (i := 10) (j := 11) (Ni := some 55) (Nj := some 15) #[true, true, true, true, true, true, true, true, true, true, true, false, false] #[true, true, true, true, true, true, true, true, true, true, false, true, false] rfl rfl rfl rfl (two_of HT_.out (by kernel_rfl)) (by decide) (by decide) (fun K hK => ?_) (fun K hK => ?_)
             ·
              skip
              refine goes_ Try.func42 (by kernel_rfl) rfl #[.int .u64 a1, .int .u64 (IntKind.u64.wrap ((rd t114 a3) - (rd t114 a2)))] (by rfl) rfl rfl (by (try simp only [List.map_toArray, List.map_cons, List.map_nil]); first | done | rfl | (simp only [List.length_drop, List.length_take]; rfl)) ?_
              with_reducible refine (weighbridgeref02_Mul.calls a1 (IntKind.u64.wrap ((rd t114 a3) - (rd t114 a2))) t122 t123 _ A26.out).mono ?_
              rintro e w39 ⟨rfl, hb⟩
              have HS0_ := (hb.cell (World.block_lt_of_cell? _ _ (hHeld.1))).trans (hHeld.1)
              have HS1_ := (hb.cell (World.block_lt_of_cell? _ _ (hHeld.2))).trans (hHeld.2)
              refine ⟨_, rfl, ?_⟩
              replace HO_9 := zr HO_9 hb; replace HO116 := zq3 (Kd.R_below (by (with_reducible repeat (first | apply Kd.R_alloc | apply Kd.R_drewN | apply Kd.R_drew)); exact HO116.out) hb); replace BK101 := zs BK101 hb; replace BK109 := zs BK109 hb; replace BK119 := zs BK119 hb; replace HB := zt HB hb
              (try clear hb)
              (try clear hb2)
              (try clear hk)
              (try clear hi)
              refine hK.out _ _ ⟨HS0_, HS1_⟩ (fun hHeld => ?_)
              clear hK K
              refine norm_ (a' := ?_) ?_ ?_
              rotate_left
              ·
               show Act.put _ (some 55) _ = _
               simp only [Act.put, List.setIfInBounds_toArray, List.set_cons_zero, List.set_cons_succ, i64_w, i32_w]
               rfl
              refine one_ (i := 11) (N := some 15) #[true, true, true, true, true, true, true, true, true, true, true, true, false] rfl rfl (one_of HT_.out (by kernel_rfl)) (by decide) (fun K hK => ?_)
              refine box_step ?hg (N := 15) ?hd (cs := #[.int .u64 0, .int .u64 0]) (t := 42) ?hr ?_; (case hd => rfl); (case hg => rfl); (case hr => first | (go_simp; done) | (go_simp; rfl))
              intro gb124 hg w40 hbox hb
              have HS0_ := (hb.cell (World.block_lt_of_cell? _ _ (hHeld.1))).trans (hHeld.1)
              have HS1_ := (hb.cell (World.block_lt_of_cell? _ _ (hHeld.2))).trans (hHeld.2)
              have BK124 := zq3 (hbox); have GW124 := ze hg HB; have GE124 := GW124; have NB101_124 := zl hg BK101; have NB124_101 := zg hg BK101; have NB109_124 := zl hg BK109; have NB124_109 := zg hg BK109; have NB119_124 := zl hg BK119; have NB124_119 := zg hg BK119; replace HO_9 := zr HO_9 hb; replace HO116 := zq3 (Kd.R_below (by (with_reducible repeat (first | apply Kd.R_alloc | apply Kd.R_drewN | apply Kd.R_drew)); exact HO116.out) hb); replace BK101 := zs BK101 hb; replace BK109 := zs BK109 hb; replace BK119 := zs BK119 hb; replace HB := zt HB hb
              clear hb hbox hg
              refine hK.out _ _ ⟨HS0_, HS1_⟩ (fun hHeld => ?_)
              clear hK K
              refine norm_ (a' := ?_) ?_ ?_
              rotate_left
              ·
               show Act.put _ (some 15) _ = _
               simp only [Act.put, List.setIfInBounds_toArray, List.set_cons_zero, List.set_cons_succ, i64_w, i32_w]
               rfl
              exact norm_ (by simp only [putAll, Act.put, List.setIfInBounds_toArray, List.set_cons_zero, List.set_cons_succ]) (hCont (gb124) _ ⟨hHeld, (by (with_reducible repeat (first | apply Kd.R_alloc | apply Kd.R_drewN | apply Kd.R_drew)); exact HO116.out), (zo HO_9), (zw BK101), (zw BK109), (zw BK119), (zw BK124), GW124.out, GE124.out, NB101_124.out, NB124_101.out, NB109_124.out, NB124_109.out, NB119_124.out, NB124_119.out, (zh HB)⟩)
             ·
              skip
              refine box_step ?hg (N := 15) ?hd (cs := #[.int .u64 0, .int .u64 0]) (t := 42) ?hr ?_; (case hd => rfl); (case hg => rfl); (case hr => first | (go_simp; done) | (go_simp; rfl))
              intro gb124 hg w39 hbox hb
              have HS0_ := (hb.cell (World.block_lt_of_cell? _ _ (hHeld.1))).trans (hHeld.1)
              have HS1_ := (hb.cell (World.block_lt_of_cell? _ _ (hHeld.2))).trans (hHeld.2)
              have BK124 := zq3 (hbox); have GW124 := ze hg HB; have GE124 := GW124; have NB101_124 := zl hg BK101; have NB124_101 := zg hg BK101; have NB109_124 := zl hg BK109; have NB124_109 := zg hg BK109; have NB119_124 := zl hg BK119; have NB124_119 := zg hg BK119; replace HO_9 := zr HO_9 hb; replace HO116 := zq3 (Kd.R_below (by (with_reducible repeat (first | apply Kd.R_alloc | apply Kd.R_drewN | apply Kd.R_drew)); exact HO116.out) hb); replace BK101 := zs BK101 hb; replace BK109 := zs BK109 hb; replace BK119 := zs BK119 hb; replace HB := zt HB hb
              clear hb hbox hg
              refine hK.out _ _ ⟨HS0_, HS1_⟩ (fun hHeld => ?_)
              clear hK K
              refine norm_ (a' := ?_) ?_ ?_
              rotate_left
              ·
               show Act.put _ (some 15) _ = _
               simp only [Act.put, List.setIfInBounds_toArray, List.set_cons_zero, List.set_cons_succ, i64_w, i32_w]
               rfl
              refine one_ (i := 10) (N := some 55) #[true, true, true, true, true, true, true, true, true, true, true, true, false] rfl rfl (one_of HT_.out (by kernel_rfl)) (by decide) (fun K hK => ?_)
              refine goes_ Try.func42 (by kernel_rfl) rfl #[.int .u64 a1, .int .u64 (IntKind.u64.wrap ((rd t114 a3) - (rd t114 a2)))] (by rfl) rfl rfl (by (try simp only [List.map_toArray, List.map_cons, List.map_nil]); first | done | rfl | (simp only [List.length_drop, List.length_take]; rfl)) ?_
              with_reducible refine (weighbridgeref02_Mul.calls a1 (IntKind.u64.wrap ((rd t114 a3) - (rd t114 a2))) t122 t123 _ A26.out).mono ?_
              rintro e w40 ⟨rfl, hb⟩
              have HS0_ := (hb.cell (World.block_lt_of_cell? _ _ (hHeld.1))).trans (hHeld.1)
              have HS1_ := (hb.cell (World.block_lt_of_cell? _ _ (hHeld.2))).trans (hHeld.2)
              refine ⟨_, rfl, ?_⟩
              replace HO_9 := zr HO_9 hb; replace HO116 := zq3 (Kd.R_below (by (with_reducible repeat (first | apply Kd.R_alloc | apply Kd.R_drewN | apply Kd.R_drew)); exact HO116.out) hb); replace BK101 := zs BK101 hb; replace BK109 := zs BK109 hb; replace BK119 := zs BK119 hb; replace BK124 := zs BK124 hb; replace HB := zt HB hb
              (try clear hb)
              (try clear hb2)
              (try clear hk)
              (try clear hi)
              refine hK.out _ _ ⟨HS0_, HS1_⟩ (fun hHeld => ?_)
              clear hK K
              refine norm_ (a' := ?_) ?_ ?_
              rotate_left
              ·
               show Act.put _ (some 55) _ = _
               simp only [Act.put, List.setIfInBounds_toArray, List.set_cons_zero, List.set_cons_succ, i64_w, i32_w]
               rfl
              exact norm_ (by simp only [putAll, Act.put, List.setIfInBounds_toArray, List.set_cons_zero, List.set_cons_succ]) (hCont (gb124) _ ⟨hHeld, (by (with_reducible repeat (first | apply Kd.R_alloc | apply Kd.R_drewN | apply Kd.R_drew)); exact HO116.out), (zo HO_9), (zw BK101), (zw BK109), (zw BK119), (zw BK124), GW124.out, GE124.out, NB101_124.out, NB124_101.out, NB109_124.out, NB124_109.out, NB119_124.out, NB124_119.out, (zh HB)⟩)
            rintro gb124 w41 ⟨hS_, h0_, h1_, h2_, h3_, h4_, h5_, h6_, h7_, h8_, h9_, h10_, h11_, h12_, h13_, h14_⟩
            have n0_ : Aside0 (Kd.R (Kd.int .u64) 23 w41 w.heap.size (fun k_ => some k_ ≠ (.slice Ao29 x9_1.length co29 : Value).ownBlock) (.slice (some ad120) t114.length co38) t114) := ⟨h0_⟩
            have n1_ : Aside0 (Kd.R (Kd.int .u64) 23 w41 w.heap.size (fun k_ => some k_ ≠ (.slice (some ad120) t114.length co38 : Value).ownBlock) (.slice Ao29 x9_1.length co29) x9_1) := ⟨h1_⟩
            have n2_ : Aside0 (w41.heap[gb101]? = some (.cells #[.int .u64 0, .int .u64 0] 42 (0, 0))) := ⟨h2_⟩
            have n3_ : Aside0 (w41.heap[gb109]? = some (.cells #[.int .i64 t107, .int .i64 t108] 26 (0, 0))) := ⟨h3_⟩
            have n4_ : Aside0 (w41.heap[gb119]? = some (.cells #[.int .u64 t117, .int .u64 t118] 42 (0, 0))) := ⟨h4_⟩
            have n5_ : Aside0 (w41.heap[gb124]? = some (.cells #[.int .u64 0, .int .u64 0] 42 (0, 0))) := ⟨h5_⟩
            have n6_ : Aside0 (w.heap.size ≤ gb124) := ⟨h6_⟩
            have n7_ : Aside0 (w.heap.size ≤ gb124) := ⟨h7_⟩
            have n8_ : Aside0 (gb101 ≠ gb124) := ⟨h8_⟩
            have n9_ : Aside0 (gb124 ≠ gb101) := ⟨h9_⟩
            have n10_ : Aside0 (gb109 ≠ gb124) := ⟨h10_⟩
            have n11_ : Aside0 (gb124 ≠ gb109) := ⟨h11_⟩
            have n12_ : Aside0 (gb119 ≠ gb124) := ⟨h12_⟩
            have n13_ : Aside0 (gb124 ≠ gb119) := ⟨h13_⟩
            have n14_ : Aside0 (Below w.heap.size w w41) := ⟨h14_⟩
            clear HO_9
            clear HO116
            clear BK101
            clear BK109
            clear BK119
            clear HB
            clear h0_ h1_ h2_ h3_ h4_ h5_ h6_ h7_ h8_ h9_ h10_ h11_ h12_ h13_ h14_
            have HO116 := n0_
            have HO_9 := n1_
            have BK101 := n2_
            have BK109 := n3_
            have BK119 := n4_
            have BK124 := n5_
            have GW124 := n6_
            have GE124 := n7_
            have NB101_124 := n8_
            have NB124_101 := n9_
            have NB109_124 := n10_
            have NB124_109 := n11_
            have NB119_124 := n12_
            have NB124_119 := n13_
            have HB := n14_
            clear n0_ n1_ n2_ n3_ n4_ n5_ n6_ n7_ n8_ n9_ n10_ n11_ n12_ n13_ n14_
            have hHeld : w41.cell? (ad120.add (a3).toNat) = some (.int .u64 (rd t114 a3)) ∧ w41.cell? (ad120.add (a2).toNat) = some (.int .u64 (rd t114 a2)) := hS_
            refine norm_ (a' := ?_) ?_ ?_
            rotate_left
            ·
             simp only [putAll, Act.put, List.setIfInBounds_toArray, List.set_cons_zero, List.set_cons_succ]
             rfl
            refine one_ (i := 12) (N := none) #[true, true, true, true, true, true, true, true, true, true, true, true, true] rfl rfl (one_of HT_.out (by kernel_rfl)) (by decide) (fun K hK => ?_)
            have hs42 : w41.cell? ⟨gb124, 0, none⟩ = some (.int .u64 0) := (zq5 BK124.out 0).trans rfl
            have hfs42 := zq4 BK124.out 0
            have hns42_0 := NB101_124.out
            have hns42_1 := NB109_124.out
            have hns42_2 := NB119_124.out
            have hms42_0 := NB124_101.out
            have hms42_1 := NB124_109.out
            have hms42_2 := NB124_119.out
            have hs43 : w41.cell? ⟨gb124, 1, none⟩ = some (.int .u64 0) := (zq5 BK124.out 1).trans rfl
            have hfs43 := zq4 BK124.out 1
            have hns43_0 := NB101_124.out
            have hns43_1 := NB109_124.out
            have hns43_2 := NB119_124.out
            have hms43_0 := NB124_101.out
            have hms43_1 := NB124_109.out
            have hms43_2 := NB124_119.out
            refine skip_ (w1 := ?_) (by rfl) rfl ?_ ?_
            rotate_left
            ·
             go_simp
             rfl
            refine hK.out _ _ ⟨((cell_far (p := ⟨gb124, _, none⟩) (by first | exact Kd.own_blk (Kd.R_ne HO116.out BK124.out (by decide)) | (rw [add_block]; exact Kd.own_blk (Kd.R_ne HO116.out BK124.out (by decide))) | (show (Addr.add _ _).block ≠ _; rw [add_block]; exact Kd.own_blk (Kd.R_ne HO116.out BK124.out (by decide))) | (dsimp only; exact Kd.own_blk (Kd.R_ne HO116.out BK124.out (by decide)))) _).trans (((cell_far (p := ⟨gb124, _, none⟩) (by first | exact Kd.own_blk (Kd.R_ne HO116.out BK124.out (by decide)) | (rw [add_block]; exact Kd.own_blk (Kd.R_ne HO116.out BK124.out (by decide))) | (show (Addr.add _ _).block ≠ _; rw [add_block]; exact Kd.own_blk (Kd.R_ne HO116.out BK124.out (by decide))) | (dsimp only; exact Kd.own_blk (Kd.R_ne HO116.out BK124.out (by decide)))) _).trans (hHeld.1)))), ((cell_far (p := ⟨gb124, _, none⟩) (by first | exact Kd.own_blk (Kd.R_ne HO116.out BK124.out (by decide)) | (rw [add_block]; exact Kd.own_blk (Kd.R_ne HO116.out BK124.out (by decide))) | (show (Addr.add _ _).block ≠ _; rw [add_block]; exact Kd.own_blk (Kd.R_ne HO116.out BK124.out (by decide))) | (dsimp only; exact Kd.own_blk (Kd.R_ne HO116.out BK124.out (by decide)))) _).trans (((cell_far (p := ⟨gb124, _, none⟩) (by first | exact Kd.own_blk (Kd.R_ne HO116.out BK124.out (by decide)) | (rw [add_block]; exact Kd.own_blk (Kd.R_ne HO116.out BK124.out (by decide))) | (show (Addr.add _ _).block ≠ _; rw [add_block]; exact Kd.own_blk (Kd.R_ne HO116.out BK124.out (by decide))) | (dsimp only; exact Kd.own_blk (Kd.R_ne HO116.out BK124.out (by decide)))) _).trans (hHeld.2))))⟩ (fun hHeld => ?_)
            clear hK K
            refine done_ (done_of HT_.out (by kernel_rfl)) ?_
            have hnb44 := NB119_124.out
            have hnc44 := NB124_119.out
            obtain ⟨hc45_0, hc45_1⟩ := zc2 BK119
            obtain ⟨hf45_0, hf45_1⟩ := zf2 BK119
            have hnb46 := NB124_101.out
            have hnc46 := NB101_124.out
            have hnb47 := NB124_109.out
            have hnc47 := NB109_124.out
            obtain ⟨hc48_0, hc48_1⟩ := zc2 BK124
            obtain ⟨hf48_0, hf48_1⟩ := zf2 BK124
            try go_wp2_with (first | ((with_reducible refine gate_callee (f := 41) rfl ?_); refine zgo (some 58) Try.func41 #[.agg #[.int .u64 t117, .int .u64 t118], .agg #[.int .u64 t122, .int .u64 t123]] ?_; (with_reducible refine (weighbridgeref02_Less.calls t117 t118 t122 t123 true _ A27.out).mono ?_); rintro e w49 ⟨rfl, hb⟩; refine ⟨_, rfl, ?_⟩; replace HO_9 := zq3 (Kd.R_below (by (with_reducible repeat (first | apply Kd.R_alloc | apply Kd.R_drewN | apply Kd.R_drew)); exact (Kd.R_mono (Kd.R_far (p := ⟨gb124, 1, none⟩) (Kd.R_far (p := ⟨gb124, 0, none⟩) (Kd.R_types HO_9.out BK124.out (by decide)) (fun _ hk => hk.2) (.int .u64 t122)) (fun _ hk => hk.2) (.int .u64 t123)) (fun _ h_ => h_.1))) hb); replace HO116 := zq3 (Kd.R_below (by (with_reducible repeat (first | apply Kd.R_alloc | apply Kd.R_drewN | apply Kd.R_drew)); exact (Kd.R_mono (Kd.R_far (p := ⟨gb124, 1, none⟩) (Kd.R_far (p := ⟨gb124, 0, none⟩) (Kd.R_types HO116.out BK124.out (by decide)) (fun _ hk => hk.2) (.int .u64 t122)) (fun _ hk => hk.2) (.int .u64 t123)) (fun _ h_ => h_.1))) hb); replace BK101 := zsf BK101 hb; replace BK109 := zsf BK109 hb; replace BK119 := zsf BK119 hb; replace BK124 := zq3 (zq10 (o := .cells #[.int .u64 t122, .int .u64 t123] 42 (0, 0)) (zw2 BK124) hb); replace HB := zt HB hb; (try clear hb); (try clear hk); have hnb50 := NB101_109.out; have hnc50 := NB109_101.out; obtain ⟨hc51_0, hc51_1⟩ := zc2 BK101; obtain ⟨hf51_0, hf51_1⟩ := zf2 BK101))
            refine bodyPost_ret (results_cell_row rfl _ _ gb101 42 #[.int .u64 0, .int .u64 0] (0, 0) _ rfl (zw2 BK101) Try.underlying42 rfl (by kernel_rfl)) rfl ?_
            exact ⟨by first | rfl | (simp [errW_none, errW_some] <;> rfl) | (simp [*, errW_none, errW_some] <;> rfl), zh HB⟩
           ·
            replace c28 := Bool.eq_false_iff.mpr c28
            subst c28
            have H1 : ((weighbridgeref02_Sub.f t117 t118 t122 t123).bind fun bt126 => (some (bt126.1, bt126.2.1))) = some (r1, r2) := by rw [if_neg (show ¬ (false = true) by decide)] at H; exact H
            clear H
            have H := H1
            clear H1
            replace H := Option.bind_eq_some_iff.mp H
            obtain ⟨⟨t126, t127, t128⟩, A520, H⟩ := H
            replace H : (some (t126, t127)) = some (r1, r2) := H
            have A52 := zq3 A520
            clear A520
            simp only [Option.some.injEq, Prod.mk.injEq] at H
            obtain ⟨rfl, rfl⟩ := H
            obtain ⟨Ao53, co53, eo53⟩ := Kd.R_slice HO_9.out
            subst eo53
            try go_wp2_with (first | ((with_reducible refine gate_callee (f := 51) rfl ?_); refine zgo (some 41) Try.func51 #[.slice Ao53 x9_1.length co53] ?_; (with_reducible refine (weighbridgeref25_Run.calls k1 _ _ x9_1 t114 _ ?side1 ?side2 A20.out).mono ?_); (case side1 => repeat (first | exact (Kd.R_reads' HO_9.out).2.2 | (with_reducible refine Kd.C_alloc ?_ _) | (with_reducible refine Kd.C_drewN ?_ _) | (with_reducible refine Kd.C_drew ?_))); (case side2 => exact (Kd.R_reads' HO_9.out).2.1); rintro e w54 ⟨v115, rfl, ho0, hb⟩; refine ⟨_, rfl, ?_⟩; have HO116 := zq3 (Kd.R_lower (Kd.R_new' ho0 (Kd.R_lt (zo HO_9))) (below_size (zh HB))); replace HO_9 := zq3 (Kd.R_elder' (zo HO_9) (Kd.R_base ho0) hb); replace BK101 := zs BK101 hb; replace BK109 := zs BK109 hb; replace HB := zt HB hb; (try clear hb); (try clear ho0)) | ((with_reducible refine gate_callee (f := 42) rfl ?_); refine zgo (some 44) Try.func42 #[.int .u64 (IntKind.u64.wrap (t106)), .int .u64 1000000000] ?_; (with_reducible refine (weighbridgeref02_Mul.calls (IntKind.u64.wrap (t106)) 1000000000 t117 t118 _ A21.out).mono ?_); rintro e w55 ⟨rfl, hb⟩; refine ⟨_, rfl, ?_⟩; replace HO_9 := zr HO_9 hb; replace HO116 := zq3 (Kd.R_below (by (with_reducible repeat (first | apply Kd.R_alloc | apply Kd.R_drewN | apply Kd.R_drew)); exact HO116.out) hb); replace BK101 := zs BK101 hb; replace BK109 := zs BK109 hb; replace HB := zt HB hb; (try clear hb)) | ((with_reducible refine zd 14 rfl ?_); refine zb 14 #[.int .u64 0, .int .u64 0] 42 ?_; intro gb119 hg w56 hbox hb; have BK119 := zq3 (hbox); have GW119 := ze hg HB; have GE119 := GW119; have NB101_119 := zl hg BK101; have NB119_101 := zg hg BK101; have NB109_119 := zl hg BK109; have NB119_109 := zg hg BK109; replace HO_9 := zr HO_9 hb; replace HO116 := zq3 (Kd.R_below (by (with_reducible repeat (first | apply Kd.R_alloc | apply Kd.R_drewN | apply Kd.R_drew)); exact HO116.out) hb); replace BK101 := zs BK101 hb; replace BK109 := zs BK109 hb; replace HB := zt HB hb; clear hb hbox hg; have hnb57 := NB119_101.out; have hnc57 := NB101_119.out; have hnb58 := NB119_109.out; have hnc58 := NB109_119.out; obtain ⟨hc59_0, hc59_1⟩ := zc2 BK119; obtain ⟨hf59_0, hf59_1⟩ := zf2 BK119))
            have n0_ : Aside0 (Kd.R (Kd.int .u64) 23 ((w56.setCell ⟨gb119, 0, none⟩ (.int .u64 t117)).setCell ⟨gb119, 1, none⟩ (.int .u64 t118)) w.heap.size (fun k_ => some k_ ≠ (v115 : Value).ownBlock) (.slice Ao53 x9_1.length co53) x9_1) := ⟨by (with_reducible repeat (first | apply Kd.R_alloc | apply Kd.R_drewN | apply Kd.R_drew)); exact Kd.R_mono (Kd.R_far (p := ⟨gb119, 1, none⟩) (Kd.R_far (p := ⟨gb119, 0, none⟩) (Kd.R_types HO_9.out BK119.out (by decide)) (fun _ hk => hk.2) (.int .u64 t117)) (fun _ hk => hk.2) (.int .u64 t118)) (fun _ hk => hk.1.2)⟩
            have n1_ : Aside0 (Kd.R (Kd.int .u64) 23 ((w56.setCell ⟨gb119, 0, none⟩ (.int .u64 t117)).setCell ⟨gb119, 1, none⟩ (.int .u64 t118)) w.heap.size (fun k_ => some k_ ≠ (.slice Ao53 x9_1.length co53 : Value).ownBlock) v115 t114) := ⟨by (with_reducible repeat (first | apply Kd.R_alloc | apply Kd.R_drewN | apply Kd.R_drew)); exact Kd.R_mono (Kd.R_far (p := ⟨gb119, 1, none⟩) (Kd.R_far (p := ⟨gb119, 0, none⟩) (Kd.R_types HO116.out BK119.out (by decide)) (fun _ hk => hk.2) (.int .u64 t117)) (fun _ hk => hk.2) (.int .u64 t118)) (fun _ hk => hk.1.2)⟩
            have n2_ : Aside0 (((w56.setCell ⟨gb119, 0, none⟩ (.int .u64 t117)).setCell ⟨gb119, 1, none⟩ (.int .u64 t118)).heap[gb101]? = some (.cells #[.int .u64 0, .int .u64 0] 42 (0, 0))) := ⟨zw BK101⟩
            have n3_ : Aside0 (((w56.setCell ⟨gb119, 0, none⟩ (.int .u64 t117)).setCell ⟨gb119, 1, none⟩ (.int .u64 t118)).heap[gb109]? = some (.cells #[.int .i64 t107, .int .i64 t108] 26 (0, 0))) := ⟨zw BK109⟩
            have n4_ : Aside0 (((w56.setCell ⟨gb119, 0, none⟩ (.int .u64 t117)).setCell ⟨gb119, 1, none⟩ (.int .u64 t118)).heap[gb119]? = some (.cells #[.int .u64 t117, .int .u64 t118] 42 (0, 0))) := ⟨zw2 BK119⟩
            have n5_ : Aside0 (Below w.heap.size w ((w56.setCell ⟨gb119, 0, none⟩ (.int .u64 t117)).setCell ⟨gb119, 1, none⟩ (.int .u64 t118))) := ⟨zh HB⟩
            (try clear HO_9)
            (try clear HO116)
            (try clear BK101)
            (try clear BK109)
            (try clear BK119)
            (try clear HB)
            generalize ((w56.setCell ⟨gb119, 0, none⟩ (.int .u64 t117)).setCell ⟨gb119, 1, none⟩ (.int .u64 t118)) = w60 at n0_ n1_ n2_ n3_ n4_ n5_ ⊢
            have HO_9 := n0_
            have HO116 := n1_
            have BK101 := n2_
            have BK109 := n3_
            have BK119 := n4_
            have HB := n5_
            clear n0_ n1_ n2_ n3_ n4_ n5_
            replace HO_9 := zq3 (Kd.R_drew HO_9.out); replace HO116 := zq3 (Kd.R_drew HO116.out); replace BK101 := zq3 (zq2 BK101.out); replace BK109 := zq3 (zq2 BK109.out); replace BK119 := zq3 (zq2 BK119.out); replace HB := zq3 (zq8 HB.out)
            obtain ⟨Ao62, co62, eo62⟩ := Kd.R_slice HO116.out
            (first | subst eo62 | (injection eo62 with f1_ f2_ f3_; have f4_ := f1_.symm; have f5_ := f3_.symm; clear f1_ f2_ f3_; subst f4_; subst f5_))
            have p120 : 0 ≤ (a3 : Int) := of_decide_eq_true (by first | (with_reducible assumption) | assumption)
            have q120 : a3 < (t114.length : Int) := of_decide_eq_true (by first | (with_reducible assumption) | assumption)
            obtain ⟨ad120, e120, hx120_0⟩ := Kd.at_int (Kd.R_reads' HO116.out).2.2 a3 p120 q120
            cases e120
            replace p120 := eq_true p120
            replace q120 := eq_true q120
            have p121 : 0 ≤ (a2 : Int) := of_decide_eq_true (by first | (with_reducible assumption) | assumption)
            have q121 : a2 < (t114.length : Int) := of_decide_eq_true (by first | (with_reducible assumption) | assumption)
            obtain ⟨ad121, e121, hx121_0⟩ := Kd.at_int (Kd.R_reads' HO116.out).2.2 a2 p121 q121
            obtain rfl : ad120 = ad121 := (by injection e121)
            replace p121 := eq_true p121
            replace q121 := eq_true q121
            refine start_ (n := 13) (S := fun w' => w'.cell? (ad120.add (a3).toNat) = some (.int .u64 (rd t114 a3)) ∧ w'.cell? (ad120.add (a2).toNat) = some (.int .u64 (rd t114 a2))) (ds := []) #[false, false, false, false, false, false, false, false, false, false, false, false, false] (by kernel_rfl) rfl rfl ⟨hx120_0, hx121_0⟩ (fun hHeld => ?_); refine with_tabW weighbridgeref29_over.tab9 weighbridgeref29_over.bits9 (fun HT_ HW_ => ?_)
            generalize w60.drew = w61 at HO_9 HO116 BK101 BK109 BK119 HB hx120_0 hx121_0 hHeld ⊢
            refine pure_ (i := 0) (N := some 45) (v := ?_) (a' := ?_) #[true, false, false, false, false, false, false, false, false, false, false, false, false] rfl rfl (any_of HT_.out (by kernel_rfl)) (fun _ _ _ h => h) (Or.inl ⟨by rfl, ?_⟩) ?_ ?_
            rotate_left
            ·
             intro w'
             go_simp
             with_reducible rfl
            rotate_left
            ·
             simp only [Act.put, List.setIfInBounds_toArray, List.set_cons_zero, List.set_cons_succ, i64_w, i32_w]
             rfl
            refine pure_ (i := 1) (N := some 46) (v := ?_) (a' := ?_) #[true, true, false, false, false, false, false, false, false, false, false, false, false] rfl rfl (any_of HT_.out (by kernel_rfl)) (fun _ _ _ h => h) (Or.inl ⟨by rfl, ?_⟩) ?_ ?_
            rotate_left
            ·
             intro w'
             go_simp
             with_reducible rfl
            rotate_left
            ·
             simp only [Act.put, List.setIfInBounds_toArray, List.set_cons_zero, List.set_cons_succ, i64_w, i32_w]
             rfl
            refine pure_ (i := 2) (N := some 47) (v := ?_) (a' := ?_) #[true, true, true, false, false, false, false, false, false, false, false, false, false] rfl rfl (any_of HT_.out (by kernel_rfl)) (fun _ _ _ h => h) (Or.inl ⟨by rfl, ?_⟩) ?_ ?_
            rotate_left
            ·
             intro w'
             go_simp
             with_reducible rfl
            rotate_left
            ·
             simp only [Act.put, List.setIfInBounds_toArray, List.set_cons_zero, List.set_cons_succ, i64_w, i32_w]
             rfl
            refine pure_ (i := 3) (N := some 48) (v := ?_) (a' := ?_) #[true, true, true, true, false, false, false, false, false, false, false, false, false] rfl rfl (any_of HT_.out (by kernel_rfl)) (fun _ _ _ h => h) (Or.inl ⟨by rfl, ?_⟩) ?_ ?_
            rotate_left
            ·
             intro w'
             go_simp
             with_reducible rfl
            rotate_left
            ·
             simp only [Act.put, List.setIfInBounds_toArray, List.set_cons_zero, List.set_cons_succ, i64_w, i32_w]
             rfl
            refine pure_ (i := 5) (N := some 50) (v := ?_) (a' := ?_) #[true, true, true, true, false, true, false, false, false, false, false, false, false] rfl rfl (any_of HT_.out (by kernel_rfl)) (fun _ _ _ h => h) (Or.inl ⟨by rfl, ?_⟩) ?_ ?_
            rotate_left
            ·
             intro w'
             go_simp
             with_reducible rfl
            rotate_left
            ·
             simp only [Act.put, List.setIfInBounds_toArray, List.set_cons_zero, List.set_cons_succ, i64_w, i32_w]
             rfl
            refine pure_ (i := 6) (N := some 51) (v := ?_) (a' := ?_) #[true, true, true, true, false, true, true, false, false, false, false, false, false] rfl rfl (any_of HT_.out (by kernel_rfl)) (fun _ _ _ h => h) (Or.inl ⟨by rfl, ?_⟩) ?_ ?_
            rotate_left
            ·
             intro w'
             go_simp
             with_reducible rfl
            rotate_left
            ·
             simp only [Act.put, List.setIfInBounds_toArray, List.set_cons_zero, List.set_cons_succ, i64_w, i32_w]
             rfl
            refine pure_ (i := 7) (N := some 52) (v := ?_) (a' := ?_) #[true, true, true, true, false, true, true, true, false, false, false, false, false] rfl rfl (any_of HT_.out (by kernel_rfl)) (fun _ _ _ h => h) (Or.inl ⟨by rfl, ?_⟩) ?_ ?_
            rotate_left
            ·
             intro w'
             go_simp
             with_reducible rfl
            rotate_left
            ·
             simp only [Act.put, List.setIfInBounds_toArray, List.set_cons_zero, List.set_cons_succ, i64_w, i32_w]
             rfl
            refine take_ (i := 4) (N := some 49) (v := ?_) (a' := ?_) #[true, true, true, true, true, true, true, true, false, false, false, false, false] rfl rfl (take_ofW HT_.out HW_.out (by kernel_rfl)) (fun _ _ _ h => h) (Or.inl ⟨by rfl, ?_⟩) hHeld ?_ ?_
            rotate_left
            ·
             rintro w' ⟨s0, s1⟩
             go_simp
             with_reducible rfl
            rotate_left
            ·
             simp only [Act.put, List.setIfInBounds_toArray, List.set_cons_zero, List.set_cons_succ, i64_w, i32_w]
             rfl
            refine take_ (i := 8) (N := some 53) (v := ?_) (a' := ?_) #[true, true, true, true, true, true, true, true, true, false, false, false, false] rfl rfl (take_ofW HT_.out HW_.out (by kernel_rfl)) (fun _ _ _ h => h) (Or.inl ⟨by rfl, ?_⟩) hHeld ?_ ?_
            rotate_left
            ·
             rintro w' ⟨s0, s1⟩
             go_simp
             with_reducible rfl
            rotate_left
            ·
             simp only [Act.put, List.setIfInBounds_toArray, List.set_cons_zero, List.set_cons_succ, i64_w, i32_w]
             rfl
            refine pure_ (i := 9) (N := some 54) (v := ?_) (a' := ?_) #[true, true, true, true, true, true, true, true, true, true, false, false, false] rfl rfl (any_of HT_.out (by kernel_rfl)) (fun _ _ _ h => h) (Or.inl ⟨by rfl, ?_⟩) ?_ ?_
            rotate_left
            ·
             intro w'
             go_simp
             with_reducible rfl
            rotate_left
            ·
             simp only [Act.put, List.setIfInBounds_toArray, List.set_cons_zero, List.set_cons_succ, i64_w, i32_w]
             rfl
            refine join_ (σ := Nat) 1 #[true, true, true, true, true, true, true, true, true, true, true, true, false] (fun s_ => [(55, .agg #[.int .u64 t122, .int .u64 t123]), (15, .pointer (some ⟨s_, 0, none⟩))]) (fun s_ w' => (w'.cell? (ad120.add (a3).toNat) = some (.int .u64 (rd t114 a3)) ∧ w'.cell? (ad120.add (a2).toNat) = some (.int .u64 (rd t114 a2))) ∧ (Kd.R (Kd.int .u64) 23 w' w.heap.size (fun k_ => some k_ ≠ (.slice Ao53 x9_1.length co53 : Value).ownBlock) (.slice (some ad120) t114.length co62) t114) ∧ (Kd.R (Kd.int .u64) 23 w' w.heap.size (fun k_ => some k_ ≠ (.slice (some ad120) t114.length co62 : Value).ownBlock) (.slice Ao53 x9_1.length co53) x9_1) ∧ (w'.heap[gb101]? = some (.cells #[.int .u64 0, .int .u64 0] 42 (0, 0))) ∧ (w'.heap[gb109]? = some (.cells #[.int .i64 t107, .int .i64 t108] 26 (0, 0))) ∧ (w'.heap[gb119]? = some (.cells #[.int .u64 t117, .int .u64 t118] 42 (0, 0))) ∧ (w'.heap[s_]? = some (.cells #[.int .u64 0, .int .u64 0] 42 (0, 0))) ∧ (w.heap.size ≤ s_) ∧ (w.heap.size ≤ s_) ∧ (gb101 ≠ s_) ∧ (s_ ≠ gb101) ∧ (gb109 ≠ s_) ∧ (s_ ≠ gb109) ∧ (gb119 ≠ s_) ∧ (s_ ≠ gb119) ∧ (Below w.heap.size w w')) ?_ ?_
            rotate_left
            ·
             intro hCont
             refine two_ (i := 10) (j := 11) (Ni := some 55) (Nj := some 15) #[true, true, true, true, true, true, true, true, true, true, true, false, false] #[true, true, true, true, true, true, true, true, true, true, false, true, false] rfl rfl rfl rfl (two_of HT_.out (by kernel_rfl)) (by decide) (by decide) (fun K hK => ?_) (fun K hK => ?_)
             ·
              skip
              refine goes_ Try.func42 (by kernel_rfl) rfl #[.int .u64 a1, .int .u64 (IntKind.u64.wrap ((rd t114 a3) - (rd t114 a2)))] (by rfl) rfl rfl (by (try simp only [List.map_toArray, List.map_cons, List.map_nil]); first | done | rfl | (simp only [List.length_drop, List.length_take]; rfl)) ?_
              with_reducible refine (weighbridgeref02_Mul.calls a1 (IntKind.u64.wrap ((rd t114 a3) - (rd t114 a2))) t122 t123 _ A26.out).mono ?_
              rintro e w63 ⟨rfl, hb⟩
              have HS0_ := (hb.cell (World.block_lt_of_cell? _ _ (hHeld.1))).trans (hHeld.1)
              have HS1_ := (hb.cell (World.block_lt_of_cell? _ _ (hHeld.2))).trans (hHeld.2)
              refine ⟨_, rfl, ?_⟩
              replace HO_9 := zr HO_9 hb; replace HO116 := zq3 (Kd.R_below (by (with_reducible repeat (first | apply Kd.R_alloc | apply Kd.R_drewN | apply Kd.R_drew)); exact HO116.out) hb); replace BK101 := zs BK101 hb; replace BK109 := zs BK109 hb; replace BK119 := zs BK119 hb; replace HB := zt HB hb
              (try clear hb)
              (try clear hb2)
              (try clear hk)
              (try clear hi)
              refine hK.out _ _ ⟨HS0_, HS1_⟩ (fun hHeld => ?_)
              clear hK K
              refine norm_ (a' := ?_) ?_ ?_
              rotate_left
              ·
               show Act.put _ (some 55) _ = _
               simp only [Act.put, List.setIfInBounds_toArray, List.set_cons_zero, List.set_cons_succ, i64_w, i32_w]
               rfl
              refine one_ (i := 11) (N := some 15) #[true, true, true, true, true, true, true, true, true, true, true, true, false] rfl rfl (one_of HT_.out (by kernel_rfl)) (by decide) (fun K hK => ?_)
              refine box_step ?hg (N := 15) ?hd (cs := #[.int .u64 0, .int .u64 0]) (t := 42) ?hr ?_; (case hd => rfl); (case hg => rfl); (case hr => first | (go_simp; done) | (go_simp; rfl))
              intro gb124 hg w64 hbox hb
              have HS0_ := (hb.cell (World.block_lt_of_cell? _ _ (hHeld.1))).trans (hHeld.1)
              have HS1_ := (hb.cell (World.block_lt_of_cell? _ _ (hHeld.2))).trans (hHeld.2)
              have BK124 := zq3 (hbox); have GW124 := ze hg HB; have GE124 := GW124; have NB101_124 := zl hg BK101; have NB124_101 := zg hg BK101; have NB109_124 := zl hg BK109; have NB124_109 := zg hg BK109; have NB119_124 := zl hg BK119; have NB124_119 := zg hg BK119; replace HO_9 := zr HO_9 hb; replace HO116 := zq3 (Kd.R_below (by (with_reducible repeat (first | apply Kd.R_alloc | apply Kd.R_drewN | apply Kd.R_drew)); exact HO116.out) hb); replace BK101 := zs BK101 hb; replace BK109 := zs BK109 hb; replace BK119 := zs BK119 hb; replace HB := zt HB hb
              clear hb hbox hg
              refine hK.out _ _ ⟨HS0_, HS1_⟩ (fun hHeld => ?_)
              clear hK K
              refine norm_ (a' := ?_) ?_ ?_
              rotate_left
              ·
               show Act.put _ (some 15) _ = _
               simp only [Act.put, List.setIfInBounds_toArray, List.set_cons_zero, List.set_cons_succ, i64_w, i32_w]
               rfl
              exact norm_ (by simp only [putAll, Act.put, List.setIfInBounds_toArray, List.set_cons_zero, List.set_cons_succ]) (hCont (gb124) _ ⟨hHeld, (by (with_reducible repeat (first | apply Kd.R_alloc | apply Kd.R_drewN | apply Kd.R_drew)); exact HO116.out), (zo HO_9), (zw BK101), (zw BK109), (zw BK119), (zw BK124), GW124.out, GE124.out, NB101_124.out, NB124_101.out, NB109_124.out, NB124_109.out, NB119_124.out, NB124_119.out, (zh HB)⟩)
             ·
              skip
              refine box_step ?hg (N := 15) ?hd (cs := #[.int .u64 0, .int .u64 0]) (t := 42) ?hr ?_; (case hd => rfl); (case hg => rfl); (case hr => first | (go_simp; done) | (go_simp; rfl))
              intro gb124 hg w63 hbox hb
              have HS0_ := (hb.cell (World.block_lt_of_cell? _ _ (hHeld.1))).trans (hHeld.1)
              have HS1_ := (hb.cell (World.block_lt_of_cell? _ _ (hHeld.2))).trans (hHeld.2)
              have BK124 := zq3 (hbox); have GW124 := ze hg HB; have GE124 := GW124; have NB101_124 := zl hg BK101; have NB124_101 := zg hg BK101; have NB109_124 := zl hg BK109; have NB124_109 := zg hg BK109; have NB119_124 := zl hg BK119; have NB124_119 := zg hg BK119; replace HO_9 := zr HO_9 hb; replace HO116 := zq3 (Kd.R_below (by (with_reducible repeat (first | apply Kd.R_alloc | apply Kd.R_drewN | apply Kd.R_drew)); exact HO116.out) hb); replace BK101 := zs BK101 hb; replace BK109 := zs BK109 hb; replace BK119 := zs BK119 hb; replace HB := zt HB hb
              clear hb hbox hg
              refine hK.out _ _ ⟨HS0_, HS1_⟩ (fun hHeld => ?_)
              clear hK K
              refine norm_ (a' := ?_) ?_ ?_
              rotate_left
              ·
               show Act.put _ (some 15) _ = _
               simp only [Act.put, List.setIfInBounds_toArray, List.set_cons_zero, List.set_cons_succ, i64_w, i32_w]
               rfl
              refine one_ (i := 10) (N := some 55) #[true, true, true, true, true, true, true, true, true, true, true, true, false] rfl rfl (one_of HT_.out (by kernel_rfl)) (by decide) (fun K hK => ?_)
              refine goes_ Try.func42 (by kernel_rfl) rfl #[.int .u64 a1, .int .u64 (IntKind.u64.wrap ((rd t114 a3) - (rd t114 a2)))] (by rfl) rfl rfl (by (try simp only [List.map_toArray, List.map_cons, List.map_nil]); first | done | rfl | (simp only [List.length_drop, List.length_take]; rfl)) ?_
              with_reducible refine (weighbridgeref02_Mul.calls a1 (IntKind.u64.wrap ((rd t114 a3) - (rd t114 a2))) t122 t123 _ A26.out).mono ?_
              rintro e w64 ⟨rfl, hb⟩
              have HS0_ := (hb.cell (World.block_lt_of_cell? _ _ (hHeld.1))).trans (hHeld.1)
              have HS1_ := (hb.cell (World.block_lt_of_cell? _ _ (hHeld.2))).trans (hHeld.2)
              refine ⟨_, rfl, ?_⟩
              replace HO_9 := zr HO_9 hb; replace HO116 := zq3 (Kd.R_below (by (with_reducible repeat (first | apply Kd.R_alloc | apply Kd.R_drewN | apply Kd.R_drew)); exact HO116.out) hb); replace BK101 := zs BK101 hb; replace BK109 := zs BK109 hb; replace BK119 := zs BK119 hb; replace BK124 := zs BK124 hb; replace HB := zt HB hb
              (try clear hb)
              (try clear hb2)
              (try clear hk)
              (try clear hi)
              refine hK.out _ _ ⟨HS0_, HS1_⟩ (fun hHeld => ?_)
              clear hK K
              refine norm_ (a' := ?_) ?_ ?_
              rotate_left
              ·
               show Act.put _ (some 55) _ = _
               simp only [Act.put, List.setIfInBounds_toArray, List.set_cons_zero, List.set_cons_succ, i64_w, i32_w]
               rfl
              exact norm_ (by simp only [putAll, Act.put, List.setIfInBounds_toArray, List.set_cons_zero, List.set_cons_succ]) (hCont (gb124) _ ⟨hHeld, (by (with_reducible repeat (first | apply Kd.R_alloc | apply Kd.R_drewN | apply Kd.R_drew)); exact HO116.out), (zo HO_9), (zw BK101), (zw BK109), (zw BK119), (zw BK124), GW124.out, GE124.out, NB101_124.out, NB124_101.out, NB109_124.out, NB124_109.out, NB119_124.out, NB124_119.out, (zh HB)⟩)
            rintro gb124 w65 ⟨hS_, h0_, h1_, h2_, h3_, h4_, h5_, h6_, h7_, h8_, h9_, h10_, h11_, h12_, h13_, h14_⟩
            have n0_ : Aside0 (Kd.R (Kd.int .u64) 23 w65 w.heap.size (fun k_ => some k_ ≠ (.slice Ao53 x9_1.length co53 : Value).ownBlock) (.slice (some ad120) t114.length co62) t114) := ⟨h0_⟩
            have n1_ : Aside0 (Kd.R (Kd.int .u64) 23 w65 w.heap.size (fun k_ => some k_ ≠ (.slice (some ad120) t114.length co62 : Value).ownBlock) (.slice Ao53 x9_1.length co53) x9_1) := ⟨h1_⟩
            have n2_ : Aside0 (w65.heap[gb101]? = some (.cells #[.int .u64 0, .int .u64 0] 42 (0, 0))) := ⟨h2_⟩
            have n3_ : Aside0 (w65.heap[gb109]? = some (.cells #[.int .i64 t107, .int .i64 t108] 26 (0, 0))) := ⟨h3_⟩
            have n4_ : Aside0 (w65.heap[gb119]? = some (.cells #[.int .u64 t117, .int .u64 t118] 42 (0, 0))) := ⟨h4_⟩
            have n5_ : Aside0 (w65.heap[gb124]? = some (.cells #[.int .u64 0, .int .u64 0] 42 (0, 0))) := ⟨h5_⟩
            have n6_ : Aside0 (w.heap.size ≤ gb124) := ⟨h6_⟩
            have n7_ : Aside0 (w.heap.size ≤ gb124) := ⟨h7_⟩
            have n8_ : Aside0 (gb101 ≠ gb124) := ⟨h8_⟩
            have n9_ : Aside0 (gb124 ≠ gb101) := ⟨h9_⟩
            have n10_ : Aside0 (gb109 ≠ gb124) := ⟨h10_⟩
            have n11_ : Aside0 (gb124 ≠ gb109) := ⟨h11_⟩
            have n12_ : Aside0 (gb119 ≠ gb124) := ⟨h12_⟩
            have n13_ : Aside0 (gb124 ≠ gb119) := ⟨h13_⟩
            have n14_ : Aside0 (Below w.heap.size w w65) := ⟨h14_⟩
            clear HO_9
            clear HO116
            clear BK101
            clear BK109
            clear BK119
            clear HB
            clear h0_ h1_ h2_ h3_ h4_ h5_ h6_ h7_ h8_ h9_ h10_ h11_ h12_ h13_ h14_
            have HO116 := n0_
            have HO_9 := n1_
            have BK101 := n2_
            have BK109 := n3_
            have BK119 := n4_
            have BK124 := n5_
            have GW124 := n6_
            have GE124 := n7_
            have NB101_124 := n8_
            have NB124_101 := n9_
            have NB109_124 := n10_
            have NB124_109 := n11_
            have NB119_124 := n12_
            have NB124_119 := n13_
            have HB := n14_
            clear n0_ n1_ n2_ n3_ n4_ n5_ n6_ n7_ n8_ n9_ n10_ n11_ n12_ n13_ n14_
            have hHeld : w65.cell? (ad120.add (a3).toNat) = some (.int .u64 (rd t114 a3)) ∧ w65.cell? (ad120.add (a2).toNat) = some (.int .u64 (rd t114 a2)) := hS_
            refine norm_ (a' := ?_) ?_ ?_
            rotate_left
            ·
             simp only [putAll, Act.put, List.setIfInBounds_toArray, List.set_cons_zero, List.set_cons_succ]
             rfl
            refine one_ (i := 12) (N := none) #[true, true, true, true, true, true, true, true, true, true, true, true, true] rfl rfl (one_of HT_.out (by kernel_rfl)) (by decide) (fun K hK => ?_)
            have hs66 : w65.cell? ⟨gb124, 0, none⟩ = some (.int .u64 0) := (zq5 BK124.out 0).trans rfl
            have hfs66 := zq4 BK124.out 0
            have hns66_0 := NB101_124.out
            have hns66_1 := NB109_124.out
            have hns66_2 := NB119_124.out
            have hms66_0 := NB124_101.out
            have hms66_1 := NB124_109.out
            have hms66_2 := NB124_119.out
            have hs67 : w65.cell? ⟨gb124, 1, none⟩ = some (.int .u64 0) := (zq5 BK124.out 1).trans rfl
            have hfs67 := zq4 BK124.out 1
            have hns67_0 := NB101_124.out
            have hns67_1 := NB109_124.out
            have hns67_2 := NB119_124.out
            have hms67_0 := NB124_101.out
            have hms67_1 := NB124_109.out
            have hms67_2 := NB124_119.out
            refine skip_ (w1 := ?_) (by rfl) rfl ?_ ?_
            rotate_left
            ·
             go_simp
             rfl
            refine hK.out _ _ ⟨((cell_far (p := ⟨gb124, _, none⟩) (by first | exact Kd.own_blk (Kd.R_ne HO116.out BK124.out (by decide)) | (rw [add_block]; exact Kd.own_blk (Kd.R_ne HO116.out BK124.out (by decide))) | (show (Addr.add _ _).block ≠ _; rw [add_block]; exact Kd.own_blk (Kd.R_ne HO116.out BK124.out (by decide))) | (dsimp only; exact Kd.own_blk (Kd.R_ne HO116.out BK124.out (by decide)))) _).trans (((cell_far (p := ⟨gb124, _, none⟩) (by first | exact Kd.own_blk (Kd.R_ne HO116.out BK124.out (by decide)) | (rw [add_block]; exact Kd.own_blk (Kd.R_ne HO116.out BK124.out (by decide))) | (show (Addr.add _ _).block ≠ _; rw [add_block]; exact Kd.own_blk (Kd.R_ne HO116.out BK124.out (by decide))) | (dsimp only; exact Kd.own_blk (Kd.R_ne HO116.out BK124.out (by decide)))) _).trans (hHeld.1)))), ((cell_far (p := ⟨gb124, _, none⟩) (by first | exact Kd.own_blk (Kd.R_ne HO116.out BK124.out (by decide)) | (rw [add_block]; exact Kd.own_blk (Kd.R_ne HO116.out BK124.out (by decide))) | (show (Addr.add _ _).block ≠ _; rw [add_block]; exact Kd.own_blk (Kd.R_ne HO116.out BK124.out (by decide))) | (dsimp only; exact Kd.own_blk (Kd.R_ne HO116.out BK124.out (by decide)))) _).trans (((cell_far (p := ⟨gb124, _, none⟩) (by first | exact Kd.own_blk (Kd.R_ne HO116.out BK124.out (by decide)) | (rw [add_block]; exact Kd.own_blk (Kd.R_ne HO116.out BK124.out (by decide))) | (show (Addr.add _ _).block ≠ _; rw [add_block]; exact Kd.own_blk (Kd.R_ne HO116.out BK124.out (by decide))) | (dsimp only; exact Kd.own_blk (Kd.R_ne HO116.out BK124.out (by decide)))) _).trans (hHeld.2))))⟩ (fun hHeld => ?_)
            clear hK K
            refine done_ (done_of HT_.out (by kernel_rfl)) ?_
            have hnb68 := NB119_124.out
            have hnc68 := NB124_119.out
            obtain ⟨hc69_0, hc69_1⟩ := zc2 BK119
            obtain ⟨hf69_0, hf69_1⟩ := zf2 BK119
            have hnb70 := NB124_101.out
            have hnc70 := NB101_124.out
            have hnb71 := NB124_109.out
            have hnc71 := NB109_124.out
            obtain ⟨hc72_0, hc72_1⟩ := zc2 BK124
            obtain ⟨hf72_0, hf72_1⟩ := zf2 BK124
            try go_wp2_with (first | ((with_reducible refine gate_callee (f := 41) rfl ?_); refine zgo (some 58) Try.func41 #[.agg #[.int .u64 t117, .int .u64 t118], .agg #[.int .u64 t122, .int .u64 t123]] ?_; (with_reducible refine (weighbridgeref02_Less.calls t117 t118 t122 t123 false _ A27.out).mono ?_); rintro e w73 ⟨rfl, hb⟩; refine ⟨_, rfl, ?_⟩; replace HO_9 := zq3 (Kd.R_below (by (with_reducible repeat (first | apply Kd.R_alloc | apply Kd.R_drewN | apply Kd.R_drew)); exact (Kd.R_mono (Kd.R_far (p := ⟨gb124, 1, none⟩) (Kd.R_far (p := ⟨gb124, 0, none⟩) (Kd.R_types HO_9.out BK124.out (by decide)) (fun _ hk => hk.2) (.int .u64 t122)) (fun _ hk => hk.2) (.int .u64 t123)) (fun _ h_ => h_.1))) hb); replace HO116 := zq3 (Kd.R_below (by (with_reducible repeat (first | apply Kd.R_alloc | apply Kd.R_drewN | apply Kd.R_drew)); exact (Kd.R_mono (Kd.R_far (p := ⟨gb124, 1, none⟩) (Kd.R_far (p := ⟨gb124, 0, none⟩) (Kd.R_types HO116.out BK124.out (by decide)) (fun _ hk => hk.2) (.int .u64 t122)) (fun _ hk => hk.2) (.int .u64 t123)) (fun _ h_ => h_.1))) hb); replace BK101 := zsf BK101 hb; replace BK109 := zsf BK109 hb; replace BK119 := zsf BK119 hb; replace BK124 := zq3 (zq10 (o := .cells #[.int .u64 t122, .int .u64 t123] 42 (0, 0)) (zw2 BK124) hb); replace HB := zt HB hb; (try clear hb); (try clear hk); obtain ⟨hc74_0, hc74_1⟩ := zc2 BK119; obtain ⟨hf74_0, hf74_1⟩ := zf2 BK119; obtain ⟨hc75_0, hc75_1⟩ := zc2 BK124; obtain ⟨hf75_0, hf75_1⟩ := zf2 BK124) | ((with_reducible refine gate_callee (f := 71) rfl ?_); refine zgo (some 63) Try.func71 #[.agg #[.int .u64 t117, .int .u64 t118], .agg #[.int .u64 t122, .int .u64 t123]] ?_; (with_reducible refine (weighbridgeref02_Sub.calls t117 t118 t122 t123 t126 t127 t128 _ A52.out).mono ?_); rintro e w76 ⟨rfl, hb⟩; refine ⟨_, rfl, ?_⟩; replace HO_9 := zr HO_9 hb; replace HO116 := zq3 (Kd.R_below (by (with_reducible repeat (first | apply Kd.R_alloc | apply Kd.R_drewN | apply Kd.R_drew)); exact HO116.out) hb); replace BK101 := zs BK101 hb; replace BK109 := zs BK109 hb; replace BK119 := zs BK119 hb; replace BK124 := zs BK124 hb; replace HB := zt HB hb; (try clear hb)) | ((with_reducible refine zd 16 rfl ?_); refine zb 16 #[.int .u64 0, .int .u64 0] 42 ?_; intro gb129 hg w77 hbox hb; have BK129 := zq3 (hbox); have GW129 := ze hg HB; have GE129 := GW129; have NB101_129 := zl hg BK101; have NB129_101 := zg hg BK101; have NB109_129 := zl hg BK109; have NB129_109 := zg hg BK109; have NB119_129 := zl hg BK119; have NB129_119 := zg hg BK119; have NB124_129 := zl hg BK124; have NB129_124 := zg hg BK124; replace HO_9 := zr HO_9 hb; replace HO116 := zq3 (Kd.R_below (by (with_reducible repeat (first | apply Kd.R_alloc | apply Kd.R_drewN | apply Kd.R_drew)); exact HO116.out) hb); replace BK101 := zs BK101 hb; replace BK109 := zs BK109 hb; replace BK119 := zs BK119 hb; replace BK124 := zs BK124 hb; replace HB := zt HB hb; clear hb hbox hg; have hnb78 := NB129_101.out; have hnc78 := NB101_129.out; have hnb79 := NB129_109.out; have hnc79 := NB109_129.out; have hnb80 := NB129_119.out; have hnc80 := NB119_129.out; have hnb81 := NB129_124.out; have hnc81 := NB124_129.out; obtain ⟨hc82_0, hc82_1⟩ := zc2 BK129; obtain ⟨hf82_0, hf82_1⟩ := zf2 BK129; have hnb83 := NB101_109.out; have hnc83 := NB109_101.out; obtain ⟨hc84_0, hc84_1⟩ := zc2 BK101; obtain ⟨hf84_0, hf84_1⟩ := zf2 BK101))
            refine bodyPost_ret (results_cell_row rfl _ _ gb101 42 #[.int .u64 t126, .int .u64 t127] (0, 0) _ rfl (zw2 BK101) Try.underlying42 rfl (by kernel_rfl)) rfl ?_
            exact ⟨by first | rfl | (simp [errW_none, errW_some] <;> rfl) | (simp [*, errW_none, errW_some] <;> rfl), zh HB⟩
          ·
           rw [if_neg c25] at H
           exact absurd H (by simp)
         ·
          rw [if_neg c24] at H
          exact absurd H (by simp)
        ·
         rw [if_neg c23] at H
         exact absurd H (by simp)
       ·
        rw [if_neg c22] at H
        exact absurd H (by simp)
   ·
    rw [if_neg c7] at H
    exact absurd H (by simp)
  ·
   rw [if_neg c6] at H
   exact absurd H (by simp)
 ·
  rw [if_neg c5] at H
  exact absurd H (by simp)

end Go.Proofs.Ytiaoaoebghnpkaa.P
