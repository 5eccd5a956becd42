/- Part of the proof. -/
import Derived.Test.YtiaoaoebghnpkaaMW18
import Derived.Test.YtiaoaoebghnpkaaMW19
import Derived.Test.YtiaoaoebghnpkaaMW20
import Derived.Test.YtiaoaoebghnpkaaMW42
import Derived.Test.YtiaoaoebghnpkaaMW34
namespace Go.Proofs.Ytiaoaoebghnpkaa.P
open Go.RowKit Go.Proofs.YtiaoaoebghnpkaaW.PrintWords Go.Proofs.YtiaoaoebghnpkaaW.PrintLast Go.Proofs.YtiaoaoebghnpkaaW.PrintMore
attribute [local go_sem] max2_int min2_int max_two min_two max_three min_three max_four min_four   -- for this text's walks alone
set_option linter.unusedVariables false
set_option linter.unusedSimpArgs false

/-! ### outlook_Pace: function 31 -/
def outlook_Pace.l0 : Nat → Int → List Int → List Int → Int → Int → Int → Bool → Int → Int → Int → Int → Int → Int → Int → Bool → Option (List Int × Int × Int)
  | 0, _, _, _, _, _, _, _, _, _, _, _, _, _, _, _ => none
  | k + 1, x2, x10, x33, x34, x35, x102000, x102001, x102002, x102003, x102004, x102005, x109000, x109001, x109002, x109003 => if x35 < x34 then (if 0 ≤ x35 then (if x35 < (x33.length : Int) then ((outlook_When.f k x102000 x102001 x102002 x102003 x102004 x102005 x109000 x109001 x109002 x109003 (rd x33 x35) x2).bind fun bt114 => (if bt114.2 = true then ((meter_Step.f x102000 x102001 x102002 x102003 x102004 x102005 x109000 x109001 x109002 x109003 bt114.1 (rd x33 x35) 0).bind fun bt116 => (if x35 < (x10.length : Int) then (outlook_Pace.l0 k x2 (x10.set (x35 : Int).toNat bt114.1) x33 x34 (wrap64 (x35 + 1)) x102000 x102001 x102002 x102003 x102004 x102005 bt116.1 bt116.2.1 bt116.2.2.1 bt116.2.2.2.1) else (none))) else (some (([] : List Int), 8, x35)))) else (none)) else (none)) else (some (x10, 0, 0))
def outlook_Pace.f (k : Nat) (a0_0 : Int) (a0_1 : Bool) (a0_2 : Int) (a0_3 : Int) (a0_4 : Int) (a0_5 : Int) (l1 : List Int) (a2 : Int) : Option (List Int × Int × Int) := (meter_New.f a0_0 a0_1 a0_2 a0_3 a0_4 a0_5).bind fun bt103 => (if bt103.2.2.2.2 = 0 then ((outlook_is.f a2).bind fun t109 => (if t109 = true then (if 0 ≤ (l1.length : Int) then (if ((l1.length : Int) : Int).toNat ≤ 35184372088832 then (outlook_Pace.l0 k a2 (List.replicate ((l1.length : Int) : Int).toNat 0) l1 (l1.length : Int) 0 a0_0 a0_1 a0_2 a0_3 a0_4 a0_5 bt103.1 bt103.2.1 bt103.2.2.1 bt103.2.2.2.1) else (none)) else (none)) else (some (([] : List Int), 13, 0)))) else (some (([] : List Int), bt103.2.2.2.2, 0)))
set_option maxHeartbeats 8000000 in
set_option maxRecDepth 100000 in
theorem outlook_Pace.calls (k : Nat) (a0_0 : Int) (a0_1 : Bool) (a0_2 : Int) (a0_3 : Int) (a0_4 : Int) (a0_5 : Int) (A1 : Option Addr) (c1 : Nat) (l1 : List Int) (a2 : Int) (r1 : List Int) (r2 : Int) (r3 : Int) (w : World) (hr1 : Kd.C (Kd.int .i64) w A1 l1.length l1) (hc1 : l1.length ≤ c1) (h : outlook_Pace.f k a0_0 a0_1 a0_2 a0_3 a0_4 a0_5 l1 a2 = some (r1, r2, r3)) :
    Calls Try.prog 31 #[.agg #[.int .i64 a0_0, .bool a0_1, .int .u64 a0_2, .int .u64 a0_3, .int .u64 a0_4, .int .u64 a0_5], .slice A1 l1.length c1, .int .i64 a2] w fun e w' => ∃ v0_ : Value, e = .returned (.tuple #[v0_, .agg #[.int .i64 r2, .int .i64 r3]]) ∧ Kd.R (Kd.int .u64) 23 w' w.heap.size (fun _ => True) v0_ r1 ∧ Below w.heap.size w w' := by
  have hu49 := Try.underlying49
  have hu26 := Try.underlying26
  have hu51 := Try.underlying51
  have HR1 := zq3 hr1
  have HC1 := zq3 hc1
  clear hr1 hc1
  have HB := zq3 (Below.refl w.heap.size w)
  have H : ((meter_New.f a0_0 a0_1 a0_2 a0_3 a0_4 a0_5).bind fun bt103 => (if bt103.2.2.2.2 = 0 then ((outlook_is.f a2).bind fun t109 => (if t109 = true then (if 0 ≤ (l1.length : Int) then (if ((l1.length : Int) : Int).toNat ≤ 35184372088832 then (outlook_Pace.l0 k a2 (List.replicate ((l1.length : Int) : Int).toNat 0) l1 (l1.length : Int) 0 a0_0 a0_1 a0_2 a0_3 a0_4 a0_5 bt103.1 bt103.2.1 bt103.2.2.1 bt103.2.2.2.1) else (none)) else (none)) else (some (([] : List Int), 13, 0)))) else (some (([] : List Int), bt103.2.2.2.2, 0)))) = some (r1, r2, r3) := h
  clear h
  replace H := Option.bind_eq_some_iff.mp H
  obtain ⟨⟨t103, t104, t105, t106, t107⟩, A40, H⟩ := H
  replace H : (if t107 = 0 then ((outlook_is.f a2).bind fun t109 => (if t109 = true then (if 0 ≤ (l1.length : Int) then (if ((l1.length : Int) : Int).toNat ≤ 35184372088832 then (outlook_Pace.l0 k a2 (List.replicate ((l1.length : Int) : Int).toNat 0) l1 (l1.length : Int) 0 a0_0 a0_1 a0_2 a0_3 a0_4 a0_5 t103 t104 t105 t106) else (none)) else (none)) else (some (([] : List Int), 13, 0)))) else (some (([] : List Int), t107, 0))) = some (r1, r2, r3) := H
  have A4 := zq3 A40
  clear A40
  by_cases c5 : t107 = 0
  · rw [if_pos c5] at H
    have c5b0 : (t107 == 0) = true := beq_iff_eq.mpr c5
    have c5b1 : (t107 != 0) = false := bne_eq_false_iff_eq.mpr c5
    clear c5
    replace H := Option.bind_eq_some_iff.mp H
    obtain ⟨t109, A60, H⟩ := H
    replace H : (if t109 = true then (if 0 ≤ (l1.length : Int) then (if ((l1.length : Int) : Int).toNat ≤ 35184372088832 then (outlook_Pace.l0 k a2 (List.replicate ((l1.length : Int) : Int).toNat 0) l1 (l1.length : Int) 0 a0_0 a0_1 a0_2 a0_3 a0_4 a0_5 t103 t104 t105 t106) else (none)) else (none)) else (some (([] : List Int), 13, 0))) = some (r1, r2, r3) := H
    have A6 := zq3 A60
    clear A60
    by_cases c7 : t109 = true
    · subst c7
      have H1 : (if 0 ≤ (l1.length : Int) then (if ((l1.length : Int) : Int).toNat ≤ 35184372088832 then (outlook_Pace.l0 k a2 (List.replicate ((l1.length : Int) : Int).toNat 0) l1 (l1.length : Int) 0 a0_0 a0_1 a0_2 a0_3 a0_4 a0_5 t103 t104 t105 t106) else (none)) else (none)) = some (r1, r2, r3) := by rw [if_pos rfl] at H; exact H
      clear H
      have H := H1
      clear H1
      by_cases c8 : 0 ≤ (l1.length : Int)
      · rw [if_pos c8] at H
        have c8b0 := eq_true c8
        have c8b1 : decide (0 ≤ (l1.length : Int)) = true := decide_eq_true c8
        clear c8
        by_cases c9 : ((l1.length : Int) : Int).toNat ≤ 35184372088832
        · rw [if_pos c9] at H
          have c9b0 := eq_true c9
          have c9b1 : decide (((l1.length : Int) : Int).toNat ≤ 35184372088832) = true := decide_eq_true c9
          clear c9
          obtain ⟨y110, hy110⟩ : ∃ y_ : List Int, y_ = (List.replicate ((l1.length : Int) : Int).toNat 0) := ⟨_, rfl⟩
          replace H : (outlook_Pace.l0 k a2 y110 l1 (l1.length : Int) 0 a0_0 a0_1 a0_2 a0_3 a0_4 a0_5 t103 t104 t105 t106) = some (r1, r2, r3) := by first | (rw [hy110]; with_reducible exact H) | (have H2_ := (Option.bind_some _ _).symm.trans H; rw [hy110]; with_reducible exact H2_) | (have H2_ := (Option.bind_some _ _).symm.trans H; with_reducible exact H2_) | with_reducible exact H | (rw [hy110]; exact H) | exact H
          have Ny110 := zq3 hy110
          clear hy110
          have H' := zq3 H
          clear H
          go_enter Try.func31, Try.ntmps31
          go_wp2_with (first | ((with_reducible refine zd 3 rfl ?_); refine zb 3 #[.int .i64 a0_0, .bool a0_1, .int .u64 a0_2, .int .u64 a0_3, .int .u64 a0_4, .int .u64 a0_5] 49 ?_; intro gb101 hg w10 hbox hb; have BK101 := zq3 (hbox); have GW101 := ze hg HB; have GE101 := GW101; replace HB := zt HB hb; clear hb hbox hg) | ((with_reducible refine zd 7 rfl ?_); refine zb 7 #[.int .i64 0, .int .i64 0] 26 ?_; intro gb102 hg w11 hbox hb; have BK102 := zq3 (hbox); have GW102 := ze hg HB; have GE102 := GW102; have NB101_102 := zl hg BK101; have NB102_101 := zg hg BK101; replace BK101 := zs BK101 hb; replace HB := zt HB hb; clear hb hbox hg; have hnb12 := NB101_102.out; have hnc12 := NB102_101.out; obtain ⟨hc13_0, hc13_1, hc13_2, hc13_3, hc13_4, hc13_5⟩ := zc6 BK101; obtain ⟨hf13_0, hf13_1, hf13_2, hf13_3, hf13_4, hf13_5⟩ := zf6 BK101) | ((with_reducible refine gate_callee (f := 63) rfl ?_); refine zgo (some 17) Try.func63 #[.agg #[.int .i64 a0_0, .bool a0_1, .int .u64 a0_2, .int .u64 a0_3, .int .u64 a0_4, .int .u64 a0_5]] ?_; (with_reducible refine (meter_New.calls a0_0 a0_1 a0_2 a0_3 a0_4 a0_5 t103 t104 t105 t106 t107 _ A4.out).mono ?_); rintro e w14 ⟨rfl, hb⟩; refine ⟨_, rfl, ?_⟩; replace BK101 := zs BK101 hb; replace BK102 := zs BK102 hb; replace HB := zt HB hb; (try clear hb)) | ((with_reducible refine zd 8 rfl ?_); refine zb 8 #[.int .u64 0, .int .u64 0, .int .u64 0, .bool false] 51 ?_; intro gb108 hg w15 hbox hb; have BK108 := zq3 (hbox); have GW108 := ze hg HB; have GE108 := GW108; have NB101_108 := zl hg BK101; have NB108_101 := zg hg BK101; have NB102_108 := zl hg BK102; have NB108_102 := zg hg BK102; replace BK101 := zs BK101 hb; replace BK102 := zs BK102 hb; replace HB := zt HB hb; clear hb hbox hg; have hnb16 := NB108_101.out; have hnc16 := NB101_108.out; have hnb17 := NB108_102.out; have hnc17 := NB102_108.out; obtain ⟨hc18_0, hc18_1, hc18_2, hc18_3⟩ := zc4 BK108; obtain ⟨hf18_0, hf18_1, hf18_2, hf18_3⟩ := zf4 BK108) | ((with_reducible refine gate_callee (f := 53) rfl ?_); refine zgo (some 27) Try.func53 #[.int .i64 a2] ?_; (with_reducible refine (outlook_is.calls a2 true _ A6.out).mono ?_); rintro e w19 ⟨rfl, hb⟩; refine ⟨_, rfl, ?_⟩; replace BK101 := zsf BK101 hb; replace BK102 := zsf BK102 hb; replace BK108 := zq3 (zq10 (g := gb108) (o := .cells #[.int .u64 t103, .int .u64 t104, .int .u64 t105, .bool t106] 51 (0, 0)) (by (with_reducible repeat (first | refine zq0 ?_ _ | refine zq2 ?_ | refine zq1 ?_ _)); refine blk_put (cs := #[.int .u64 t103, .int .u64 t104, .int .u64 t105, .bool false]) ?_ 3 _ rfl; (with_reducible repeat (first | refine zq0 ?_ _ | refine zq2 ?_ | refine zq1 ?_ _)); refine blk_put (cs := #[.int .u64 t103, .int .u64 t104, .int .u64 0, .bool false]) ?_ 2 _ rfl; (with_reducible repeat (first | refine zq0 ?_ _ | refine zq2 ?_ | refine zq1 ?_ _)); refine blk_put (cs := #[.int .u64 t103, .int .u64 0, .int .u64 0, .bool false]) ?_ 1 _ rfl; (with_reducible repeat (first | refine zq0 ?_ _ | refine zq2 ?_ | refine zq1 ?_ _)); refine blk_put (cs := #[.int .u64 0, .int .u64 0, .int .u64 0, .bool false]) ?_ 0 _ rfl; (with_reducible repeat (first | refine zq0 ?_ _ | refine zq2 ?_ | refine zq1 ?_ _)); exact BK108.out) hb); replace HB := zt HB hb; (try clear hb)) | ((with_reducible refine gate_dst (N := 32) rfl ?_); refine Kd.R_make (Kd.int .u64) _ 23 rfl (N := 32) rfl 57 _ _ rfl (l1.length : Int) rfl rfl Try.underlying57 (.int .u64 0) 8 info23 rfl (by decide) (by omega) 0 (ok := fun _ => True) (okp := fun _ => True) rfl (fun _ hk => hk) trivial (of_decide_eq_true (by first | (with_reducible assumption) | assumption)) (Nat.le_trans (Nat.mul_le_mul_right _ (of_decide_eq_true (by first | (with_reducible assumption) | assumption) : (l1.length : Int).toNat ≤ 35184372088832)) (by omega)) (Below.refl _ _) (Nat.le_refl _) ?_; intro v111 w20 ho21 hb hg_ hnew_; clear hg_ hnew_; (first | rw [← Ny110.out] at ho21 | (simp only [Int.reduceToNat] at ho21; rw [← Ny110.out] at ho21)); have HO112 := zq3 (Kd.R_lower ho21 (below_size (by repeat (first | (with_reducible first | exact HB.out | apply zq9 | apply zq7 | apply zq8 | refine zq6 ?_ GE101.out | refine zq6 ?_ GE102.out | refine zq6 ?_ GE108.out) | exact HB.out)))); replace BK101 := zs BK101 hb; replace BK102 := zs BK102 hb; replace BK108 := zs BK108 hb; replace HB := zt HB hb; clear hb ho21))
          go_loopg [35] k (fun kq v35 w' => ∃ (x10_1 : List Int) (x35_1 : Int) (x103000_1 : Int) (x103001_1 : Int) (x109000_1 : Int) (x109001_1 : Int) (x109002_1 : Int) (x109003_1 : Bool), v35 = .int .i64 x35_1 ∧ Aside0 (outlook_Pace.l0 kq a2 x10_1 l1 (l1.length : Int) x35_1 a0_0 a0_1 a0_2 a0_3 a0_4 a0_5 x109000_1 x109001_1 x109002_1 x109003_1 = some (r1, r2, r3)) ∧ Aside0 (kq ≤ k) ∧ Aside0 (Kd.R (Kd.int .u64) 23 w' w.heap.size (fun _ => True) v111 x10_1) ∧ Aside0 (w'.heap[gb101]? = some (.cells #[.int .i64 a0_0, .bool a0_1, .int .u64 a0_2, .int .u64 a0_3, .int .u64 a0_4, .int .u64 a0_5] 49 (0, 0))) ∧ Aside0 (w'.heap[gb102]? = some (.cells #[.int .i64 x103000_1, .int .i64 x103001_1] 26 (0, 0))) ∧ Aside0 (w'.heap[gb108]? = some (.cells #[.int .u64 x109000_1, .int .u64 x109001_1, .int .u64 x109002_1, .bool x109003_1] 51 (0, 0))) ∧ Aside0 (Below w.heap.size w w'))
          case atStart => exact ⟨(y110), (0), (0), (0), (t103), (t104), (t105), (t106), (by first | rfl | (simp; done) | (simp [*]; done)), H', ⟨Nat.le_refl _⟩, ⟨by (with_reducible repeat (first | apply Kd.R_alloc | apply Kd.R_drewN | apply Kd.R_drew)); exact HO112.out⟩, ⟨by (with_reducible repeat (first | refine zq0 ?_ _ | refine zq2 ?_ | refine zq1 ?_ _)); exact BK101.out⟩, ⟨by (with_reducible repeat (first | refine zq0 ?_ _ | refine zq2 ?_ | refine zq1 ?_ _)); exact BK102.out⟩, ⟨by (with_reducible repeat (first | refine zq0 ?_ _ | refine zq2 ?_ | refine zq1 ?_ _)); exact BK108.out⟩, ⟨by repeat (first | (with_reducible first | exact HB.out | apply zq9 | apply zq7 | apply zq8 | refine zq6 ?_ GE101.out | refine zq6 ?_ GE102.out | refine zq6 ?_ GE108.out) | exact HB.out)⟩⟩
          case round =>
            clear H'
            try clear c1
            try clear p2
            try clear c3
            try clear c5
            try clear c5b0
            try clear c5b1
            try clear c6
            try clear c7
            try clear c8
            try clear c8b0
            try clear c8b1
            try clear c9
            try clear c9b0
            try clear c9b1
            try clear c12
            try clear c16
            try clear c17
            try clear hc13_0 hc13_1 hc13_2 hc13_3 hc13_4 hc13_5 hc18_0 hc18_1 hc18_2 hc18_3 hf13_0 hf13_1 hf13_2 hf13_3 hf13_4 hf13_5 hf18_0 hf18_1 hf18_2 hf18_3
            obtain ⟨x10_1, x35_1, x103000_1, x103001_1, x109000_1, x109001_1, x109002_1, x109003_1, rfl, HA, HK1, HO_10, BK101, BK102, BK108, HB⟩ := hrel
            cases gk with
            | zero => exact absurd HA.out (by simp [outlook_Pace.l0])
            | succ k1 =>
              have H := HA.out
              clear HA
              simp only [outlook_Pace.l0] at H
              by_cases c22 : x35_1 < (l1.length : Int)
              · rw [if_pos c22] at H
                have c22b0 : decide (x35_1 < (l1.length : Int)) = true := decide_eq_true c22
                clear c22
                by_cases c23 : 0 ≤ x35_1
                · rw [if_pos c23] at H
                  have c23b0 : decide (0 ≤ x35_1) = true := decide_eq_true c23
                  clear c23
                  by_cases c24 : x35_1 < (l1.length : Int)
                  · rw [if_pos c24] at H
                    have c24b0 : decide (x35_1 < (l1.length : Int)) = true := decide_eq_true c24
                    clear c24
                    replace H := Option.bind_eq_some_iff.mp H
                    obtain ⟨⟨t114, t115⟩, A250, H⟩ := H
                    replace H : (if t115 = true then ((meter_Step.f a0_0 a0_1 a0_2 a0_3 a0_4 a0_5 x109000_1 x109001_1 x109002_1 x109003_1 t114 (rd l1 x35_1) 0).bind fun bt116 => (if x35_1 < (x10_1.length : Int) then (outlook_Pace.l0 k1 a2 (x10_1.set (x35_1 : Int).toNat t114) l1 (l1.length : Int) (wrap64 (x35_1 + 1)) a0_0 a0_1 a0_2 a0_3 a0_4 a0_5 bt116.1 bt116.2.1 bt116.2.2.1 bt116.2.2.2.1) else (none))) else (some (([] : List Int), 8, x35_1))) = some (r1, r2, r3) := H
                    have A25 := zq3 A250
                    clear A250
                    by_cases c26 : t115 = true
                    · subst c26
                      have H1 : ((meter_Step.f a0_0 a0_1 a0_2 a0_3 a0_4 a0_5 x109000_1 x109001_1 x109002_1 x109003_1 t114 (rd l1 x35_1) 0).bind fun bt116 => (if x35_1 < (x10_1.length : Int) then (outlook_Pace.l0 k1 a2 (x10_1.set (x35_1 : Int).toNat t114) l1 (l1.length : Int) (wrap64 (x35_1 + 1)) a0_0 a0_1 a0_2 a0_3 a0_4 a0_5 bt116.1 bt116.2.1 bt116.2.2.1 bt116.2.2.2.1) else (none))) = some (r1, r2, r3) := by rw [if_pos rfl] at H; exact H
                      clear H
                      have H := H1
                      clear H1
                      replace H := Option.bind_eq_some_iff.mp H
                      obtain ⟨⟨t116, t117, t118, t119, t120⟩, A270, H⟩ := H
                      replace H : (if x35_1 < (x10_1.length : Int) then (outlook_Pace.l0 k1 a2 (x10_1.set (x35_1 : Int).toNat t114) l1 (l1.length : Int) (wrap64 (x35_1 + 1)) a0_0 a0_1 a0_2 a0_3 a0_4 a0_5 t116 t117 t118 t119) else (none)) = some (r1, r2, r3) := H
                      have A27 := zq3 A270
                      clear A270
                      by_cases c28 : x35_1 < (x10_1.length : Int)
                      · rw [if_pos c28] at H
                        have c28b0 : decide (x35_1 < (x10_1.length : Int)) = true := decide_eq_true c28
                        clear c28
                        obtain ⟨y121, hy121⟩ : ∃ y_ : List Int, y_ = (x10_1.set (x35_1 : Int).toNat t114) := ⟨_, rfl⟩
                        replace H : (outlook_Pace.l0 k1 a2 y121 l1 (l1.length : Int) (wrap64 (x35_1 + 1)) a0_0 a0_1 a0_2 a0_3 a0_4 a0_5 t116 t117 t118 t119) = some (r1, r2, r3) := by first | (rw [hy121]; with_reducible exact H) | (have H2_ := (Option.bind_some _ _).symm.trans H; rw [hy121]; with_reducible exact H2_) | (have H2_ := (Option.bind_some _ _).symm.trans H; with_reducible exact H2_) | with_reducible exact H | (rw [hy121]; exact H) | exact H
                        have Ny121 := zq3 hy121
                        clear hy121
                        have H' := zq3 H
                        clear H
                        have p113 : 0 ≤ (x35_1 : Int) := of_decide_eq_true (by first | (with_reducible assumption) | assumption)
                        have q113 : x35_1 < (l1.length : Int) := of_decide_eq_true (by first | (with_reducible assumption) | assumption)
                        obtain ⟨ad113, e113, hx113_0⟩ := Kd.at_int HR1.out x35_1 p113 q113
                        cases e113
                        replace hx113_0 := (HB.out.cell (World.block_lt_of_cell? w _ hx113_0)).trans hx113_0
                        replace p113 := eq_true p113
                        replace q113 := eq_true q113
                        have hnb30 := NB101_102.out
                        have hnc30 := NB102_101.out
                        have hnb31 := NB101_108.out
                        have hnc31 := NB108_101.out
                        obtain ⟨hc32_0, hc32_1, hc32_2, hc32_3, hc32_4, hc32_5⟩ := zc6 BK101
                        obtain ⟨hf32_0, hf32_1, hf32_2, hf32_3, hf32_4, hf32_5⟩ := zf6 BK101
                        have hnb33 := NB108_102.out
                        have hnc33 := NB102_108.out
                        obtain ⟨hc34_0, hc34_1, hc34_2, hc34_3⟩ := zc4 BK108
                        obtain ⟨hf34_0, hf34_1, hf34_2, hf34_3⟩ := zf4 BK108
                        go_wp2_with (first | ((with_reducible refine gate_callee (f := 26) rfl ?_); refine zgo (some 45) Try.func26 #[.agg #[.int .i64 a0_0, .bool a0_1, .int .u64 a0_2, .int .u64 a0_3, .int .u64 a0_4, .int .u64 a0_5], .agg #[.int .u64 x109000_1, .int .u64 x109001_1, .int .u64 x109002_1, .bool x109003_1], .int .i64 (rd l1 x35_1), .int .i64 a2] ?_; (with_reducible refine (outlook_When.calls k1 a0_0 a0_1 a0_2 a0_3 a0_4 a0_5 x109000_1 x109001_1 x109002_1 x109003_1 (rd l1 x35_1) a2 t114 true _ A25.out).mono ?_); rintro e w35 ⟨rfl, hb⟩; refine ⟨_, rfl, ?_⟩; replace HO_10 := zq3 (Kd.R_below (by (with_reducible repeat (first | apply Kd.R_alloc | apply Kd.R_drewN | apply Kd.R_drew)); exact HO_10.out) hb); replace BK101 := zs BK101 hb; replace BK102 := zs BK102 hb; replace BK108 := zs BK108 hb; replace HB := zt HB hb; (try clear hb); obtain ⟨hc36_0, hc36_1, hc36_2, hc36_3, hc36_4, hc36_5⟩ := zc6 BK101; obtain ⟨hf36_0, hf36_1, hf36_2, hf36_3, hf36_4, hf36_5⟩ := zf6 BK101; obtain ⟨hc37_0, hc37_1, hc37_2, hc37_3⟩ := zc4 BK108; obtain ⟨hf37_0, hf37_1, hf37_2, hf37_3⟩ := zf4 BK108) | ((with_reducible refine gate_callee (f := 35) rfl ?_); refine zgo (some 57) Try.func35 #[.agg #[.int .i64 a0_0, .bool a0_1, .int .u64 a0_2, .int .u64 a0_3, .int .u64 a0_4, .int .u64 a0_5], .agg #[.int .u64 x109000_1, .int .u64 x109001_1, .int .u64 x109002_1, .bool x109003_1], .int .u64 t114, .int .i64 (rd l1 x35_1), .int .i64 0] ?_; (with_reducible refine (meter_Step.calls a0_0 a0_1 a0_2 a0_3 a0_4 a0_5 x109000_1 x109001_1 x109002_1 x109003_1 t114 (rd l1 x35_1) 0 t116 t117 t118 t119 t120 _ A27.out).mono ?_); rintro e w38 ⟨rfl, hb⟩; refine ⟨_, rfl, ?_⟩; replace HO_10 := zq3 (Kd.R_below (by (with_reducible repeat (first | apply Kd.R_alloc | apply Kd.R_drewN | apply Kd.R_drew)); exact HO_10.out) hb); replace BK101 := zs BK101 hb; replace BK102 := zs BK102 hb; replace BK108 := zs BK108 hb; replace HB := zt HB hb; (try clear hb); obtain ⟨hc39_0, hc39_1, hc39_2, hc39_3⟩ := zc4 BK108; obtain ⟨hf39_0, hf39_1, hf39_2, hf39_3⟩ := zf4 BK108) | ((with_reducible refine gate_store (t := 51) (p := 8) rfl ?_); refine store_event (t := 51) (p := 8) (v := ?vo_w40) (w1 := ((((w38.setCell ⟨gb108, 0, none⟩ (.int .u64 t116)).setCell ⟨gb108, 1, none⟩ (.int .u64 t117)).setCell ⟨gb108, 2, none⟩ (.int .u64 t118)).setCell ⟨gb108, 3, none⟩ (.bool t119))) ?hg ?ho ?hn ?hr ?_; (case ho => rfl); (case hg => rfl); (case hn => rfl); (case hr => first | (go_simp; done) | (go_simp; rfl)); intro w40 hw; have n0_ : Aside0 (Kd.R (Kd.int .u64) 23 w40 w.heap.size (fun _ => True) v111 x10_1) := ⟨(by rw [hw]; exact (by (with_reducible repeat (first | apply Kd.R_alloc | apply Kd.R_drewN | apply Kd.R_drew)); exact Kd.R_mono (Kd.R_far (p := ⟨gb108, 3, none⟩) (Kd.R_far (p := ⟨gb108, 2, none⟩) (Kd.R_far (p := ⟨gb108, 1, none⟩) (Kd.R_far (p := ⟨gb108, 0, none⟩) (Kd.R_types HO_10.out BK108.out (by decide)) (fun _ hk => hk.2) (.int .u64 t116)) (fun _ hk => hk.2) (.int .u64 t117)) (fun _ hk => hk.2) (.int .u64 t118)) (fun _ hk => hk.2) (.bool t119)) (fun _ hk => trivial)))⟩; have n1_ : Aside0 (w40.heap[gb101]? = some (.cells #[.int .i64 a0_0, .bool a0_1, .int .u64 a0_2, .int .u64 a0_3, .int .u64 a0_4, .int .u64 a0_5] 49 (0, 0))) := ⟨(by rw [hw]; exact (by (with_reducible repeat (first | refine zq0 ?_ _ | refine zq2 ?_ | refine zq1 ?_ _)); refine zq11 ?_ NB101_108.out _; (with_reducible repeat (first | refine zq0 ?_ _ | refine zq2 ?_ | refine zq1 ?_ _)); refine zq11 ?_ NB101_108.out _; (with_reducible repeat (first | refine zq0 ?_ _ | refine zq2 ?_ | refine zq1 ?_ _)); refine zq11 ?_ NB101_108.out _; (with_reducible repeat (first | refine zq0 ?_ _ | refine zq2 ?_ | refine zq1 ?_ _)); refine zq11 ?_ NB101_108.out _; (with_reducible repeat (first | refine zq0 ?_ _ | refine zq2 ?_ | refine zq1 ?_ _)); exact BK101.out))⟩; have n2_ : Aside0 (w40.heap[gb102]? = some (.cells #[.int .i64 x103000_1, .int .i64 x103001_1] 26 (0, 0))) := ⟨(by rw [hw]; exact (by (with_reducible repeat (first | refine zq0 ?_ _ | refine zq2 ?_ | refine zq1 ?_ _)); refine zq11 ?_ NB102_108.out _; (with_reducible repeat (first | refine zq0 ?_ _ | refine zq2 ?_ | refine zq1 ?_ _)); refine zq11 ?_ NB102_108.out _; (with_reducible repeat (first | refine zq0 ?_ _ | refine zq2 ?_ | refine zq1 ?_ _)); refine zq11 ?_ NB102_108.out _; (with_reducible repeat (first | refine zq0 ?_ _ | refine zq2 ?_ | refine zq1 ?_ _)); refine zq11 ?_ NB102_108.out _; (with_reducible repeat (first | refine zq0 ?_ _ | refine zq2 ?_ | refine zq1 ?_ _)); exact BK102.out))⟩; have n3_ : Aside0 (w40.heap[gb108]? = some (.cells #[.int .u64 t116, .int .u64 t117, .int .u64 t118, .bool t119] 51 (0, 0))) := ⟨(by rw [hw]; exact (by (with_reducible repeat (first | refine zq0 ?_ _ | refine zq2 ?_ | refine zq1 ?_ _)); refine blk_put (cs := #[.int .u64 t116, .int .u64 t117, .int .u64 t118, .bool x109003_1]) ?_ 3 _ rfl; (with_reducible repeat (first | refine zq0 ?_ _ | refine zq2 ?_ | refine zq1 ?_ _)); refine blk_put (cs := #[.int .u64 t116, .int .u64 t117, .int .u64 x109002_1, .bool x109003_1]) ?_ 2 _ rfl; (with_reducible repeat (first | refine zq0 ?_ _ | refine zq2 ?_ | refine zq1 ?_ _)); refine blk_put (cs := #[.int .u64 t116, .int .u64 x109001_1, .int .u64 x109002_1, .bool x109003_1]) ?_ 1 _ rfl; (with_reducible repeat (first | refine zq0 ?_ _ | refine zq2 ?_ | refine zq1 ?_ _)); refine blk_put (cs := #[.int .u64 x109000_1, .int .u64 x109001_1, .int .u64 x109002_1, .bool x109003_1]) ?_ 0 _ rfl; (with_reducible repeat (first | refine zq0 ?_ _ | refine zq2 ?_ | refine zq1 ?_ _)); exact BK108.out))⟩; have n4_ : Aside0 (Below w.heap.size w w40) := ⟨(by rw [hw]; exact (by repeat (first | (with_reducible first | exact HB.out | apply zq9 | apply zq7 | apply zq8 | refine zq6 ?_ GE101.out | refine zq6 ?_ GE102.out | refine zq6 ?_ GE108.out) | exact HB.out)))⟩; clear hw; clear HO_10; clear BK101; clear BK102; clear BK108; clear HB; have HO_10 := n0_; have BK101 := n1_; have BK102 := n2_; have BK108 := n3_; have HB := n4_; clear n0_ n1_ n2_ n3_ n4_; have p29 : 0 ≤ (x35_1 : Int) := of_decide_eq_true (by first | (with_reducible assumption) | assumption); have q29 : (x35_1 : Int) < ((x10_1.length : Int) : Int) := of_decide_eq_true (by first | (with_reducible assumption) | assumption); obtain ⟨go29, co29, eo29, gb29, gl29, cl29, HG29⟩ := Kd.R_form HO_10.out (by omega); (first | cases eo29 | (injection eo29 with ea_ en_ ec_; (first | subst ea_ | (injection ea_ with ea_; subst ea_)); subst ec_; clear en_)); have GB29 := zq3 gb29; have GG29 := zq3 HG29; clear gb29 gl29 HG29; obtain ⟨hx29_0, hf29_0⟩ := Kd.R_celln 0 HO_10.out (x35_1 : Int) p29 q29; replace p29 := eq_true p29; replace q29 := eq_true q29; obtain ⟨hy41_, hz41_⟩ := Kd.R_celln 0 HO_10.out (x35_1 : Int) (of_decide_eq_true (by first | (with_reducible assumption) | assumption)) (of_decide_eq_true (by first | (with_reducible assumption) | assumption)); have HP41 := Kd.R_putg HO_10.out (x35_1 : Int) t114) | ((with_reducible refine gate_store (t := 23) (p := 63) rfl ?_); refine store_event (t := 23) (p := 63) (v := ?vo_w42) (w1 := (w40.setCell ⟨go29, (x35_1 : Int).toNat, none⟩ (.int .u64 t114))) ?hg ?ho ?hn ?hr ?_; (case ho => rfl); (case hg => rfl); (case hn => rfl); (case hr => first | (go_simp; done) | (go_simp; rfl)); intro w42 hw; have hg : w40.grownBy w42 (some go29) := (by rw [hw]; exact HP41.2); have hp_ : Kd.R (Kd.int .u64) 23 w42 w.heap.size (fun _ => True) (.slice (some ⟨go29, 0, none⟩) x10_1.length co29) y121 := (by rw [hw, Ny121.out]; exact HP41.1); clear HP41; replace BK101 := zq3 (blk_grown (g := gb101) (o := .cells #[.int .i64 a0_0, .bool a0_1, .int .u64 a0_2, .int .u64 a0_3, .int .u64 a0_4, .int .u64 a0_5] 49 (0, 0)) (by (with_reducible repeat (first | refine zq0 ?_ _ | refine zq2 ?_ | refine zq1 ?_ _)); exact BK101.out) hg (Kd.R_ne HO_10.out BK101.out (by decide))); replace BK102 := zq3 (blk_grown (g := gb102) (o := .cells #[.int .i64 x103000_1, .int .i64 x103001_1] 26 (0, 0)) (by (with_reducible repeat (first | refine zq0 ?_ _ | refine zq2 ?_ | refine zq1 ?_ _)); exact BK102.out) hg (Kd.R_ne HO_10.out BK102.out (by decide))); replace BK108 := zq3 (blk_grown (g := gb108) (o := .cells #[.int .u64 t116, .int .u64 t117, .int .u64 t118, .bool t119] 51 (0, 0)) (by (with_reducible repeat (first | refine zq0 ?_ _ | refine zq2 ?_ | refine zq1 ?_ _)); exact BK108.out) hg (Kd.R_ne HO_10.out BK108.out (by decide))); replace HO_10 := zq3 (hp_); replace HB := zq3 ((by rw [hw]; exact zq6 (HB.out) GB29.out : Below w.heap.size w w42)); clear hg hw hp_))
                        go_roundg k1
                        case measure => have := HK1.out; omega
                        case rel => exact ⟨(y121), (wrap64 (x35_1 + 1)), (x103000_1), (x103001_1), (t116), (t117), (t118), (t119), (by first | rfl | (simp; done) | (simp [*]; done)), H', ⟨by have := HK1.out; omega⟩, ⟨by (with_reducible repeat (first | apply Kd.R_alloc | apply Kd.R_drewN | apply Kd.R_drew)); exact HO_10.out⟩, ⟨by (with_reducible repeat (first | refine zq0 ?_ _ | refine zq2 ?_ | refine zq1 ?_ _)); exact BK101.out⟩, ⟨by (with_reducible repeat (first | refine zq0 ?_ _ | refine zq2 ?_ | refine zq1 ?_ _)); exact BK102.out⟩, ⟨by (with_reducible repeat (first | refine zq0 ?_ _ | refine zq2 ?_ | refine zq1 ?_ _)); exact BK108.out⟩, ⟨by repeat (first | (with_reducible first | exact HB.out | apply zq9 | apply zq7 | apply zq8 | refine zq6 ?_ GE101.out | refine zq6 ?_ GE102.out | refine zq6 ?_ GE108.out) | exact HB.out)⟩⟩
                      · rw [if_neg c28] at H
                        exact absurd H (by simp)
                    · replace c26 := Bool.eq_false_iff.mpr c26
                      subst c26
                      have H1 : (some (([] : List Int), 8, x35_1)) = some (r1, r2, r3) := by rw [if_neg (show ¬ (false = true) by decide)] at H; exact H
                      clear H
                      have H := H1
                      clear H1
                      simp only [Option.some.injEq, Prod.mk.injEq] at H
                      obtain ⟨rfl, rfl, rfl⟩ := H
                      have p113 : 0 ≤ (x35_1 : Int) := of_decide_eq_true (by first | (with_reducible assumption) | assumption)
                      have q113 : x35_1 < (l1.length : Int) := of_decide_eq_true (by first | (with_reducible assumption) | assumption)
                      obtain ⟨ad113, e113, hx113_0⟩ := Kd.at_int HR1.out x35_1 p113 q113
                      cases e113
                      replace hx113_0 := (HB.out.cell (World.block_lt_of_cell? w _ hx113_0)).trans hx113_0
                      replace p113 := eq_true p113
                      replace q113 := eq_true q113
                      have hnb43 := NB101_102.out
                      have hnc43 := NB102_101.out
                      have hnb44 := NB101_108.out
                      have hnc44 := NB108_101.out
                      obtain ⟨hc45_0, hc45_1, hc45_2, hc45_3, hc45_4, hc45_5⟩ := zc6 BK101
                      obtain ⟨hf45_0, hf45_1, hf45_2, hf45_3, hf45_4, hf45_5⟩ := zf6 BK101
                      have hnb46 := NB108_102.out
                      have hnc46 := NB102_108.out
                      obtain ⟨hc47_0, hc47_1, hc47_2, hc47_3⟩ := zc4 BK108
                      obtain ⟨hf47_0, hf47_1, hf47_2, hf47_3⟩ := zf4 BK108
                      go_wp2_with (first | ((with_reducible refine gate_callee (f := 26) rfl ?_); refine zgo (some 45) Try.func26 #[.agg #[.int .i64 a0_0, .bool a0_1, .int .u64 a0_2, .int .u64 a0_3, .int .u64 a0_4, .int .u64 a0_5], .agg #[.int .u64 x109000_1, .int .u64 x109001_1, .int .u64 x109002_1, .bool x109003_1], .int .i64 (rd l1 x35_1), .int .i64 a2] ?_; (with_reducible refine (outlook_When.calls k1 a0_0 a0_1 a0_2 a0_3 a0_4 a0_5 x109000_1 x109001_1 x109002_1 x109003_1 (rd l1 x35_1) a2 t114 false _ A25.out).mono ?_); rintro e w48 ⟨rfl, hb⟩; refine ⟨_, rfl, ?_⟩; replace HO_10 := zq3 (Kd.R_below (by (with_reducible repeat (first | apply Kd.R_alloc | apply Kd.R_drewN | apply Kd.R_drew)); exact HO_10.out) hb); replace BK101 := zs BK101 hb; replace BK102 := zs BK102 hb; replace BK108 := zs BK108 hb; replace HB := zt HB hb; (try clear hb); obtain ⟨hc49_0, hc49_1⟩ := zc2 BK102; obtain ⟨hf49_0, hf49_1⟩ := zf2 BK102))
                      refine bodyPost_ret (results_tc rfl _ _ gb102 26 #[.int .i64 8, .int .i64 x35_1] (0, 0) _ rfl (by (with_reducible repeat (first | refine zq0 ?_ _ | refine zq2 ?_ | refine zq1 ?_ _)); refine blk_put (cs := #[.int .i64 8, .int .i64 x103001_1]) ?_ 1 _ rfl; (with_reducible repeat (first | refine zq0 ?_ _ | refine zq2 ?_ | refine zq1 ?_ _)); refine blk_put (cs := #[.int .i64 x103000_1, .int .i64 x103001_1]) ?_ 0 _ rfl; (with_reducible repeat (first | refine zq0 ?_ _ | refine zq2 ?_ | refine zq1 ?_ _)); exact BK102.out) Try.underlying26 rfl (by kernel_rfl)) rfl ?_
                      exact ⟨_, by first | rfl | (simp [errW_none, errW_some] <;> rfl) | (simp [*, errW_none, errW_some] <;> rfl), by first | exact Kd.R_nil _ _ _ _ _ | exact Kd.N_nil _ _ _ _ _ | exact Kd.V_nil _ _ _ _ _ | exact Kd.Q_nil _ _ _ _ _ | exact Kd.S_nil _ _ _ _ _, by repeat (first | (with_reducible first | exact HB.out | apply zq9 | apply zq7 | apply zq8 | refine zq6 ?_ GE101.out | refine zq6 ?_ GE102.out | refine zq6 ?_ GE108.out) | exact HB.out)⟩
                  · rw [if_neg c24] at H
                    exact absurd H (by simp)
                · rw [if_neg c23] at H
                  exact absurd H (by simp)
              · rw [if_neg c22] at H
                have c22b0 : decide (x35_1 < (l1.length : Int)) = false := decide_eq_false c22
                clear c22
                simp only [Option.some.injEq, Prod.mk.injEq] at H
                obtain ⟨rfl, rfl, rfl⟩ := H
                have hnb50 := NB102_101.out
                have hnc50 := NB101_102.out
                have hnb51 := NB102_108.out
                have hnc51 := NB108_102.out
                obtain ⟨hc52_0, hc52_1⟩ := zc2 BK102
                obtain ⟨hf52_0, hf52_1⟩ := zf2 BK102
                go_wp2
                refine bodyPost_ret (results_tc rfl _ _ gb102 26 #[.int .i64 0, .int .i64 0] (0, 0) _ rfl (by (with_reducible repeat (first | refine zq0 ?_ _ | refine zq2 ?_ | refine zq1 ?_ _)); refine blk_put (cs := #[.int .i64 0, .int .i64 x103001_1]) ?_ 1 _ rfl; (with_reducible repeat (first | refine zq0 ?_ _ | refine zq2 ?_ | refine zq1 ?_ _)); refine blk_put (cs := #[.int .i64 x103000_1, .int .i64 x103001_1]) ?_ 0 _ rfl; (with_reducible repeat (first | refine zq0 ?_ _ | refine zq2 ?_ | refine zq1 ?_ _)); exact BK102.out) Try.underlying26 rfl (by kernel_rfl)) rfl ?_
                exact ⟨_, by first | rfl | (simp [errW_none, errW_some] <;> rfl) | (simp [*, errW_none, errW_some] <;> rfl), by (with_reducible repeat (first | apply Kd.R_alloc | apply Kd.R_drewN | apply Kd.R_drew)); exact Kd.R_mono (Kd.R_far (p := ⟨gb102, 1, none⟩) (Kd.R_far (p := ⟨gb102, 0, none⟩) (Kd.R_types HO_10.out BK102.out (by decide)) (fun _ hk => hk.2) (.int .i64 0)) (fun _ hk => hk.2) (.int .i64 0)) (fun _ hk => trivial), by repeat (first | (with_reducible first | exact HB.out | apply zq9 | apply zq7 | apply zq8 | refine zq6 ?_ GE101.out | refine zq6 ?_ GE102.out | refine zq6 ?_ GE108.out) | exact HB.out)⟩
        · rw [if_neg c9] at H
          exact absurd H (by simp)
      · rw [if_neg c8] at H
        exact absurd H (by simp)
    · replace c7 := Bool.eq_false_iff.mpr c7
      subst c7
      have H1 : (some (([] : List Int), 13, 0)) = some (r1, r2, r3) := by rw [if_neg (show ¬ (false = true) by decide)] at H; exact H
      clear H
      have H := H1
      clear H1
      simp only [Option.some.injEq, Prod.mk.injEq] at H
      obtain ⟨rfl, rfl, rfl⟩ := H
      go_enter Try.func31, Try.ntmps31
      go_wp2_with (first | ((with_reducible refine zd 3 rfl ?_); refine zb 3 #[.int .i64 a0_0, .bool a0_1, .int .u64 a0_2, .int .u64 a0_3, .int .u64 a0_4, .int .u64 a0_5] 49 ?_; intro gb101 hg w53 hbox hb; have BK101 := zq3 (hbox); have GW101 := ze hg HB; have GE101 := GW101; replace HB := zt HB hb; clear hb hbox hg) | ((with_reducible refine zd 7 rfl ?_); refine zb 7 #[.int .i64 0, .int .i64 0] 26 ?_; intro gb102 hg w54 hbox hb; have BK102 := zq3 (hbox); have GW102 := ze hg HB; have GE102 := GW102; have NB101_102 := zl hg BK101; have NB102_101 := zg hg BK101; replace BK101 := zs BK101 hb; replace HB := zt HB hb; clear hb hbox hg; have hnb55 := NB101_102.out; have hnc55 := NB102_101.out; obtain ⟨hc56_0, hc56_1, hc56_2, hc56_3, hc56_4, hc56_5⟩ := zc6 BK101; obtain ⟨hf56_0, hf56_1, hf56_2, hf56_3, hf56_4, hf56_5⟩ := zf6 BK101) | ((with_reducible refine gate_callee (f := 63) rfl ?_); refine zgo (some 17) Try.func63 #[.agg #[.int .i64 a0_0, .bool a0_1, .int .u64 a0_2, .int .u64 a0_3, .int .u64 a0_4, .int .u64 a0_5]] ?_; (with_reducible refine (meter_New.calls a0_0 a0_1 a0_2 a0_3 a0_4 a0_5 t103 t104 t105 t106 t107 _ A4.out).mono ?_); rintro e w57 ⟨rfl, hb⟩; refine ⟨_, rfl, ?_⟩; replace BK101 := zs BK101 hb; replace BK102 := zs BK102 hb; replace HB := zt HB hb; (try clear hb)) | ((with_reducible refine zd 8 rfl ?_); refine zb 8 #[.int .u64 0, .int .u64 0, .int .u64 0, .bool false] 51 ?_; intro gb108 hg w58 hbox hb; have BK108 := zq3 (hbox); have GW108 := ze hg HB; have GE108 := GW108; have NB101_108 := zl hg BK101; have NB108_101 := zg hg BK101; have NB102_108 := zl hg BK102; have NB108_102 := zg hg BK102; replace BK101 := zs BK101 hb; replace BK102 := zs BK102 hb; replace HB := zt HB hb; clear hb hbox hg; have hnb59 := NB108_101.out; have hnc59 := NB101_108.out; have hnb60 := NB108_102.out; have hnc60 := NB102_108.out; obtain ⟨hc61_0, hc61_1, hc61_2, hc61_3⟩ := zc4 BK108; obtain ⟨hf61_0, hf61_1, hf61_2, hf61_3⟩ := zf4 BK108) | ((with_reducible refine gate_callee (f := 53) rfl ?_); refine zgo (some 27) Try.func53 #[.int .i64 a2] ?_; (with_reducible refine (outlook_is.calls a2 false _ A6.out).mono ?_); rintro e w62 ⟨rfl, hb⟩; refine ⟨_, rfl, ?_⟩; replace BK101 := zsf BK101 hb; replace BK102 := zsf BK102 hb; replace BK108 := zq3 (zq10 (g := gb108) (o := .cells #[.int .u64 t103, .int .u64 t104, .int .u64 t105, .bool t106] 51 (0, 0)) (by (with_reducible repeat (first | refine zq0 ?_ _ | refine zq2 ?_ | refine zq1 ?_ _)); refine blk_put (cs := #[.int .u64 t103, .int .u64 t104, .int .u64 t105, .bool false]) ?_ 3 _ rfl; (with_reducible repeat (first | refine zq0 ?_ _ | refine zq2 ?_ | refine zq1 ?_ _)); refine blk_put (cs := #[.int .u64 t103, .int .u64 t104, .int .u64 0, .bool false]) ?_ 2 _ rfl; (with_reducible repeat (first | refine zq0 ?_ _ | refine zq2 ?_ | refine zq1 ?_ _)); refine blk_put (cs := #[.int .u64 t103, .int .u64 0, .int .u64 0, .bool false]) ?_ 1 _ rfl; (with_reducible repeat (first | refine zq0 ?_ _ | refine zq2 ?_ | refine zq1 ?_ _)); refine blk_put (cs := #[.int .u64 0, .int .u64 0, .int .u64 0, .bool false]) ?_ 0 _ rfl; (with_reducible repeat (first | refine zq0 ?_ _ | refine zq2 ?_ | refine zq1 ?_ _)); exact BK108.out) hb); replace HB := zt HB hb; (try clear hb); obtain ⟨hc63_0, hc63_1⟩ := zc2 BK102; obtain ⟨hf63_0, hf63_1⟩ := zf2 BK102))
      refine bodyPost_ret (results_tc rfl _ _ gb102 26 #[.int .i64 13, .int .i64 0] (0, 0) _ rfl (by (with_reducible repeat (first | refine zq0 ?_ _ | refine zq2 ?_ | refine zq1 ?_ _)); refine blk_put (cs := #[.int .i64 13, .int .i64 0]) ?_ 1 _ rfl; (with_reducible repeat (first | refine zq0 ?_ _ | refine zq2 ?_ | refine zq1 ?_ _)); refine blk_put (cs := #[.int .i64 0, .int .i64 0]) ?_ 0 _ rfl; (with_reducible repeat (first | refine zq0 ?_ _ | refine zq2 ?_ | refine zq1 ?_ _)); exact BK102.out) Try.underlying26 rfl (by kernel_rfl)) rfl ?_
      exact ⟨_, by first | rfl | (simp [errW_none, errW_some] <;> rfl) | (simp [*, errW_none, errW_some] <;> rfl), by first | exact Kd.R_nil _ _ _ _ _ | exact Kd.N_nil _ _ _ _ _ | exact Kd.V_nil _ _ _ _ _ | exact Kd.Q_nil _ _ _ _ _ | exact Kd.S_nil _ _ _ _ _, by repeat (first | (with_reducible first | exact HB.out | apply zq9 | apply zq7 | apply zq8 | refine zq6 ?_ GE101.out | refine zq6 ?_ GE102.out | refine zq6 ?_ GE108.out) | exact HB.out)⟩
  · rw [if_neg c5] at H
    have c5b0 : (t107 == 0) = false := beq_eq_false_iff_ne.mpr c5
    have c5b1 : (t107 != 0) = true := bne_iff_ne.mpr c5
    simp only [Option.some.injEq, Prod.mk.injEq] at H
    obtain ⟨rfl, rfl, rfl⟩ := H
    go_enter Try.func31, Try.ntmps31
    go_wp2_with (first | ((with_reducible refine zd 3 rfl ?_); refine zb 3 #[.int .i64 a0_0, .bool a0_1, .int .u64 a0_2, .int .u64 a0_3, .int .u64 a0_4, .int .u64 a0_5] 49 ?_; intro gb101 hg w64 hbox hb; have BK101 := zq3 (hbox); have GW101 := ze hg HB; have GE101 := GW101; replace HB := zt HB hb; clear hb hbox hg) | ((with_reducible refine zd 7 rfl ?_); refine zb 7 #[.int .i64 0, .int .i64 0] 26 ?_; intro gb102 hg w65 hbox hb; have BK102 := zq3 (hbox); have GW102 := ze hg HB; have GE102 := GW102; have NB101_102 := zl hg BK101; have NB102_101 := zg hg BK101; replace BK101 := zs BK101 hb; replace HB := zt HB hb; clear hb hbox hg; have hnb66 := NB101_102.out; have hnc66 := NB102_101.out; obtain ⟨hc67_0, hc67_1, hc67_2, hc67_3, hc67_4, hc67_5⟩ := zc6 BK101; obtain ⟨hf67_0, hf67_1, hf67_2, hf67_3, hf67_4, hf67_5⟩ := zf6 BK101) | ((with_reducible refine gate_callee (f := 63) rfl ?_); refine zgo (some 17) Try.func63 #[.agg #[.int .i64 a0_0, .bool a0_1, .int .u64 a0_2, .int .u64 a0_3, .int .u64 a0_4, .int .u64 a0_5]] ?_; (with_reducible refine (meter_New.calls a0_0 a0_1 a0_2 a0_3 a0_4 a0_5 t103 t104 t105 t106 t107 _ A4.out).mono ?_); rintro e w68 ⟨rfl, hb⟩; refine ⟨_, rfl, ?_⟩; replace BK101 := zs BK101 hb; replace BK102 := zs BK102 hb; replace HB := zt HB hb; (try clear hb)) | ((with_reducible refine zd 8 rfl ?_); refine zb 8 #[.int .u64 0, .int .u64 0, .int .u64 0, .bool false] 51 ?_; intro gb108 hg w69 hbox hb; have BK108 := zq3 (hbox); have GW108 := ze hg HB; have GE108 := GW108; have NB101_108 := zl hg BK101; have NB108_101 := zg hg BK101; have NB102_108 := zl hg BK102; have NB108_102 := zg hg BK102; replace BK101 := zs BK101 hb; replace BK102 := zs BK102 hb; replace HB := zt HB hb; clear hb hbox hg; have hnb70 := NB108_101.out; have hnc70 := NB101_108.out; have hnb71 := NB108_102.out; have hnc71 := NB102_108.out; obtain ⟨hc72_0, hc72_1, hc72_2, hc72_3⟩ := zc4 BK108; obtain ⟨hf72_0, hf72_1, hf72_2, hf72_3⟩ := zf4 BK108; obtain ⟨hc73_0, hc73_1⟩ := zc2 BK102; obtain ⟨hf73_0, hf73_1⟩ := zf2 BK102))
    refine bodyPost_ret (results_tc rfl _ _ gb102 26 #[.int .i64 t107, .int .i64 0] (0, 0) _ rfl (by (with_reducible repeat (first | refine zq0 ?_ _ | refine zq2 ?_ | refine zq1 ?_ _)); refine blk_put (cs := #[.int .i64 t107, .int .i64 0]) ?_ 1 _ rfl; (with_reducible repeat (first | refine zq0 ?_ _ | refine zq2 ?_ | refine zq1 ?_ _)); refine blk_put (cs := #[.int .i64 0, .int .i64 0]) ?_ 0 _ rfl; (with_reducible repeat (first | refine zq0 ?_ _ | refine zq2 ?_ | refine zq1 ?_ _)); refine zq11 ?_ NB102_108.out _; (with_reducible repeat (first | refine zq0 ?_ _ | refine zq2 ?_ | refine zq1 ?_ _)); refine zq11 ?_ NB102_108.out _; (with_reducible repeat (first | refine zq0 ?_ _ | refine zq2 ?_ | refine zq1 ?_ _)); refine zq11 ?_ NB102_108.out _; (with_reducible repeat (first | refine zq0 ?_ _ | refine zq2 ?_ | refine zq1 ?_ _)); refine zq11 ?_ NB102_108.out _; (with_reducible repeat (first | refine zq0 ?_ _ | refine zq2 ?_ | refine zq1 ?_ _)); exact BK102.out) Try.underlying26 rfl (by kernel_rfl)) rfl ?_
    exact ⟨_, by first | rfl | (simp [errW_none, errW_some] <;> rfl) | (simp [*, errW_none, errW_some] <;> rfl), by first | exact Kd.R_nil _ _ _ _ _ | exact Kd.N_nil _ _ _ _ _ | exact Kd.V_nil _ _ _ _ _ | exact Kd.Q_nil _ _ _ _ _ | exact Kd.S_nil _ _ _ _ _, by repeat (first | (with_reducible first | exact HB.out | apply zq9 | apply zq7 | apply zq8 | refine zq6 ?_ GE101.out | refine zq6 ?_ GE102.out | refine zq6 ?_ GE108.out) | exact HB.out)⟩

end Go.Proofs.Ytiaoaoebghnpkaa.P
