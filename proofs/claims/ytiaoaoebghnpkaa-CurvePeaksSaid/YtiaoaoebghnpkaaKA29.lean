/- Parts of the proof, in one text. -/
import Derived.Test.YtiaoaoebghnpkaaKA18
import Derived.Test.YtiaoaoebghnpkaaKA25
import Derived.Test.YtiaoaoebghnpkaaKA27
import Derived.Test.YtiaoaoebghnpkaaKA28
section
namespace Go.Proofs.Ytiaoaoebghnpkaa.P
open Go.RowKit Go.Proofs.YtiaoaoebghnpkaaW.PrintWords Go.Proofs.YtiaoaoebghnpkaaW.PrintLast Go.Proofs.YtiaoaoebghnpkaaW.PrintMore
attribute [local go_sem] max2_int min2_int max_two min_two max_three min_three max_four min_four   -- for this text's walks alone
set_option linter.unusedVariables false
set_option linter.unusedSimpArgs false

/-! ### weighbridgeref29_Breaks: function 12 -/
mutual
def weighbridgeref29_Breaks.l0 : Nat → List (S68) → Int → Int → Int → Option (Int × Int × Int × Int)
 | 0, _, _, _, _ => none
 | k + 1, x0, x1, x2, x10 => if x10 < (x0.length : Int) then (weighbridgeref29_Breaks.l1 k x0 x1 x2 x10 0) else (some (0, 0, 0, 0))
def weighbridgeref29_Breaks.l1 : Nat → List (S68) → Int → Int → Int → Int → Option (Int × Int × Int × Int)
 | 0, _, _, _, _, _ => none
 | k + 1, x0, x1, x2, x10, x11 => if x11 ≤ x10 then ((weighbridgeref02_Mul.f x2 1000000000).bind fun bt105 => ((weighbridgeref29_over.f k x0 x1 x11 x10).bind fun bt107 => ((weighbridgeref02_Less.f bt105.1 bt105.2 bt107.1 bt107.2).bind fun t109 => (if t109 = true then (some (x11, x10, 17, x10)) else (weighbridgeref29_Breaks.l1 k x0 x1 x2 x10 (wrap64 (x11 + 1))))))) else (weighbridgeref29_Breaks.l0 k x0 x1 x2 (wrap64 (x10 + 1)))
end
def weighbridgeref29_Breaks.f (k : Nat) (l0 : List (S68)) (a1 : Int) (a2 : Int) : Option (Int × Int × Int × Int) := (weighbridgeref29_Check.f k l0).bind fun bt102 => (if bt102.1 = 0 then (weighbridgeref29_Breaks.l0 k l0 a1 a2 0) else (some (0, 0, bt102.1, bt102.2)))
set_option maxHeartbeats 8000000 in
set_option maxRecDepth 100000 in
theorem weighbridgeref29_Breaks.calls (k : Nat) (A0 : Option Addr) (c0 : Nat) (l0 : List (S68)) (a1 : Int) (a2 : Int) (r1 : Int) (r2 : Int) (r3 : Int) (r4 : Int) (w : World) (hr0 : Kd.C k68 w A0 l0.length l0) (hc0 : l0.length ≤ c0) (h : weighbridgeref29_Breaks.f k l0 a1 a2 = some (r1, r2, r3, r4)) :
  Calls Try.prog 12 #[.slice A0 l0.length c0, .int .u64 a1, .int .u64 a2] w fun e w' => e = .returned (.tuple #[.int .i64 r1, .int .i64 r2, .agg #[.int .i64 r3, .int .i64 r4]]) ∧ Below w.heap.size w w' := by
 have hu26 := Try.underlying26
 have HR0 := zq3 hr0
 have HC0 := zq3 hc0
 clear hr0 hc0
 have HB := zq3 (Below.refl w.heap.size w)
 have H : ((weighbridgeref29_Check.f k l0).bind fun bt102 => (if bt102.1 = 0 then (weighbridgeref29_Breaks.l0 k l0 a1 a2 0) else (some (0, 0, bt102.1, bt102.2)))) = some (r1, r2, r3, r4) := h
 clear h
 replace H := Option.bind_eq_some_iff.mp H
 obtain ⟨⟨t102, t103⟩, A40, H⟩ := H
 replace H : (if t102 = 0 then (weighbridgeref29_Breaks.l0 k l0 a1 a2 0) else (some (0, 0, t102, t103))) = some (r1, r2, r3, r4) := H
 have A4 := zq3 A40
 clear A40
 by_cases c5 : t102 = 0
 ·
  rw [if_pos c5] at H
  have c5b0 : (t102 == 0) = true := beq_iff_eq.mpr c5
  have c5b1 : (t102 != 0) = false := bne_eq_false_iff_eq.mpr c5
  clear c5
  have H' := zq3 H
  clear H
  go_enter Try.func12, Try.ntmps12
  go_wp2_with (first | ((with_reducible refine zd 8 rfl ?_); refine zb 8 #[.int .i64 0, .int .i64 0] 26 ?_; intro gb101 hg w6 hbox hb; have BK101 := zq3 (hbox); have GW101 := ze hg HB; have GE101 := GW101; replace HB := zt HB hb; clear hb hbox hg) | ((with_reducible refine gate_callee (f := 40) rfl ?_); refine zgo (some 13) Try.func40 #[.slice A0 l0.length c0] ?_; (with_reducible refine (weighbridgeref29_Check.calls k _ _ l0 t102 t103 _ ?side1 ?side2 A4.out).mono ?_); (case side1 => repeat (first | exact (Kd.C_below HR0.out HB.out) | (with_reducible refine Kd.C_alloc ?_ _) | (with_reducible refine Kd.C_drewN ?_ _) | (with_reducible refine Kd.C_drew ?_))); (case side2 => exact HC0.out); rintro e w7 ⟨rfl, hb⟩; refine ⟨_, rfl, ?_⟩; replace BK101 := zs BK101 hb; replace HB := zt HB hb; (try clear hb)) | ((with_reducible refine zd 9 rfl ?_); refine zb 9 #[.int .i64 0, .int .i64 0] 26 ?_; intro gb104 hg w8 hbox hb; have BK104 := zq3 (hbox); have GW104 := ze hg HB; have GE104 := GW104; have NB101_104 := zl hg BK101; have NB104_101 := zg hg BK101; replace BK101 := zs BK101 hb; replace HB := zt HB hb; clear hb hbox hg; have hnb9 := NB104_101.out; have hnc9 := NB101_104.out; obtain ⟨hc10_0, hc10_1⟩ := zc2 BK104; obtain ⟨hf10_0, hf10_1⟩ := zf2 BK104))
  go_loopg [10] k (fun kq v10 w' => ∃ (x10_1 : Int) (x102000_1 : Int) (x102001_1 : Int), v10 = .int .i64 x10_1 ∧ Aside0 (weighbridgeref29_Breaks.l0 kq l0 a1 a2 x10_1 = some (r1, r2, r3, r4)) ∧ Aside0 (kq ≤ k) ∧ Aside0 (w'.heap[gb101]? = some (.cells #[.int .i64 x102000_1, .int .i64 x102001_1] 26 (0, 0))) ∧ Aside0 (w'.heap[gb104]? = some (.cells #[.int .i64 t102, .int .i64 t103] 26 (0, 0))) ∧ Aside0 (Below w.heap.size w w'))
  case atStart => exact ⟨(0), (0), (0), (by first | rfl | (simp; done) | (simp [*]; done)), H', ⟨Nat.le_refl _⟩, ⟨zw BK101⟩, ⟨zw2 BK104⟩, ⟨zh HB⟩⟩
  case round =>
   clear H'
   (try clear c1); (try clear p2); (try clear c4); (try clear c5); (try clear c5b0); (try clear c5b1); (try clear c9)
   try clear hc10_0 hc10_1 hf10_0 hf10_1
   obtain ⟨x10_1, x102000_1, x102001_1, rfl, HA, HK1, BK101, BK104, HB⟩ := hrel
   cases gk with
   | zero => exact absurd HA.out (by simp [weighbridgeref29_Breaks.l0])
   | succ k1 =>
    have H := HA.out
    clear HA
    simp only [weighbridgeref29_Breaks.l0] at H
    by_cases c11 : x10_1 < (l0.length : Int)
    ·
     rw [if_pos c11] at H
     have c11b0 : decide (x10_1 < (l0.length : Int)) = true := decide_eq_true c11
     clear c11
     have H' := zq3 H
     clear H
     go_wp2
     go_loopg [11] k1 (fun kq v11 w' => ∃ (x11_2 : Int) (x102000_2 : Int) (x102001_2 : Int), v11 = .int .i64 x11_2 ∧ Aside0 (weighbridgeref29_Breaks.l1 kq l0 a1 a2 x10_1 x11_2 = some (r1, r2, r3, r4)) ∧ Aside0 (kq ≤ k1) ∧ Aside0 (w'.heap[gb101]? = some (.cells #[.int .i64 x102000_2, .int .i64 x102001_2] 26 (0, 0))) ∧ Aside0 (w'.heap[gb104]? = some (.cells #[.int .i64 t102, .int .i64 t103] 26 (0, 0))) ∧ Aside0 (Below w.heap.size w w'))
     case atStart => exact ⟨(0), (x102000_1), (x102001_1), (by first | rfl | (simp; done) | (simp [*]; done)), H', ⟨Nat.le_refl _⟩, ⟨zw BK101⟩, ⟨zw BK104⟩, ⟨zh HB⟩⟩
     case round =>
      clear H'
      (try clear c1); (try clear p2); (try clear c4); (try clear c5); (try clear c5b0); (try clear c5b1); (try clear c9); (try clear c11); (try clear c11b0)
      try clear hc10_0 hc10_1 hf10_0 hf10_1
      (try clear p2)
      obtain ⟨x11_2, x102000_2, x102001_2, rfl, HA, HK2, BK101, BK104, HB⟩ := hrel
      cases gk with
      | zero => exact absurd HA.out (by simp [weighbridgeref29_Breaks.l1])
      | succ k2 =>
       have H := HA.out
       clear HA
       simp only [weighbridgeref29_Breaks.l1] at H
       by_cases c12 : x11_2 ≤ x10_1
       ·
        rw [if_pos c12] at H
        have c12b0 : decide (x11_2 ≤ x10_1) = true := decide_eq_true c12
        clear c12
        replace H := Option.bind_eq_some_iff.mp H
        obtain ⟨⟨t105, t106⟩, A130, H⟩ := H
        replace H : ((weighbridgeref29_over.f k2 l0 a1 x11_2 x10_1).bind fun bt107 => ((weighbridgeref02_Less.f t105 t106 bt107.1 bt107.2).bind fun t109 => (if t109 = true then (some (x11_2, x10_1, 17, x10_1)) else (weighbridgeref29_Breaks.l1 k2 l0 a1 a2 x10_1 (wrap64 (x11_2 + 1)))))) = some (r1, r2, r3, r4) := H
        have A13 := zq3 A130
        clear A130
        replace H := Option.bind_eq_some_iff.mp H
        obtain ⟨⟨t107, t108⟩, A140, H⟩ := H
        replace H : ((weighbridgeref02_Less.f t105 t106 t107 t108).bind fun t109 => (if t109 = true then (some (x11_2, x10_1, 17, x10_1)) else (weighbridgeref29_Breaks.l1 k2 l0 a1 a2 x10_1 (wrap64 (x11_2 + 1))))) = some (r1, r2, r3, r4) := H
        have A14 := zq3 A140
        clear A140
        replace H := Option.bind_eq_some_iff.mp H
        obtain ⟨t109, A150, H⟩ := H
        replace H : (if t109 = true then (some (x11_2, x10_1, 17, x10_1)) else (weighbridgeref29_Breaks.l1 k2 l0 a1 a2 x10_1 (wrap64 (x11_2 + 1)))) = some (r1, r2, r3, r4) := H
        have A15 := zq3 A150
        clear A150
        by_cases c16 : t109 = true
        ·
         subst c16
         have H1 : (some (x11_2, x10_1, 17, x10_1)) = some (r1, r2, r3, r4) := by rw [if_pos rfl] at H; exact H
         clear H
         have H := H1
         clear H1
         simp only [Option.some.injEq, Prod.mk.injEq] at H
         obtain ⟨rfl, rfl, rfl, rfl⟩ := H
         go_wp2_with (first | ((with_reducible refine gate_callee (f := 42) rfl ?_); refine zgo (some 30) Try.func42 #[.int .u64 a2, .int .u64 1000000000] ?_; (with_reducible refine (weighbridgeref02_Mul.calls a2 1000000000 t105 t106 _ A13.out).mono ?_); rintro e w17 ⟨rfl, hb⟩; refine ⟨_, rfl, ?_⟩; replace BK101 := zs BK101 hb; replace BK104 := zs BK104 hb; replace HB := zt HB hb; (try clear hb)) | ((with_reducible refine gate_callee (f := 43) rfl ?_); refine zgo (some 35) Try.func43 #[.slice A0 l0.length c0, .int .u64 a1, .int .i64 x11_2, .int .i64 x10_1] ?_; (with_reducible refine (weighbridgeref29_over.calls k2 _ _ l0 a1 x11_2 x10_1 t107 t108 _ ?side1 ?side2 A14.out).mono ?_); (case side1 => repeat (first | exact (Kd.C_below HR0.out HB.out) | (with_reducible refine Kd.C_alloc ?_ _) | (with_reducible refine Kd.C_drewN ?_ _) | (with_reducible refine Kd.C_drew ?_))); (case side2 => exact HC0.out); rintro e w18 ⟨rfl, hb⟩; refine ⟨_, rfl, ?_⟩; replace BK101 := zs BK101 hb; replace BK104 := zs BK104 hb; replace HB := zt HB hb; (try clear hb)) | ((with_reducible refine gate_callee (f := 41) rfl ?_); refine zgo (some 36) Try.func41 #[.agg #[.int .u64 t105, .int .u64 t106], .agg #[.int .u64 t107, .int .u64 t108]] ?_; (with_reducible refine (weighbridgeref02_Less.calls t105 t106 t107 t108 true _ A15.out).mono ?_); rintro e w19 ⟨rfl, hb⟩; refine ⟨_, rfl, ?_⟩; replace BK101 := zs BK101 hb; replace BK104 := zs BK104 hb; replace HB := zt HB hb; (try clear hb); have hnb20 := NB101_104.out; have hnc20 := NB104_101.out; obtain ⟨hc21_0, hc21_1⟩ := zc2 BK101; obtain ⟨hf21_0, hf21_1⟩ := zf2 BK101))
         refine bodyPost_ret (results_list (rs := [.tmp 6, .tmp 7, .cell 8 26]) rfl (by simp) (.tmp (.tmp (.cell gb101 26 #[.int .i64 17, .int .i64 x10_1] (0, 0) _ rfl (zw2 BK101) Try.underlying26 rfl (by kernel_rfl) .nil)))) rfl ?_
         exact ⟨by first | rfl | (simp [errW_none, errW_some] <;> rfl) | (simp [*, errW_none, errW_some] <;> rfl), zh HB⟩
        ·
         replace c16 := Bool.eq_false_iff.mpr c16
         subst c16
         have H1 : (weighbridgeref29_Breaks.l1 k2 l0 a1 a2 x10_1 (wrap64 (x11_2 + 1))) = some (r1, r2, r3, r4) := by rw [if_neg (show ¬ (false = true) by decide)] at H; exact H
         clear H
         have H := H1
         clear H1
         have H' := zq3 H
         clear H
         go_wp2_with (first | ((with_reducible refine gate_callee (f := 42) rfl ?_); refine zgo (some 30) Try.func42 #[.int .u64 a2, .int .u64 1000000000] ?_; (with_reducible refine (weighbridgeref02_Mul.calls a2 1000000000 t105 t106 _ A13.out).mono ?_); rintro e w22 ⟨rfl, hb⟩; refine ⟨_, rfl, ?_⟩; replace BK101 := zs BK101 hb; replace BK104 := zs BK104 hb; replace HB := zt HB hb; (try clear hb)) | ((with_reducible refine gate_callee (f := 43) rfl ?_); refine zgo (some 35) Try.func43 #[.slice A0 l0.length c0, .int .u64 a1, .int .i64 x11_2, .int .i64 x10_1] ?_; (with_reducible refine (weighbridgeref29_over.calls k2 _ _ l0 a1 x11_2 x10_1 t107 t108 _ ?side1 ?side2 A14.out).mono ?_); (case side1 => repeat (first | exact (Kd.C_below HR0.out HB.out) | (with_reducible refine Kd.C_alloc ?_ _) | (with_reducible refine Kd.C_drewN ?_ _) | (with_reducible refine Kd.C_drew ?_))); (case side2 => exact HC0.out); rintro e w23 ⟨rfl, hb⟩; refine ⟨_, rfl, ?_⟩; replace BK101 := zs BK101 hb; replace BK104 := zs BK104 hb; replace HB := zt HB hb; (try clear hb)) | ((with_reducible refine gate_callee (f := 41) rfl ?_); refine zgo (some 36) Try.func41 #[.agg #[.int .u64 t105, .int .u64 t106], .agg #[.int .u64 t107, .int .u64 t108]] ?_; (with_reducible refine (weighbridgeref02_Less.calls t105 t106 t107 t108 false _ A15.out).mono ?_); rintro e w24 ⟨rfl, hb⟩; refine ⟨_, rfl, ?_⟩; replace BK101 := zs BK101 hb; replace BK104 := zs BK104 hb; replace HB := zt HB hb; (try clear hb)))
         go_roundg k2
         case measure => have := HK1.out; have := HK2.out; omega
         case rel => exact ⟨(wrap64 (x11_2 + 1)), (x102000_2), (x102001_2), (by first | rfl | (simp; done) | (simp [*]; done)), H', ⟨by have := HK1.out; have := HK2.out; omega⟩, ⟨zw BK101⟩, ⟨zw BK104⟩, ⟨zh HB⟩⟩
       ·
        rw [if_neg c12] at H
        have c12b0 : decide (x11_2 ≤ x10_1) = false := decide_eq_false c12
        clear c12
        have H' := zq3 H
        clear H
        go_wp2
        go_roundg k2
        case measure => have := HK1.out; have := HK2.out; omega
        case rel => exact ⟨(wrap64 (x10_1 + 1)), (x102000_2), (x102001_2), (by first | rfl | (simp; done) | (simp [*]; done)), H', ⟨by have := HK1.out; have := HK2.out; omega⟩, ⟨zw BK101⟩, ⟨zw BK104⟩, ⟨zh HB⟩⟩
    ·
     rw [if_neg c11] at H
     have c11b0 : decide (x10_1 < (l0.length : Int)) = false := decide_eq_false c11
     clear c11
     simp only [Option.some.injEq, Prod.mk.injEq] at H
     obtain ⟨rfl, rfl, rfl, rfl⟩ := H
     have hnb25 := NB101_104.out
     have hnc25 := NB104_101.out
     obtain ⟨hc26_0, hc26_1⟩ := zc2 BK101
     obtain ⟨hf26_0, hf26_1⟩ := zf2 BK101
     go_wp2
     refine bodyPost_ret (results_list (rs := [.tmp 6, .tmp 7, .cell 8 26]) rfl (by simp) (.tmp (.tmp (.cell gb101 26 #[.int .i64 0, .int .i64 0] (0, 0) _ rfl (zw2 BK101) Try.underlying26 rfl (by kernel_rfl) .nil)))) rfl ?_
     exact ⟨by first | rfl | (simp [errW_none, errW_some] <;> rfl) | (simp [*, errW_none, errW_some] <;> rfl), zh HB⟩
 ·
  rw [if_neg c5] at H
  have c5b0 : (t102 == 0) = false := beq_eq_false_iff_ne.mpr c5
  have c5b1 : (t102 != 0) = true := bne_iff_ne.mpr c5
  simp only [Option.some.injEq, Prod.mk.injEq] at H
  obtain ⟨rfl, rfl, rfl, rfl⟩ := H
  go_enter Try.func12, Try.ntmps12
  try go_wp2_with (first | ((with_reducible refine zd 8 rfl ?_); refine zb 8 #[.int .i64 0, .int .i64 0] 26 ?_; intro gb101 hg w27 hbox hb; have BK101 := zq3 (hbox); have GW101 := ze hg HB; have GE101 := GW101; replace HB := zt HB hb; clear hb hbox hg) | ((with_reducible refine gate_callee (f := 40) rfl ?_); refine zgo (some 13) Try.func40 #[.slice A0 l0.length c0] ?_; (with_reducible refine (weighbridgeref29_Check.calls k _ _ l0 t102 t103 _ ?side1 ?side2 A4.out).mono ?_); (case side1 => repeat (first | exact (Kd.C_below HR0.out HB.out) | (with_reducible refine Kd.C_alloc ?_ _) | (with_reducible refine Kd.C_drewN ?_ _) | (with_reducible refine Kd.C_drew ?_))); (case side2 => exact HC0.out); rintro e w28 ⟨rfl, hb⟩; refine ⟨_, rfl, ?_⟩; replace BK101 := zs BK101 hb; replace HB := zt HB hb; (try clear hb)) | ((with_reducible refine zd 9 rfl ?_); refine zb 9 #[.int .i64 0, .int .i64 0] 26 ?_; intro gb104 hg w29 hbox hb; have BK104 := zq3 (hbox); have GW104 := ze hg HB; have GE104 := GW104; have NB101_104 := zl hg BK101; have NB104_101 := zg hg BK101; replace BK101 := zs BK101 hb; replace HB := zt HB hb; clear hb hbox hg; have hnb30 := NB104_101.out; have hnc30 := NB101_104.out; obtain ⟨hc31_0, hc31_1⟩ := zc2 BK104; obtain ⟨hf31_0, hf31_1⟩ := zf2 BK104))
  have n0_ : Aside0 (((w29.setCell ⟨gb104, 0, none⟩ (.int .i64 t102)).setCell ⟨gb104, 1, none⟩ (.int .i64 t103)).heap[gb101]? = some (.cells #[.int .i64 0, .int .i64 0] 26 (0, 0))) := ⟨zw BK101⟩
  have n1_ : Aside0 (((w29.setCell ⟨gb104, 0, none⟩ (.int .i64 t102)).setCell ⟨gb104, 1, none⟩ (.int .i64 t103)).heap[gb104]? = some (.cells #[.int .i64 t102, .int .i64 t103] 26 (0, 0))) := ⟨zw2 BK104⟩
  have n2_ : Aside0 (Below w.heap.size w ((w29.setCell ⟨gb104, 0, none⟩ (.int .i64 t102)).setCell ⟨gb104, 1, none⟩ (.int .i64 t103))) := ⟨zh HB⟩
  (try clear BK101)
  (try clear BK104)
  (try clear HB)
  generalize ((w29.setCell ⟨gb104, 0, none⟩ (.int .i64 t102)).setCell ⟨gb104, 1, none⟩ (.int .i64 t103)) = w32 at n0_ n1_ n2_ ⊢
  have BK101 := n0_
  have BK104 := n1_
  have HB := n2_
  clear n0_ n1_ n2_
  replace BK101 := zq3 (zq2 BK101.out); replace BK104 := zq3 (zq2 BK104.out); replace HB := zq3 (zq8 HB.out)
  refine start_ (n := 4) (S := fun w' => w'.cell? ⟨gb104, 0, none⟩ = some (.int .i64 t102) ∧ w'.cell? ⟨gb104, 1, none⟩ = some (.int .i64 t103)) (ds := []) #[false, false, false, false] (by kernel_rfl) rfl rfl ⟨(zq5 BK104.out 0).trans rfl, (zq5 BK104.out 1).trans rfl⟩ (fun hHeld => ?_)
  generalize w32.drew = w33 at BK101 BK104 HB hHeld ⊢
  refine pure_ (i := 1) (N := some 6) (v := ?_) (a' := ?_) #[false, true, false, false] rfl rfl (by kernel_rfl) (fun _ _ _ h => h) (Or.inl ⟨by rfl, ?_⟩) ?_ ?_
  rotate_left
  ·
   intro w'
   go_simp
   with_reducible rfl
  rotate_left
  ·
   simp only [Act.put, List.setIfInBounds_toArray, List.set_cons_zero, List.set_cons_succ, i64_w, i32_w]
   rfl
  refine pure_ (i := 2) (N := some 7) (v := ?_) (a' := ?_) #[false, true, true, false] rfl rfl (by kernel_rfl) (fun _ _ _ h => h) (Or.inl ⟨by rfl, ?_⟩) ?_ ?_
  rotate_left
  ·
   intro w'
   go_simp
   with_reducible rfl
  rotate_left
  ·
   simp only [Act.put, List.setIfInBounds_toArray, List.set_cons_zero, List.set_cons_succ, i64_w, i32_w]
   rfl
  refine take_ (i := 0) (N := some 17) (v := ?_) (a' := ?_) #[true, true, true, false] rfl rfl (by kernel_rfl) (fun _ _ _ h => h) (Or.inl ⟨by rfl, ?_⟩) hHeld ?_ ?_
  rotate_left
  ·
   rintro w' ⟨s0, s1⟩
   go_simp
   with_reducible rfl
  rotate_left
  ·
   simp only [Act.put, List.setIfInBounds_toArray, List.set_cons_zero, List.set_cons_succ, i64_w, i32_w]
   rfl
  refine one_ (i := 3) (N := none) #[true, true, true, true] rfl rfl (by kernel_rfl) (by decide) (fun K hK => ?_)
  have hs34 : w33.cell? ⟨gb101, 0, none⟩ = some (.int .i64 0) := (zq5 BK101.out 0).trans rfl
  have hfs34 := zq4 BK101.out 0
  have hns34_1 := NB104_101.out
  have hms34_1 := NB101_104.out
  have hs35 : w33.cell? ⟨gb101, 1, none⟩ = some (.int .i64 0) := (zq5 BK101.out 1).trans rfl
  have hfs35 := zq4 BK101.out 1
  have hns35_1 := NB104_101.out
  have hms35_1 := NB101_104.out
  refine skip_ (w1 := ?_) (by rfl) rfl ?_ ?_
  rotate_left
  ·
   go_simp
   rfl
  refine hK.out _ _ ⟨((cell_far (p := ⟨gb101, _, none⟩) NB104_101.out _).trans (((cell_far (p := ⟨gb101, _, none⟩) NB104_101.out _).trans (hHeld.1)))), ((cell_far (p := ⟨gb101, _, none⟩) NB104_101.out _).trans (((cell_far (p := ⟨gb101, _, none⟩) NB104_101.out _).trans (hHeld.2))))⟩ (fun hHeld => ?_)
  clear hK K
  refine done_ (by kernel_rfl) ?_
  try go_wp2
  refine bodyPost_ret (results_list (rs := [.tmp 6, .tmp 7, .cell 8 26]) rfl (by simp) (.tmp (.tmp (.cell gb101 26 #[.int .i64 t102, .int .i64 t103] (0, 0) _ rfl (zw2 BK101) Try.underlying26 rfl (by kernel_rfl) .nil)))) rfl ?_
  exact ⟨by first | rfl | (simp [errW_none, errW_some] <;> rfl) | (simp [*, errW_none, errW_some] <;> rfl), zh HB⟩

end Go.Proofs.Ytiaoaoebghnpkaa.P
end
section
namespace Go.Proofs.Ytiaoaoebghnpkaa.P
open Go.RowKit Go.Proofs.YtiaoaoebghnpkaaW.PrintWords Go.Proofs.YtiaoaoebghnpkaaW.PrintLast Go.Proofs.YtiaoaoebghnpkaaW.PrintMore
attribute [local go_sem] max2_int min2_int max_two min_two max_three min_three max_four min_four   -- for this text's walks alone
set_option linter.unusedVariables false
set_option linter.unusedSimpArgs false

/-! ### weighbridgeref29_Least: function 17 -/
mutual
def weighbridgeref29_Least.l0 : Nat → List (S68) → Int → Int → Int → Int → Option (Int × Int × Int)
 | 0, _, _, _, _, _ => none
 | k + 1, x0, x1, x8, x106000, x106001 => if x8 < (x0.length : Int) then (weighbridgeref29_Least.l1 k x0 x1 x8 0 x106000 x106001) else ((weighbridgeref02_Div.f x106000 x106001 1000000000).bind fun bt110 => (if bt110.2.2 > 0 then ((weighbridgeref02_Of.f 1).bind fun bt114 => ((weighbridgeref02_Add.f bt110.1 bt110.2.1 bt114.1 bt114.2).bind fun bt116 => (some (bt116.2.1, 0, 0)))) else (some (bt110.2.1, 0, 0))))
def weighbridgeref29_Least.l1 : Nat → List (S68) → Int → Int → Int → Int → Int → Option (Int × Int × Int)
 | 0, _, _, _, _, _, _ => none
 | k + 1, x0, x1, x8, x9, x106000, x106001 => if x9 ≤ x8 then ((weighbridgeref29_over.f k x0 x1 x9 x8).bind fun bt106 => ((weighbridgeref02_Less.f x106000 x106001 bt106.1 bt106.2).bind fun t109 => (if t109 = true then (weighbridgeref29_Least.l1 k x0 x1 x8 (wrap64 (x9 + 1)) bt106.1 bt106.2) else (weighbridgeref29_Least.l1 k x0 x1 x8 (wrap64 (x9 + 1)) x106000 x106001)))) else (weighbridgeref29_Least.l0 k x0 x1 (wrap64 (x8 + 1)) x106000 x106001)
end
def weighbridgeref29_Least.f (k : Nat) (l0 : List (S68)) (a1 : Int) : Option (Int × Int × Int) := (weighbridgeref29_Check.f k l0).bind fun bt102 => (if bt102.1 = 0 then (weighbridgeref29_Least.l0 k l0 a1 0 0 0) else (some (0, bt102.1, bt102.2)))
set_option maxHeartbeats 8000000 in
set_option maxRecDepth 100000 in
theorem weighbridgeref29_Least.calls (k : Nat) (A0 : Option Addr) (c0 : Nat) (l0 : List (S68)) (a1 : Int) (r1 : Int) (r2 : Int) (r3 : Int) (w : World) (hr0 : Kd.C k68 w A0 l0.length l0) (hc0 : l0.length ≤ c0) (h : weighbridgeref29_Least.f k l0 a1 = some (r1, r2, r3)) :
  Calls Try.prog 17 #[.slice A0 l0.length c0, .int .u64 a1] w fun e w' => e = .returned (.tuple #[.int .u64 r1, .agg #[.int .i64 r2, .int .i64 r3]]) ∧ Below w.heap.size w w' := by
 have hu26 := Try.underlying26
 have hu42 := Try.underlying42
 have HR0 := zq3 hr0
 have HC0 := zq3 hc0
 clear hr0 hc0
 have HB := zq3 (Below.refl w.heap.size w)
 have H : ((weighbridgeref29_Check.f k l0).bind fun bt102 => (if bt102.1 = 0 then (weighbridgeref29_Least.l0 k l0 a1 0 0 0) else (some (0, bt102.1, bt102.2)))) = some (r1, r2, r3) := h
 clear h
 replace H := Option.bind_eq_some_iff.mp H
 obtain ⟨⟨t102, t103⟩, A30, H⟩ := H
 replace H : (if t102 = 0 then (weighbridgeref29_Least.l0 k l0 a1 0 0 0) else (some (0, t102, t103))) = some (r1, r2, r3) := H
 have A3 := zq3 A30
 clear A30
 by_cases c4 : t102 = 0
 ·
  rw [if_pos c4] at H
  have c4b0 : (t102 == 0) = true := beq_iff_eq.mpr c4
  have c4b1 : (t102 != 0) = false := bne_eq_false_iff_eq.mpr c4
  clear c4
  have H' := zq3 H
  clear H
  go_enter Try.func17, Try.ntmps17
  go_wp2_with (first | ((with_reducible refine zd 5 rfl ?_); refine zb 5 #[.int .i64 0, .int .i64 0] 26 ?_; intro gb101 hg w5 hbox hb; have BK101 := zq3 (hbox); have GW101 := ze hg HB; have GE101 := GW101; replace HB := zt HB hb; clear hb hbox hg) | ((with_reducible refine gate_callee (f := 40) rfl ?_); refine zgo (some 14) Try.func40 #[.slice A0 l0.length c0] ?_; (with_reducible refine (weighbridgeref29_Check.calls k _ _ l0 t102 t103 _ ?side1 ?side2 A3.out).mono ?_); (case side1 => repeat (first | exact (Kd.C_below HR0.out HB.out) | (with_reducible refine Kd.C_alloc ?_ _) | (with_reducible refine Kd.C_drewN ?_ _) | (with_reducible refine Kd.C_drew ?_))); (case side2 => exact HC0.out); rintro e w6 ⟨rfl, hb⟩; refine ⟨_, rfl, ?_⟩; replace BK101 := zs BK101 hb; replace HB := zt HB hb; (try clear hb)) | ((with_reducible refine zd 6 rfl ?_); refine zb 6 #[.int .i64 0, .int .i64 0] 26 ?_; intro gb104 hg w7 hbox hb; have BK104 := zq3 (hbox); have GW104 := ze hg HB; have GE104 := GW104; have NB101_104 := zl hg BK101; have NB104_101 := zg hg BK101; replace BK101 := zs BK101 hb; replace HB := zt HB hb; clear hb hbox hg; have hnb8 := NB104_101.out; have hnc8 := NB101_104.out; obtain ⟨hc9_0, hc9_1⟩ := zc2 BK104; obtain ⟨hf9_0, hf9_1⟩ := zf2 BK104) | ((with_reducible refine zd 7 rfl ?_); refine zb 7 #[.int .u64 0, .int .u64 0] 42 ?_; intro gb105 hg w10 hbox hb; have BK105 := zq3 (hbox); have GW105 := ze hg HB; have GE105 := GW105; have NB101_105 := zq3 ((by rw [hg]; exact Nat.ne_of_lt (blk_lt (g := gb101) (o := .cells #[.int .i64 0, .int .i64 0] 26 (0, 0)) (zw BK101)) : gb101 ≠ gb105)); have NB105_101 := zq3 ((by rw [hg]; exact Nat.ne_of_gt (blk_lt (g := gb101) (o := .cells #[.int .i64 0, .int .i64 0] 26 (0, 0)) (zw BK101)) : gb105 ≠ gb101)); have NB104_105 := zq3 ((by rw [hg]; exact Nat.ne_of_lt (blk_lt (g := gb104) (o := .cells #[.int .i64 t102, .int .i64 t103] 26 (0, 0)) (zw2 BK104)) : gb104 ≠ gb105)); have NB105_104 := zq3 ((by rw [hg]; exact Nat.ne_of_gt (blk_lt (g := gb104) (o := .cells #[.int .i64 t102, .int .i64 t103] 26 (0, 0)) (zw2 BK104)) : gb105 ≠ gb104)); replace BK101 := zsf BK101 hb; replace BK104 := zq3 (zq10 (o := .cells #[.int .i64 t102, .int .i64 t103] 26 (0, 0)) (zw2 BK104) hb); replace HB := zt HB hb; clear hb hbox hg; have hnb11 := NB105_101.out; have hnc11 := NB101_105.out; have hnb12 := NB105_104.out; have hnc12 := NB104_105.out; obtain ⟨hc13_0, hc13_1⟩ := zc2 BK105; obtain ⟨hf13_0, hf13_1⟩ := zf2 BK105))
  go_loopg [8] k (fun kq v8 w' => ∃ (x8_1 : Int) (x106000_1 : Int) (x106001_1 : Int), v8 = .int .i64 x8_1 ∧ Aside0 (weighbridgeref29_Least.l0 kq l0 a1 x8_1 x106000_1 x106001_1 = some (r1, r2, r3)) ∧ Aside0 (kq ≤ k) ∧ Aside0 (w'.heap[gb101]? = some (.cells #[.int .i64 0, .int .i64 0] 26 (0, 0))) ∧ Aside0 (w'.heap[gb104]? = some (.cells #[.int .i64 t102, .int .i64 t103] 26 (0, 0))) ∧ Aside0 (w'.heap[gb105]? = some (.cells #[.int .u64 x106000_1, .int .u64 x106001_1] 42 (0, 0))) ∧ Aside0 (Below w.heap.size w w'))
  case atStart => exact ⟨(0), (0), (0), (by first | rfl | (simp; done) | (simp [*]; done)), H', ⟨Nat.le_refl _⟩, ⟨zw BK101⟩, ⟨zw BK104⟩, ⟨zw2 BK105⟩, ⟨zh HB⟩⟩
  case round =>
   clear H'
   (try clear c1); (try clear p2); (try clear c4); (try clear c4b0); (try clear c4b1); (try clear c8); (try clear c11); (try clear c12)
   try clear hc13_0 hc13_1 hc9_0 hc9_1 hf13_0 hf13_1 hf9_0 hf9_1
   obtain ⟨x8_1, x106000_1, x106001_1, rfl, HA, HK1, BK101, BK104, BK105, HB⟩ := hrel
   cases gk with
   | zero => exact absurd HA.out (by simp [weighbridgeref29_Least.l0])
   | succ k1 =>
    have H := HA.out
    clear HA
    simp only [weighbridgeref29_Least.l0] at H
    by_cases c14 : x8_1 < (l0.length : Int)
    ·
     rw [if_pos c14] at H
     have c14b0 : decide (x8_1 < (l0.length : Int)) = true := decide_eq_true c14
     clear c14
     have H' := zq3 H
     clear H
     go_wp2
     go_loopg [9] k1 (fun kq v9 w' => ∃ (x9_2 : Int) (x106000_2 : Int) (x106001_2 : Int), v9 = .int .i64 x9_2 ∧ Aside0 (weighbridgeref29_Least.l1 kq l0 a1 x8_1 x9_2 x106000_2 x106001_2 = some (r1, r2, r3)) ∧ Aside0 (kq ≤ k1) ∧ Aside0 (w'.heap[gb101]? = some (.cells #[.int .i64 0, .int .i64 0] 26 (0, 0))) ∧ Aside0 (w'.heap[gb104]? = some (.cells #[.int .i64 t102, .int .i64 t103] 26 (0, 0))) ∧ Aside0 (w'.heap[gb105]? = some (.cells #[.int .u64 x106000_2, .int .u64 x106001_2] 42 (0, 0))) ∧ Aside0 (Below w.heap.size w w'))
     case atStart => exact ⟨(0), (x106000_1), (x106001_1), (by first | rfl | (simp; done) | (simp [*]; done)), H', ⟨Nat.le_refl _⟩, ⟨zw BK101⟩, ⟨zw BK104⟩, ⟨zw BK105⟩, ⟨zh HB⟩⟩
     case round =>
      clear H'
      (try clear c1); (try clear p2); (try clear c4); (try clear c4b0); (try clear c4b1); (try clear c8); (try clear c11); (try clear c12); (try clear c14); (try clear c14b0)
      try clear hc13_0 hc13_1 hc9_0 hc9_1 hf13_0 hf13_1 hf9_0 hf9_1
      (try clear p2)
      obtain ⟨x9_2, x106000_2, x106001_2, rfl, HA, HK2, BK101, BK104, BK105, HB⟩ := hrel
      cases gk with
      | zero => exact absurd HA.out (by simp [weighbridgeref29_Least.l1])
      | succ k2 =>
       have H := HA.out
       clear HA
       simp only [weighbridgeref29_Least.l1] at H
       by_cases c15 : x9_2 ≤ x8_1
       ·
        rw [if_pos c15] at H
        have c15b0 : decide (x9_2 ≤ x8_1) = true := decide_eq_true c15
        clear c15
        replace H := Option.bind_eq_some_iff.mp H
        obtain ⟨⟨t106, t107⟩, A160, H⟩ := H
        replace H : ((weighbridgeref02_Less.f x106000_2 x106001_2 t106 t107).bind fun t109 => (if t109 = true then (weighbridgeref29_Least.l1 k2 l0 a1 x8_1 (wrap64 (x9_2 + 1)) t106 t107) else (weighbridgeref29_Least.l1 k2 l0 a1 x8_1 (wrap64 (x9_2 + 1)) x106000_2 x106001_2))) = some (r1, r2, r3) := H
        have A16 := zq3 A160
        clear A160
        replace H := Option.bind_eq_some_iff.mp H
        obtain ⟨t109, A170, H⟩ := H
        replace H : (if t109 = true then (weighbridgeref29_Least.l1 k2 l0 a1 x8_1 (wrap64 (x9_2 + 1)) t106 t107) else (weighbridgeref29_Least.l1 k2 l0 a1 x8_1 (wrap64 (x9_2 + 1)) x106000_2 x106001_2)) = some (r1, r2, r3) := H
        have A17 := zq3 A170
        clear A170
        by_cases c18 : t109 = true
        ·
         subst c18
         have H1 : (weighbridgeref29_Least.l1 k2 l0 a1 x8_1 (wrap64 (x9_2 + 1)) t106 t107) = some (r1, r2, r3) := by rw [if_pos rfl] at H; exact H
         clear H
         have H := H1
         clear H1
         have H' := zq3 H
         clear H
         go_wp2_with (first | ((with_reducible refine gate_callee (f := 43) rfl ?_); refine zgo (some 35) Try.func43 #[.slice A0 l0.length c0, .int .u64 a1, .int .i64 x9_2, .int .i64 x8_1] ?_; (with_reducible refine (weighbridgeref29_over.calls k2 _ _ l0 a1 x9_2 x8_1 t106 t107 _ ?side1 ?side2 A16.out).mono ?_); (case side1 => repeat (first | exact (Kd.C_below HR0.out HB.out) | (with_reducible refine Kd.C_alloc ?_ _) | (with_reducible refine Kd.C_drewN ?_ _) | (with_reducible refine Kd.C_drew ?_))); (case side2 => exact HC0.out); rintro e w19 ⟨rfl, hb⟩; refine ⟨_, rfl, ?_⟩; replace BK101 := zs BK101 hb; replace BK104 := zs BK104 hb; replace BK105 := zs BK105 hb; replace HB := zt HB hb; (try clear hb)) | ((with_reducible refine zd 10 rfl ?_); refine zb 10 #[.int .u64 0, .int .u64 0] 42 ?_; intro gb108 hg w20 hbox hb; have BK108 := zq3 (hbox); have GW108 := ze hg HB; have GE108 := GW108; have NB101_108 := zl hg BK101; have NB108_101 := zg hg BK101; have NB104_108 := zl hg BK104; have NB108_104 := zg hg BK104; have NB105_108 := zl hg BK105; have NB108_105 := zg hg BK105; replace BK101 := zs BK101 hb; replace BK104 := zs BK104 hb; replace BK105 := zs BK105 hb; replace HB := zt HB hb; clear hb hbox hg; have hnb21 := NB108_101.out; have hnc21 := NB101_108.out; have hnb22 := NB108_104.out; have hnc22 := NB104_108.out; have hnb23 := NB108_105.out; have hnc23 := NB105_108.out; obtain ⟨hc24_0, hc24_1⟩ := zc2 BK108; obtain ⟨hf24_0, hf24_1⟩ := zf2 BK108; have hnb25 := NB105_101.out; have hnc25 := NB101_105.out; have hnb26 := NB105_104.out; have hnc26 := NB104_105.out; obtain ⟨hc27_0, hc27_1⟩ := zc2 BK105; obtain ⟨hf27_0, hf27_1⟩ := zf2 BK105) | ((with_reducible refine gate_callee (f := 41) rfl ?_); refine zgo (some 38) Try.func41 #[.agg #[.int .u64 x106000_2, .int .u64 x106001_2], .agg #[.int .u64 t106, .int .u64 t107]] ?_; (with_reducible refine (weighbridgeref02_Less.calls x106000_2 x106001_2 t106 t107 true _ A17.out).mono ?_); rintro e w28 ⟨rfl, hb⟩; refine ⟨_, rfl, ?_⟩; replace BK101 := zsf BK101 hb; replace BK104 := zsf BK104 hb; replace BK105 := zsf BK105 hb; replace BK108 := zq3 (zq10 (o := .cells #[.int .u64 t106, .int .u64 t107] 42 (0, 0)) (zw2 BK108) hb); replace HB := zt HB hb; (try clear hb); obtain ⟨hc29_0, hc29_1⟩ := zc2 BK108; obtain ⟨hf29_0, hf29_1⟩ := zf2 BK108; obtain ⟨hc30_0, hc30_1⟩ := zc2 BK105; obtain ⟨hf30_0, hf30_1⟩ := zf2 BK105))
         go_roundg k2
         case measure => have := HK1.out; have := HK2.out; omega
         case rel => exact ⟨(wrap64 (x9_2 + 1)), (t106), (t107), (by first | rfl | (simp; done) | (simp [*]; done)), H', ⟨by have := HK1.out; have := HK2.out; omega⟩, ⟨zw BK101⟩, ⟨zw BK104⟩, ⟨zw2 BK105⟩, ⟨zh HB⟩⟩
        ·
         replace c18 := Bool.eq_false_iff.mpr c18
         subst c18
         have H1 : (weighbridgeref29_Least.l1 k2 l0 a1 x8_1 (wrap64 (x9_2 + 1)) x106000_2 x106001_2) = some (r1, r2, r3) := by rw [if_neg (show ¬ (false = true) by decide)] at H; exact H
         clear H
         have H := H1
         clear H1
         have H' := zq3 H
         clear H
         go_wp2_with (first | ((with_reducible refine gate_callee (f := 43) rfl ?_); refine zgo (some 35) Try.func43 #[.slice A0 l0.length c0, .int .u64 a1, .int .i64 x9_2, .int .i64 x8_1] ?_; (with_reducible refine (weighbridgeref29_over.calls k2 _ _ l0 a1 x9_2 x8_1 t106 t107 _ ?side1 ?side2 A16.out).mono ?_); (case side1 => repeat (first | exact (Kd.C_below HR0.out HB.out) | (with_reducible refine Kd.C_alloc ?_ _) | (with_reducible refine Kd.C_drewN ?_ _) | (with_reducible refine Kd.C_drew ?_))); (case side2 => exact HC0.out); rintro e w31 ⟨rfl, hb⟩; refine ⟨_, rfl, ?_⟩; replace BK101 := zs BK101 hb; replace BK104 := zs BK104 hb; replace BK105 := zs BK105 hb; replace HB := zt HB hb; (try clear hb)) | ((with_reducible refine zd 10 rfl ?_); refine zb 10 #[.int .u64 0, .int .u64 0] 42 ?_; intro gb108 hg w32 hbox hb; have BK108 := zq3 (hbox); have GW108 := ze hg HB; have GE108 := GW108; have NB101_108 := zl hg BK101; have NB108_101 := zg hg BK101; have NB104_108 := zl hg BK104; have NB108_104 := zg hg BK104; have NB105_108 := zl hg BK105; have NB108_105 := zg hg BK105; replace BK101 := zs BK101 hb; replace BK104 := zs BK104 hb; replace BK105 := zs BK105 hb; replace HB := zt HB hb; clear hb hbox hg; have hnb33 := NB108_101.out; have hnc33 := NB101_108.out; have hnb34 := NB108_104.out; have hnc34 := NB104_108.out; have hnb35 := NB108_105.out; have hnc35 := NB105_108.out; obtain ⟨hc36_0, hc36_1⟩ := zc2 BK108; obtain ⟨hf36_0, hf36_1⟩ := zf2 BK108; have hnb37 := NB105_101.out; have hnc37 := NB101_105.out; have hnb38 := NB105_104.out; have hnc38 := NB104_105.out; obtain ⟨hc39_0, hc39_1⟩ := zc2 BK105; obtain ⟨hf39_0, hf39_1⟩ := zf2 BK105) | ((with_reducible refine gate_callee (f := 41) rfl ?_); refine zgo (some 38) Try.func41 #[.agg #[.int .u64 x106000_2, .int .u64 x106001_2], .agg #[.int .u64 t106, .int .u64 t107]] ?_; (with_reducible refine (weighbridgeref02_Less.calls x106000_2 x106001_2 t106 t107 false _ A17.out).mono ?_); rintro e w40 ⟨rfl, hb⟩; refine ⟨_, rfl, ?_⟩; replace BK101 := zsf BK101 hb; replace BK104 := zsf BK104 hb; replace BK105 := zsf BK105 hb; replace BK108 := zq3 (zq10 (o := .cells #[.int .u64 t106, .int .u64 t107] 42 (0, 0)) (zw2 BK108) hb); replace HB := zt HB hb; (try clear hb)))
         go_roundg k2
         case measure => have := HK1.out; have := HK2.out; omega
         case rel => exact ⟨(wrap64 (x9_2 + 1)), (x106000_2), (x106001_2), (by first | rfl | (simp; done) | (simp [*]; done)), H', ⟨by have := HK1.out; have := HK2.out; omega⟩, ⟨zw BK101⟩, ⟨zw BK104⟩, ⟨zw BK105⟩, ⟨zh HB⟩⟩
       ·
        rw [if_neg c15] at H
        have c15b0 : decide (x9_2 ≤ x8_1) = false := decide_eq_false c15
        clear c15
        have H' := zq3 H
        clear H
        go_wp2
        go_roundg k2
        case measure => have := HK1.out; have := HK2.out; omega
        case rel => exact ⟨(wrap64 (x8_1 + 1)), (x106000_2), (x106001_2), (by first | rfl | (simp; done) | (simp [*]; done)), H', ⟨by have := HK1.out; have := HK2.out; omega⟩, ⟨zw BK101⟩, ⟨zw BK104⟩, ⟨zw BK105⟩, ⟨zh HB⟩⟩
    ·
     rw [if_neg c14] at H
     have c14b0 : decide (x8_1 < (l0.length : Int)) = false := decide_eq_false c14
     clear c14
     replace H := Option.bind_eq_some_iff.mp H
     obtain ⟨⟨t110, t111, t112⟩, A410, H⟩ := H
     replace H : (if t112 > 0 then ((weighbridgeref02_Of.f 1).bind fun bt114 => ((weighbridgeref02_Add.f t110 t111 bt114.1 bt114.2).bind fun bt116 => (some (bt116.2.1, 0, 0)))) else (some (t111, 0, 0))) = some (r1, r2, r3) := H
     have A41 := zq3 A410
     clear A410
     by_cases c42 : t112 > 0
     ·
      rw [if_pos c42] at H
      have c42b0 : decide (0 < t112) = true := decide_eq_true c42
      clear c42
      replace H := Option.bind_eq_some_iff.mp H
      obtain ⟨⟨t114, t115⟩, A430, H⟩ := H
      replace H : ((weighbridgeref02_Add.f t110 t111 t114 t115).bind fun bt116 => (some (bt116.2.1, 0, 0))) = some (r1, r2, r3) := H
      have A43 := zq3 A430
      clear A430
      replace H := Option.bind_eq_some_iff.mp H
      obtain ⟨⟨t116, t117, t118⟩, A440, H⟩ := H
      replace H : (some (t117, 0, 0)) = some (r1, r2, r3) := H
      have A44 := zq3 A440
      clear A440
      simp only [Option.some.injEq, Prod.mk.injEq] at H
      obtain ⟨rfl, rfl, rfl⟩ := H
      have hnb45 := NB105_101.out
      have hnc45 := NB101_105.out
      have hnb46 := NB105_104.out
      have hnc46 := NB104_105.out
      obtain ⟨hc47_0, hc47_1⟩ := zc2 BK105
      obtain ⟨hf47_0, hf47_1⟩ := zf2 BK105
      try go_wp2_with (first | ((with_reducible refine gate_callee (f := 46) rfl ?_); refine zgo (some 42) Try.func46 #[.agg #[.int .u64 x106000_1, .int .u64 x106001_1], .int .u64 1000000000] ?_; (with_reducible refine (weighbridgeref02_Div.calls x106000_1 x106001_1 1000000000 t110 t111 t112 _ A41.out).mono ?_); rintro e w48 ⟨rfl, hb⟩; refine ⟨_, rfl, ?_⟩; replace BK101 := zs BK101 hb; replace BK104 := zs BK104 hb; replace BK105 := zs BK105 hb; replace HB := zt HB hb; (try clear hb)) | ((with_reducible refine zd 11 rfl ?_); refine zb 11 #[.int .u64 0, .int .u64 0] 42 ?_; intro gb113 hg w49 hbox hb; have BK113 := zq3 (hbox); have GW113 := ze hg HB; have GE113 := GW113; have NB101_113 := zl hg BK101; have NB113_101 := zg hg BK101; have NB104_113 := zl hg BK104; have NB113_104 := zg hg BK104; have NB105_113 := zl hg BK105; have NB113_105 := zg hg BK105; replace BK101 := zs BK101 hb; replace BK104 := zs BK104 hb; replace BK105 := zs BK105 hb; replace HB := zt HB hb; clear hb hbox hg; have hnb50 := NB113_101.out; have hnc50 := NB101_113.out; have hnb51 := NB113_104.out; have hnc51 := NB104_113.out; have hnb52 := NB113_105.out; have hnc52 := NB105_113.out; obtain ⟨hc53_0, hc53_1⟩ := zc2 BK113; obtain ⟨hf53_0, hf53_1⟩ := zf2 BK113))
      have n0_ : Aside0 (((w49.setCell ⟨gb113, 0, none⟩ (.int .u64 t110)).setCell ⟨gb113, 1, none⟩ (.int .u64 t111)).heap[gb101]? = some (.cells #[.int .i64 0, .int .i64 0] 26 (0, 0))) := ⟨zw BK101⟩
      have n1_ : Aside0 (((w49.setCell ⟨gb113, 0, none⟩ (.int .u64 t110)).setCell ⟨gb113, 1, none⟩ (.int .u64 t111)).heap[gb104]? = some (.cells #[.int .i64 t102, .int .i64 t103] 26 (0, 0))) := ⟨zw BK104⟩
      have n2_ : Aside0 (((w49.setCell ⟨gb113, 0, none⟩ (.int .u64 t110)).setCell ⟨gb113, 1, none⟩ (.int .u64 t111)).heap[gb105]? = some (.cells #[.int .u64 x106000_1, .int .u64 x106001_1] 42 (0, 0))) := ⟨zw BK105⟩
      have n3_ : Aside0 (((w49.setCell ⟨gb113, 0, none⟩ (.int .u64 t110)).setCell ⟨gb113, 1, none⟩ (.int .u64 t111)).heap[gb113]? = some (.cells #[.int .u64 t110, .int .u64 t111] 42 (0, 0))) := ⟨zw2 BK113⟩
      have n4_ : Aside0 (Below w.heap.size w ((w49.setCell ⟨gb113, 0, none⟩ (.int .u64 t110)).setCell ⟨gb113, 1, none⟩ (.int .u64 t111))) := ⟨zh HB⟩
      (try clear BK101)
      (try clear BK104)
      (try clear BK105)
      (try clear BK113)
      (try clear HB)
      generalize ((w49.setCell ⟨gb113, 0, none⟩ (.int .u64 t110)).setCell ⟨gb113, 1, none⟩ (.int .u64 t111)) = w54 at n0_ n1_ n2_ n3_ n4_ ⊢
      have BK101 := n0_
      have BK104 := n1_
      have BK105 := n2_
      have BK113 := n3_
      have HB := n4_
      clear n0_ n1_ n2_ n3_ n4_
      replace BK101 := zq3 (zq2 BK101.out); replace BK104 := zq3 (zq2 BK104.out); replace BK105 := zq3 (zq2 BK105.out); replace BK113 := zq3 (zq2 BK113.out); replace HB := zq3 (zq8 HB.out)
      refine start_ (n := 7) (S := fun w' => w'.cell? ⟨gb113, 0, none⟩ = some (.int .u64 t110) ∧ w'.cell? ⟨gb113, 1, none⟩ = some (.int .u64 t111)) (ds := [6]) #[false, false, false, false, false, false, false] (by kernel_rfl) rfl rfl ⟨(zq5 BK113.out 0).trans rfl, (zq5 BK113.out 1).trans rfl⟩ (fun hHeld => ?_)
      generalize w54.drew = w55 at BK101 BK104 BK105 BK113 HB hHeld ⊢
      refine take_ (i := 0) (N := some 48) (v := ?_) (a' := ?_) #[true, false, false, false, false, false, false] rfl rfl (by kernel_rfl) (fun _ _ _ h => h) (Or.inl ⟨by rfl, ?_⟩) hHeld ?_ ?_
      rotate_left
      ·
       rintro w' ⟨s0, s1⟩
       go_simp
       with_reducible rfl
      rotate_left
      ·
       simp only [Act.put, List.setIfInBounds_toArray, List.set_cons_zero, List.set_cons_succ, i64_w, i32_w]
       rfl
      refine one_ (i := 1) (N := some 49) #[true, true, false, false, false, false, false] rfl rfl (by kernel_rfl) (by decide) (fun K hK => ?_)
      refine goes_ Try.func48 (by kernel_rfl) rfl #[.int .u64 1] (by rfl) rfl rfl (by (try simp only [List.map_toArray, List.map_cons, List.map_nil]); first | done | rfl | (simp only [List.length_drop, List.length_take]; rfl)) ?_
      with_reducible refine (weighbridgeref02_Of.calls 1 t114 t115 _ A43.out).mono ?_
      rintro e w56 ⟨rfl, hb⟩
      refine ⟨_, rfl, ?_⟩
      replace BK101 := zs BK101 hb; replace BK104 := zs BK104 hb; replace BK105 := zs BK105 hb; replace BK113 := zs BK113 hb; replace HB := zt HB hb
      (try clear hb)
      (try clear hb2)
      (try clear hk)
      (try clear hi)
      refine hK.out _ _ ⟨(zq5 BK113.out 0).trans rfl, (zq5 BK113.out 1).trans rfl⟩ (fun hHeld => ?_)
      clear hK K
      refine norm_ (a' := ?_) ?_ ?_
      rotate_left
      ·
       show Act.put _ (some 49) _ = _
       simp only [Act.put, List.setIfInBounds_toArray, List.set_cons_zero, List.set_cons_succ, i64_w, i32_w]
       rfl
      refine one_ (i := 2) (N := some 50) #[true, true, true, false, false, false, false] rfl rfl (by kernel_rfl) (by decide) (fun K hK => ?_)
      refine goes_ Try.func47 (by kernel_rfl) rfl #[.agg #[.int .u64 t110, .int .u64 t111], .agg #[.int .u64 t114, .int .u64 t115]] (by rfl) rfl rfl (by (try simp only [List.map_toArray, List.map_cons, List.map_nil]); first | done | rfl | (simp only [List.length_drop, List.length_take]; rfl)) ?_
      with_reducible refine (weighbridgeref02_Add.calls t110 t111 t114 t115 t116 t117 t118 _ A44.out).mono ?_
      rintro e w57 ⟨rfl, hb⟩
      refine ⟨_, rfl, ?_⟩
      replace BK101 := zs BK101 hb; replace BK104 := zs BK104 hb; replace BK105 := zs BK105 hb; replace BK113 := zs BK113 hb; replace HB := zt HB hb
      (try clear hb)
      (try clear hb2)
      (try clear hk)
      (try clear hi)
      refine hK.out _ _ ⟨(zq5 BK113.out 0).trans rfl, (zq5 BK113.out 1).trans rfl⟩ (fun hHeld => ?_)
      clear hK K
      refine norm_ (a' := ?_) ?_ ?_
      rotate_left
      ·
       show Act.put _ (some 50) _ = _
       simp only [Act.put, List.setIfInBounds_toArray, List.set_cons_zero, List.set_cons_succ, i64_w, i32_w]
       rfl
      refine pure_ (i := 3) (N := some 47) (v := ?_) (a' := ?_) #[true, true, true, true, false, false, false] rfl rfl (by kernel_rfl) (fun _ _ _ h => h) (Or.inl ⟨by rfl, ?_⟩) ?_ ?_
      rotate_left
      ·
       intro w'
       go_simp
       with_reducible rfl
      rotate_left
      ·
       simp only [Act.put, List.setIfInBounds_toArray, List.set_cons_zero, List.set_cons_succ, i64_w, i32_w]
       rfl
      refine pure_ (i := 4) (N := some 51) (v := ?_) (a' := ?_) #[true, true, true, true, true, false, false] rfl rfl (by kernel_rfl) (fun _ _ _ h => h) (Or.inl ⟨by rfl, ?_⟩) ?_ ?_
      rotate_left
      ·
       intro w'
       go_simp
       with_reducible rfl
      rotate_left
      ·
       simp only [Act.put, List.setIfInBounds_toArray, List.set_cons_zero, List.set_cons_succ, i64_w, i32_w]
       rfl
      refine pure_ (i := 5) (N := some 52) (v := ?_) (a' := ?_) #[true, true, true, true, true, true, false] rfl rfl (by kernel_rfl) (fun _ _ _ h => h) (Or.inl ⟨by rfl, ?_⟩) ?_ ?_
      rotate_left
      ·
       intro w'
       go_simp
       with_reducible rfl
      rotate_left
      ·
       simp only [Act.put, List.setIfInBounds_toArray, List.set_cons_zero, List.set_cons_succ, i64_w, i32_w]
       rfl
      refine last_ (i := 6) (N := none) #[true, true, true, true, true, true, true] rfl rfl (by kernel_rfl) (by decide) (fun K hK => ?_)
      have hs58 : w57.cell? ⟨gb113, 0, none⟩ = some (.int .u64 t110) := (zq5 BK113.out 0).trans rfl
      have hfs58 := zq4 BK113.out 0
      have hns58_0 := NB101_113.out
      have hns58_1 := NB104_113.out
      have hns58_2 := NB105_113.out
      have hms58_0 := NB113_101.out
      have hms58_1 := NB113_104.out
      have hms58_2 := NB113_105.out
      have hs59 : w57.cell? ⟨gb113, 1, none⟩ = some (.int .u64 t111) := (zq5 BK113.out 1).trans rfl
      have hfs59 := zq4 BK113.out 1
      have hns59_0 := NB101_113.out
      have hns59_1 := NB104_113.out
      have hns59_2 := NB105_113.out
      have hms59_0 := NB113_101.out
      have hms59_1 := NB113_104.out
      have hms59_2 := NB113_105.out
      refine skip_ (w1 := ?_) (by rfl) rfl ?_ ?_
      rotate_left
      ·
       go_simp
       rfl
      refine hK.out _ _ ?_
      clear hK K
      refine done_ (by kernel_rfl) ?_
      obtain ⟨hc60_0, hc60_1⟩ := zc2 BK113
      obtain ⟨hf60_0, hf60_1⟩ := zf2 BK113
      have hnb61 := NB101_104.out
      have hnc61 := NB104_101.out
      obtain ⟨hc62_0, hc62_1⟩ := zc2 BK101
      obtain ⟨hf62_0, hf62_1⟩ := zf2 BK101
      try go_wp2
      refine bodyPost_ret (results_tc rfl _ _ gb101 26 #[.int .i64 0, .int .i64 0] (0, 0) _ rfl (zw2 BK101) Try.underlying26 rfl (by kernel_rfl)) rfl ?_
      exact ⟨by first | rfl | (simp [errW_none, errW_some] <;> rfl) | (simp [*, errW_none, errW_some] <;> rfl), zh HB⟩
     ·
      rw [if_neg c42] at H
      have c42b0 : decide (0 < t112) = false := decide_eq_false c42
      clear c42
      simp only [Option.some.injEq, Prod.mk.injEq] at H
      obtain ⟨rfl, rfl, rfl⟩ := H
      have hnb63 := NB105_101.out
      have hnc63 := NB101_105.out
      have hnb64 := NB105_104.out
      have hnc64 := NB104_105.out
      obtain ⟨hc65_0, hc65_1⟩ := zc2 BK105
      obtain ⟨hf65_0, hf65_1⟩ := zf2 BK105
      go_wp2_with (first | ((with_reducible refine gate_callee (f := 46) rfl ?_); refine zgo (some 42) Try.func46 #[.agg #[.int .u64 x106000_1, .int .u64 x106001_1], .int .u64 1000000000] ?_; (with_reducible refine (weighbridgeref02_Div.calls x106000_1 x106001_1 1000000000 t110 t111 t112 _ A41.out).mono ?_); rintro e w66 ⟨rfl, hb⟩; refine ⟨_, rfl, ?_⟩; replace BK101 := zs BK101 hb; replace BK104 := zs BK104 hb; replace BK105 := zs BK105 hb; replace HB := zt HB hb; (try clear hb)) | ((with_reducible refine zd 11 rfl ?_); refine zb 11 #[.int .u64 0, .int .u64 0] 42 ?_; intro gb113 hg w67 hbox hb; have BK113 := zq3 (hbox); have GW113 := ze hg HB; have GE113 := GW113; have NB101_113 := zl hg BK101; have NB113_101 := zg hg BK101; have NB104_113 := zl hg BK104; have NB113_104 := zg hg BK104; have NB105_113 := zl hg BK105; have NB113_105 := zg hg BK105; replace BK101 := zs BK101 hb; replace BK104 := zs BK104 hb; replace BK105 := zs BK105 hb; replace HB := zt HB hb; clear hb hbox hg; have hnb68 := NB113_101.out; have hnc68 := NB101_113.out; have hnb69 := NB113_104.out; have hnc69 := NB104_113.out; have hnb70 := NB113_105.out; have hnc70 := NB105_113.out; obtain ⟨hc71_0, hc71_1⟩ := zc2 BK113; obtain ⟨hf71_0, hf71_1⟩ := zf2 BK113; have hnb72 := NB101_104.out; have hnc72 := NB104_101.out; obtain ⟨hc73_0, hc73_1⟩ := zc2 BK101; obtain ⟨hf73_0, hf73_1⟩ := zf2 BK101))
      refine bodyPost_ret (results_tc rfl _ _ gb101 26 #[.int .i64 0, .int .i64 0] (0, 0) _ rfl (zw2 BK101) Try.underlying26 rfl (by kernel_rfl)) rfl ?_
      exact ⟨by first | rfl | (simp [errW_none, errW_some] <;> rfl) | (simp [*, errW_none, errW_some] <;> rfl), zh HB⟩
 ·
  rw [if_neg c4] at H
  have c4b0 : (t102 == 0) = false := beq_eq_false_iff_ne.mpr c4
  have c4b1 : (t102 != 0) = true := bne_iff_ne.mpr c4
  simp only [Option.some.injEq, Prod.mk.injEq] at H
  obtain ⟨rfl, rfl, rfl⟩ := H
  go_enter Try.func17, Try.ntmps17
  try go_wp2_with (first | ((with_reducible refine zd 5 rfl ?_); refine zb 5 #[.int .i64 0, .int .i64 0] 26 ?_; intro gb101 hg w74 hbox hb; have BK101 := zq3 (hbox); have GW101 := ze hg HB; have GE101 := GW101; replace HB := zt HB hb; clear hb hbox hg) | ((with_reducible refine gate_callee (f := 40) rfl ?_); refine zgo (some 14) Try.func40 #[.slice A0 l0.length c0] ?_; (with_reducible refine (weighbridgeref29_Check.calls k _ _ l0 t102 t103 _ ?side1 ?side2 A3.out).mono ?_); (case side1 => repeat (first | exact (Kd.C_below HR0.out HB.out) | (with_reducible refine Kd.C_alloc ?_ _) | (with_reducible refine Kd.C_drewN ?_ _) | (with_reducible refine Kd.C_drew ?_))); (case side2 => exact HC0.out); rintro e w75 ⟨rfl, hb⟩; refine ⟨_, rfl, ?_⟩; replace BK101 := zs BK101 hb; replace HB := zt HB hb; (try clear hb)) | ((with_reducible refine zd 6 rfl ?_); refine zb 6 #[.int .i64 0, .int .i64 0] 26 ?_; intro gb104 hg w76 hbox hb; have BK104 := zq3 (hbox); have GW104 := ze hg HB; have GE104 := GW104; have NB101_104 := zl hg BK101; have NB104_101 := zg hg BK101; replace BK101 := zs BK101 hb; replace HB := zt HB hb; clear hb hbox hg; have hnb77 := NB104_101.out; have hnc77 := NB101_104.out; obtain ⟨hc78_0, hc78_1⟩ := zc2 BK104; obtain ⟨hf78_0, hf78_1⟩ := zf2 BK104))
  have n0_ : Aside0 (((w76.setCell ⟨gb104, 0, none⟩ (.int .i64 t102)).setCell ⟨gb104, 1, none⟩ (.int .i64 t103)).heap[gb101]? = some (.cells #[.int .i64 0, .int .i64 0] 26 (0, 0))) := ⟨zw BK101⟩
  have n1_ : Aside0 (((w76.setCell ⟨gb104, 0, none⟩ (.int .i64 t102)).setCell ⟨gb104, 1, none⟩ (.int .i64 t103)).heap[gb104]? = some (.cells #[.int .i64 t102, .int .i64 t103] 26 (0, 0))) := ⟨zw2 BK104⟩
  have n2_ : Aside0 (Below w.heap.size w ((w76.setCell ⟨gb104, 0, none⟩ (.int .i64 t102)).setCell ⟨gb104, 1, none⟩ (.int .i64 t103))) := ⟨zh HB⟩
  (try clear BK101)
  (try clear BK104)
  (try clear HB)
  generalize ((w76.setCell ⟨gb104, 0, none⟩ (.int .i64 t102)).setCell ⟨gb104, 1, none⟩ (.int .i64 t103)) = w79 at n0_ n1_ n2_ ⊢
  have BK101 := n0_
  have BK104 := n1_
  have HB := n2_
  clear n0_ n1_ n2_
  replace BK101 := zq3 (zq2 BK101.out); replace BK104 := zq3 (zq2 BK104.out); replace HB := zq3 (zq8 HB.out)
  refine start_ (n := 3) (S := fun w' => w'.cell? ⟨gb104, 0, none⟩ = some (.int .i64 t102) ∧ w'.cell? ⟨gb104, 1, none⟩ = some (.int .i64 t103)) (ds := []) #[false, false, false] (by kernel_rfl) rfl rfl ⟨(zq5 BK104.out 0).trans rfl, (zq5 BK104.out 1).trans rfl⟩ (fun hHeld => ?_)
  generalize w79.drew = w80 at BK101 BK104 HB hHeld ⊢
  refine pure_ (i := 1) (N := some 4) (v := ?_) (a' := ?_) #[false, true, false] rfl rfl (by kernel_rfl) (fun _ _ _ h => h) (Or.inl ⟨by rfl, ?_⟩) ?_ ?_
  rotate_left
  ·
   intro w'
   go_simp
   with_reducible rfl
  rotate_left
  ·
   simp only [Act.put, List.setIfInBounds_toArray, List.set_cons_zero, List.set_cons_succ, i64_w, i32_w]
   rfl
  refine take_ (i := 0) (N := some 18) (v := ?_) (a' := ?_) #[true, true, false] rfl rfl (by kernel_rfl) (fun _ _ _ h => h) (Or.inl ⟨by rfl, ?_⟩) hHeld ?_ ?_
  rotate_left
  ·
   rintro w' ⟨s0, s1⟩
   go_simp
   with_reducible rfl
  rotate_left
  ·
   simp only [Act.put, List.setIfInBounds_toArray, List.set_cons_zero, List.set_cons_succ, i64_w, i32_w]
   rfl
  refine one_ (i := 2) (N := none) #[true, true, true] rfl rfl (by kernel_rfl) (by decide) (fun K hK => ?_)
  have hs81 : w80.cell? ⟨gb101, 0, none⟩ = some (.int .i64 0) := (zq5 BK101.out 0).trans rfl
  have hfs81 := zq4 BK101.out 0
  have hns81_1 := NB104_101.out
  have hms81_1 := NB101_104.out
  have hs82 : w80.cell? ⟨gb101, 1, none⟩ = some (.int .i64 0) := (zq5 BK101.out 1).trans rfl
  have hfs82 := zq4 BK101.out 1
  have hns82_1 := NB104_101.out
  have hms82_1 := NB101_104.out
  refine skip_ (w1 := ?_) (by rfl) rfl ?_ ?_
  rotate_left
  ·
   go_simp
   rfl
  refine hK.out _ _ ⟨((cell_far (p := ⟨gb101, _, none⟩) NB104_101.out _).trans (((cell_far (p := ⟨gb101, _, none⟩) NB104_101.out _).trans (hHeld.1)))), ((cell_far (p := ⟨gb101, _, none⟩) NB104_101.out _).trans (((cell_far (p := ⟨gb101, _, none⟩) NB104_101.out _).trans (hHeld.2))))⟩ (fun hHeld => ?_)
  clear hK K
  refine done_ (by kernel_rfl) ?_
  try go_wp2
  refine bodyPost_ret (results_tc rfl _ _ gb101 26 #[.int .i64 t102, .int .i64 t103] (0, 0) _ rfl (zw2 BK101) Try.underlying26 rfl (by kernel_rfl)) rfl ?_
  exact ⟨by first | rfl | (simp [errW_none, errW_some] <;> rfl) | (simp [*, errW_none, errW_some] <;> rfl), zh HB⟩

end Go.Proofs.Ytiaoaoebghnpkaa.P
end
