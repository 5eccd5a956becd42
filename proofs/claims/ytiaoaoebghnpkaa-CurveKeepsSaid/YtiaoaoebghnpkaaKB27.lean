/- Parts of the proof, in one text. -/
import Derived.Test.YtiaoaoebghnpkaaKB10
import Derived.Test.YtiaoaoebghnpkaaKB16
section
namespace Go.Proofs.Ytiaoaoebghnpkaa.P
open Go.RowKit Go.Proofs.YtiaoaoebghnpkaaW.PrintWords Go.Proofs.YtiaoaoebghnpkaaW.PrintLast Go.Proofs.YtiaoaoebghnpkaaW.PrintMore
attribute [local go_sem] max2_int min2_int max_two min_two max_three min_three max_four min_four   -- for this text's walks alone
set_option linter.unusedVariables false
set_option linter.unusedSimpArgs false

/-! ### double_side_take: function 122 -/
def double_side_take.f (a0_0 : Int) (a0_1 : Int) (a0_2 : Int) (a1 : Int) : Option (Int × Int × Int × Bool) := (bucket_Take.f a0_0 a1).bind fun bt103 => (some (bt103.1, a0_1, a0_2, bt103.2))
set_option maxHeartbeats 8000000 in
set_option maxRecDepth 100000 in
theorem double_side_take.calls (a0_0 : Int) (a0_1 : Int) (a0_2 : Int) (a1 : Int) (r1 : Int) (r2 : Int) (r3 : Int) (r4 : Bool) (w : World) (h : double_side_take.f a0_0 a0_1 a0_2 a1 = some (r1, r2, r3, r4)) :
  Calls Try.prog 122 #[.agg #[.int .u64 a0_0, .int .u64 a0_1, .int .u64 a0_2], .int .i64 a1] w fun e w' => e = .returned (.tuple #[.agg #[.int .u64 r1, .int .u64 r2, .int .u64 r3], .bool r4]) ∧ Below w.heap.size w w' := by
 have hu155 := Try.underlying155
 have HB := zq3 (Below.refl w.heap.size w)
 have H : ((bucket_Take.f a0_0 a1).bind fun bt103 => (some (bt103.1, a0_1, a0_2, bt103.2))) = some (r1, r2, r3, r4) := h
 clear h
 replace H := Option.bind_eq_some_iff.mp H
 obtain ⟨⟨t103, t104⟩, A30, H⟩ := H
 replace H : (some (t103, a0_1, a0_2, t104)) = some (r1, r2, r3, r4) := H
 have A3 := zq3 A30
 clear A30
 simp only [Option.some.injEq, Prod.mk.injEq] at H
 obtain ⟨rfl, rfl, rfl, rfl⟩ := H
 go_enter Try.func122, Try.ntmps122
 go_wp2_with (first | ((with_reducible refine zd 2 rfl ?_); refine zb 2 #[.int .u64 a0_0, .int .u64 a0_1, .int .u64 a0_2] 155 ?_; intro gb101 hg w4 hbox hb; have BK101 := zq3 (hbox); have GW101 := ze hg HB; have GE101 := GW101; replace HB := zt HB hb; clear hb hbox hg) | ((with_reducible refine zd 4 rfl ?_); refine zb 4 #[.int .u64 0, .int .u64 0, .int .u64 0] 155 ?_; intro gb102 hg w5 hbox hb; have BK102 := zq3 (hbox); have GW102 := ze hg HB; have GE102 := GW102; have NB101_102 := zl hg BK101; have NB102_101 := zg hg BK101; replace BK101 := zs BK101 hb; replace HB := zt HB hb; clear hb hbox hg; have hnb6 := NB101_102.out; have hnc6 := NB102_101.out; obtain ⟨hc7_0, hc7_1, hc7_2⟩ := zc3 BK101; obtain ⟨hf7_0, hf7_1, hf7_2⟩ := zf3 BK101) | ((with_reducible refine gate_callee (f := 124) rfl ?_); refine zgo (some 12) Try.func124 #[.int .u64 a0_0, .int .i64 a1] ?_; (with_reducible refine (bucket_Take.calls a0_0 a1 t103 t104 _ A3.out).mono ?_); rintro e w8 ⟨rfl, hb⟩; refine ⟨_, rfl, ?_⟩; replace BK101 := zs BK101 hb; replace BK102 := zs BK102 hb; replace HB := zt HB hb; (try clear hb); obtain ⟨hc9_0, hc9_1, hc9_2⟩ := zc3 BK101; obtain ⟨hf9_0, hf9_1, hf9_2⟩ := zf3 BK101; obtain ⟨hc10_0, hc10_1, hc10_2⟩ := zc3 BK102; obtain ⟨hf10_0, hf10_1, hf10_2⟩ := zf3 BK102))
 refine bodyPost_ret (results_ct rfl _ _ gb102 155 #[.int .u64 t103, .int .u64 a0_1, .int .u64 a0_2] (0, 0) _ rfl (zw3 BK102) Try.underlying155 rfl (by kernel_rfl)) rfl ?_
 exact ⟨by first | rfl | (simp [errW_none, errW_some] <;> rfl) | (simp [*, errW_none, errW_some] <;> rfl), zh HB⟩

end Go.Proofs.Ytiaoaoebghnpkaa.P
end
section
namespace Go.Proofs.Ytiaoaoebghnpkaa.P
open Go.RowKit Go.Proofs.YtiaoaoebghnpkaaW.PrintWords Go.Proofs.YtiaoaoebghnpkaaW.PrintLast Go.Proofs.YtiaoaoebghnpkaaW.PrintMore
attribute [local go_sem] max2_int min2_int max_two min_two max_three min_three max_four min_four   -- for this text's walks alone
set_option linter.unusedVariables false
set_option linter.unusedSimpArgs false

/-! ### double_paint: function 120 -/
mutual
def double_paint.j0 : Nat → Int → Int → Int → Int → Int → Int → Int → Int → Option (Int × Int × Int × Int × Int × Int × Int)
 | 0, _, _, _, _, _, _, _, _ => none
 | k + 1, x2, x3, x103000, x103001, x103002, x103003, x103004, x103005 => (double_side_take.f x103003 x103004 x103005 x2).bind fun bt104 => ((double_side_take.f x103000 x103001 x103002 x2).bind fun bt109 => (if x3 = 0 then (double_paint.j1 k x3 bt109.2.2.2 (!bt104.2.2.2) x103000 x103001 x103002 x103003 x103004 x103005 bt104.1 bt104.2.1 bt104.2.2.1 bt109.1 bt109.2.1 bt109.2.2.1) else (if x3 = 1 then (double_paint.j1 k x3 bt109.2.2.2 (!bt104.2.2.2) x103000 x103001 x103002 x103003 x103004 x103005 bt104.1 bt104.2.1 bt104.2.2.1 bt109.1 bt109.2.1 bt109.2.2.1) else (double_paint.j1 k x3 bt109.2.2.2 true x103000 x103001 x103002 x103003 x103004 x103005 bt104.1 bt104.2.1 bt104.2.2.1 bt109.1 bt109.2.1 bt109.2.2.1))))
def double_paint.j1 : Nat → Int → Bool → Bool → Int → Int → Int → Int → Int → Int → Int → Int → Int → Int → Int → Int → Option (Int × Int × Int × Int × Int × Int × Int)
 | 0, _, _, _, _, _, _, _, _, _, _, _, _, _, _, _ => none
 | k + 1, x3, x13, x31, x103000, x103001, x103002, x103003, x103004, x103005, x109000, x109001, x109002, x114000, x114001, x114002 => if x31 = true then (some (x103000, x103001, x103002, x103003, x103004, x103005, 2)) else (if x3 = 1 then (some (x103000, x103001, x103002, x109000, x109001, x109002, 1)) else (if x13 = true then (some (x114000, x114001, x114002, x109000, x109001, x109002, 0)) else (some (x103000, x103001, x103002, x109000, x109001, x109002, 1))))
end
def double_paint.f (k : Nat) (a0_0 : Int) (a0_1 : Bool) (a0_2 : Int) (a0_3 : Int) (a0_4 : Int) (a0_5 : Int) (a1_0 : Int) (a1_1 : Int) (a1_2 : Int) (a1_3 : Int) (a1_4 : Int) (a1_5 : Int) (a2 : Int) (a3 : Int) : Option (Int × Int × Int × Int × Int × Int × Int) := if a0_1 = true then (double_paint.j0 k a2 a3 a1_0 a1_1 a1_2 a1_3 a1_4 a1_5) else (double_paint.j0 k a2 0 a1_0 a1_1 a1_2 a1_3 a1_4 a1_5)
set_option maxHeartbeats 8000000 in
set_option maxRecDepth 100000 in
theorem double_paint.calls (k : Nat) (a0_0 : Int) (a0_1 : Bool) (a0_2 : Int) (a0_3 : Int) (a0_4 : Int) (a0_5 : Int) (a1_0 : Int) (a1_1 : Int) (a1_2 : Int) (a1_3 : Int) (a1_4 : Int) (a1_5 : Int) (a2 : Int) (a3 : Int) (r1 : Int) (r2 : Int) (r3 : Int) (r4 : Int) (r5 : Int) (r6 : Int) (r7 : Int) (w : World) (h : double_paint.f k a0_0 a0_1 a0_2 a0_3 a0_4 a0_5 a1_0 a1_1 a1_2 a1_3 a1_4 a1_5 a2 a3 = some (r1, r2, r3, r4, r5, r6, r7)) :
  Calls Try.prog 120 #[.agg #[.int .i64 a0_0, .bool a0_1, .int .u64 a0_2, .int .u64 a0_3, .int .u64 a0_4, .int .u64 a0_5], .agg #[.int .u64 a1_0, .int .u64 a1_1, .int .u64 a1_2, .int .u64 a1_3, .int .u64 a1_4, .int .u64 a1_5], .int .i64 a2, .int .i64 a3] w fun e w' => e = .returned (.tuple #[.agg #[.int .u64 r1, .int .u64 r2, .int .u64 r3, .int .u64 r4, .int .u64 r5, .int .u64 r6], .int .i64 r7]) ∧ Below w.heap.size w w' := by
 have hu49 := Try.underlying49
 have hu156 := Try.underlying156
 have hu155 := Try.underlying155
 have HB := zq3 (Below.refl w.heap.size w)
 have H : (if a0_1 = true then (double_paint.j0 k a2 a3 a1_0 a1_1 a1_2 a1_3 a1_4 a1_5) else (double_paint.j0 k a2 0 a1_0 a1_1 a1_2 a1_3 a1_4 a1_5)) = some (r1, r2, r3, r4, r5, r6, r7) := h
 clear h
 have HC5 := zq3 H
 clear H
 go_enter Try.func120, Try.ntmps120
 go_upto_if 16 with (first | ((with_reducible refine zd 4 rfl ?_); refine zb 4 #[.int .i64 a0_0, .bool a0_1, .int .u64 a0_2, .int .u64 a0_3, .int .u64 a0_4, .int .u64 a0_5] 49 ?_; intro gb101 hg w6 hbox hb; have BK101 := zq3 (hbox); have GW101 := ze hg HB; have GE101 := GW101; replace HB := zt HB hb; clear hb hbox hg) | ((with_reducible refine zd 5 rfl ?_); refine zb 5 #[.int .u64 a1_0, .int .u64 a1_1, .int .u64 a1_2, .int .u64 a1_3, .int .u64 a1_4, .int .u64 a1_5] 156 ?_; intro gb102 hg w7 hbox hb; have BK102 := zq3 (hbox); have GW102 := ze hg HB; have GE102 := GW102; have NB101_102 := zl hg BK101; have NB102_101 := zg hg BK101; replace BK101 := zs BK101 hb; replace HB := zt HB hb; clear hb hbox hg) | ((with_reducible refine zd 8 rfl ?_); refine zb 8 #[.int .u64 0, .int .u64 0, .int .u64 0, .int .u64 0, .int .u64 0, .int .u64 0] 156 ?_; intro gb103 hg w8 hbox hb; have BK103 := zq3 (hbox); have GW103 := ze hg HB; have GE103 := GW103; have NB101_103 := zl hg BK101; have NB103_101 := zg hg BK101; have NB102_103 := zl hg BK102; have NB103_102 := zg hg BK102; replace BK101 := zs BK101 hb; replace BK102 := zs BK102 hb; replace HB := zt HB hb; clear hb hbox hg; have hnb9 := NB101_102.out; have hnc9 := NB102_101.out; have hnb10 := NB101_103.out; have hnc10 := NB103_101.out; obtain ⟨hc11_0, hc11_1, hc11_2, hc11_3, hc11_4, hc11_5⟩ := zc6 BK101; obtain ⟨hf11_0, hf11_1, hf11_2, hf11_3, hf11_4, hf11_5⟩ := zf6 BK101))
 (try simp only [Act.put, List.setIfInBounds_toArray, List.set_cons_zero, List.set_cons_succ])
 go_cut [3] (fun v3 wc => ∃ (kq : Nat) (x3_4 : Int), v3 = .int .i64 x3_4 ∧ Aside0 (double_paint.j0 kq a2 x3_4 a1_0 a1_1 a1_2 a1_3 a1_4 a1_5 = some (r1, r2, r3, r4, r5, r6, r7)) ∧ Aside0 (kq ≤ k) ∧ Aside0 (wc.heap[gb101]? = some (.cells #[.int .i64 a0_0, .bool a0_1, .int .u64 a0_2, .int .u64 a0_3, .int .u64 a0_4, .int .u64 a0_5] 49 (0, 0))) ∧ Aside0 (wc.heap[gb102]? = some (.cells #[.int .u64 a1_0, .int .u64 a1_1, .int .u64 a1_2, .int .u64 a1_3, .int .u64 a1_4, .int .u64 a1_5] 156 (0, 0))) ∧ Aside0 (wc.heap[gb103]? = some (.cells #[.int .u64 0, .int .u64 0, .int .u64 0, .int .u64 0, .int .u64 0, .int .u64 0] 156 (0, 0))) ∧ Aside0 (Below w.heap.size w wc))
 case first =>
  have H := HC5.out
  clear HC5
  by_cases c12 : a0_1 = true
  ·
   subst c12
   have H1 : (double_paint.j0 k a2 a3 a1_0 a1_1 a1_2 a1_3 a1_4 a1_5) = some (r1, r2, r3, r4, r5, r6, r7) := by rw [if_pos rfl] at H; exact H
   clear H
   have H := H1
   clear H1
   have H' := zq3 H
   clear H
   go_wp2
   go_meet
   case rel => exact ⟨_, (a3), (by first | rfl | (simp; done) | (simp [*]; done)), H', ⟨by first | omega | exact Nat.le_refl _⟩, ⟨zw BK101⟩, ⟨zw BK102⟩, ⟨zw BK103⟩, ⟨zh HB⟩⟩
  ·
   replace c12 := Bool.eq_false_iff.mpr c12
   subst c12
   have H1 : (double_paint.j0 k a2 0 a1_0 a1_1 a1_2 a1_3 a1_4 a1_5) = some (r1, r2, r3, r4, r5, r6, r7) := by rw [if_neg (show ¬ (false = true) by decide)] at H; exact H
   clear H
   have H := H1
   clear H1
   have H' := zq3 H
   clear H
   go_wp2
   go_meet
   case rel => exact ⟨_, (0), (by first | rfl | (simp; done) | (simp [*]; done)), H', ⟨by first | omega | exact Nat.le_refl _⟩, ⟨zw BK101⟩, ⟨zw BK102⟩, ⟨zw BK103⟩, ⟨zh HB⟩⟩
 case rest =>
  clear HC5
  (try clear c1); (try clear p2); (try clear c9); (try clear c10); (try clear c12)
  try clear hc11_0 hc11_1 hc11_2 hc11_3 hc11_4 hc11_5 hf11_0 hf11_1 hf11_2 hf11_3 hf11_4 hf11_5
  obtain ⟨kq, x3_4, rfl, HA, HJ4, BK101, BK102, BK103, HB⟩ := hcut
  cases kq with
  | zero => exact absurd HA.out (by simp [double_paint.j0])
  | succ kj4 =>
   have H := HA.out
   clear HA
   simp only [double_paint.j0] at H
   replace H := Option.bind_eq_some_iff.mp H
   obtain ⟨⟨t104, t105, t106, t107⟩, A130, H⟩ := H
   replace H : ((double_side_take.f a1_0 a1_1 a1_2 a2).bind fun bt109 => (if x3_4 = 0 then (double_paint.j1 kj4 x3_4 bt109.2.2.2 (!t107) a1_0 a1_1 a1_2 a1_3 a1_4 a1_5 t104 t105 t106 bt109.1 bt109.2.1 bt109.2.2.1) else (if x3_4 = 1 then (double_paint.j1 kj4 x3_4 bt109.2.2.2 (!t107) a1_0 a1_1 a1_2 a1_3 a1_4 a1_5 t104 t105 t106 bt109.1 bt109.2.1 bt109.2.2.1) else (double_paint.j1 kj4 x3_4 bt109.2.2.2 true a1_0 a1_1 a1_2 a1_3 a1_4 a1_5 t104 t105 t106 bt109.1 bt109.2.1 bt109.2.2.1)))) = some (r1, r2, r3, r4, r5, r6, r7) := H
   have A13 := zq3 A130
   clear A130
   replace H := Option.bind_eq_some_iff.mp H
   obtain ⟨⟨t109, t110, t111, t112⟩, A140, H⟩ := H
   replace H : (if x3_4 = 0 then (double_paint.j1 kj4 x3_4 t112 (!t107) a1_0 a1_1 a1_2 a1_3 a1_4 a1_5 t104 t105 t106 t109 t110 t111) else (if x3_4 = 1 then (double_paint.j1 kj4 x3_4 t112 (!t107) a1_0 a1_1 a1_2 a1_3 a1_4 a1_5 t104 t105 t106 t109 t110 t111) else (double_paint.j1 kj4 x3_4 t112 true a1_0 a1_1 a1_2 a1_3 a1_4 a1_5 t104 t105 t106 t109 t110 t111))) = some (r1, r2, r3, r4, r5, r6, r7) := H
   have A14 := zq3 A140
   clear A140
   have HC15 := zq3 H
   clear H
   have hnb16 := NB102_101.out
   have hnc16 := NB101_102.out
   have hnb17 := NB102_103.out
   have hnc17 := NB103_102.out
   obtain ⟨hc18_0, hc18_1, hc18_2, hc18_3, hc18_4, hc18_5⟩ := zc6 BK102
   obtain ⟨hf18_0, hf18_1, hf18_2, hf18_3, hf18_4, hf18_5⟩ := zf6 BK102
   go_upto_region 5 with (first | ((with_reducible refine gate_callee (f := 122) rfl ?_); refine zgo (some 21) Try.func122 #[.agg #[.int .u64 a1_3, .int .u64 a1_4, .int .u64 a1_5], .int .i64 a2] ?_; (with_reducible refine (double_side_take.calls a1_3 a1_4 a1_5 a2 t104 t105 t106 t107 _ A13.out).mono ?_); rintro e w19 ⟨rfl, hb⟩; refine ⟨_, rfl, ?_⟩; replace BK101 := zs BK101 hb; replace BK102 := zs BK102 hb; replace BK103 := zs BK103 hb; replace HB := zt HB hb; (try clear hb)) | ((with_reducible refine zd 10 rfl ?_); refine zb 10 #[.int .u64 0, .int .u64 0, .int .u64 0] 155 ?_; intro gb108 hg w20 hbox hb; have BK108 := zq3 (hbox); have GW108 := ze hg HB; have GE108 := GW108; have NB101_108 := zl hg BK101; have NB108_101 := zg hg BK101; have NB102_108 := zl hg BK102; have NB108_102 := zg hg BK102; have NB103_108 := zl hg BK103; have NB108_103 := zg hg BK103; replace BK101 := zs BK101 hb; replace BK102 := zs BK102 hb; replace BK103 := zs BK103 hb; replace HB := zt HB hb; clear hb hbox hg; have hnb21 := NB108_101.out; have hnc21 := NB101_108.out; have hnb22 := NB108_102.out; have hnc22 := NB102_108.out; have hnb23 := NB108_103.out; have hnc23 := NB103_108.out; obtain ⟨hc24_0, hc24_1, hc24_2⟩ := zc3 BK108; obtain ⟨hf24_0, hf24_1, hf24_2⟩ := zf3 BK108; obtain ⟨hc25_0, hc25_1, hc25_2, hc25_3, hc25_4, hc25_5⟩ := zc6 BK102; obtain ⟨hf25_0, hf25_1, hf25_2, hf25_3, hf25_4, hf25_5⟩ := zf6 BK102) | ((with_reducible refine gate_callee (f := 122) rfl ?_); refine zgo (some 28) Try.func122 #[.agg #[.int .u64 a1_0, .int .u64 a1_1, .int .u64 a1_2], .int .i64 a2] ?_; (with_reducible refine (double_side_take.calls a1_0 a1_1 a1_2 a2 t109 t110 t111 t112 _ A14.out).mono ?_); rintro e w26 ⟨rfl, hb⟩; refine ⟨_, rfl, ?_⟩; replace BK101 := zsf BK101 hb; replace BK102 := zsf BK102 hb; replace BK103 := zsf BK103 hb; replace BK108 := zq3 (zq10 (o := .cells #[.int .u64 t104, .int .u64 t105, .int .u64 t106] 155 (0, 0)) (zw3 BK108) hb); replace HB := zt HB hb; (try clear hb)) | ((with_reducible refine zd 12 rfl ?_); refine zb 12 #[.int .u64 0, .int .u64 0, .int .u64 0] 155 ?_; intro gb113 hg w27 hbox hb; have BK113 := zq3 (hbox); have GW113 := ze hg HB; have GE113 := GW113; have NB101_113 := zl hg BK101; have NB113_101 := zg hg BK101; have NB102_113 := zl hg BK102; have NB113_102 := zg hg BK102; have NB103_113 := zl hg BK103; have NB113_103 := zg hg BK103; have NB108_113 := zl hg BK108; have NB113_108 := zg hg BK108; replace BK101 := zs BK101 hb; replace BK102 := zs BK102 hb; replace BK103 := zs BK103 hb; replace BK108 := zs BK108 hb; replace HB := zt HB hb; clear hb hbox hg; have hnb28 := NB113_101.out; have hnc28 := NB101_113.out; have hnb29 := NB113_102.out; have hnc29 := NB102_113.out; have hnb30 := NB113_103.out; have hnc30 := NB103_113.out; have hnb31 := NB113_108.out; have hnc31 := NB108_113.out; obtain ⟨hc32_0, hc32_1, hc32_2⟩ := zc3 BK113; obtain ⟨hf32_0, hf32_1, hf32_2⟩ := zf3 BK113))
   (try simp only [Act.put, List.setIfInBounds_toArray, List.set_cons_zero, List.set_cons_succ])
   go_cut [31] (fun v31 wc => ∃ (kq : Nat) (x31_14 : Bool), v31 = .bool x31_14 ∧ Aside0 (double_paint.j1 kq x3_4 t112 x31_14 a1_0 a1_1 a1_2 a1_3 a1_4 a1_5 t104 t105 t106 t109 t110 t111 = some (r1, r2, r3, r4, r5, r6, r7)) ∧ Aside0 (kq ≤ kj4) ∧ Aside0 (wc.heap[gb101]? = some (.cells #[.int .i64 a0_0, .bool a0_1, .int .u64 a0_2, .int .u64 a0_3, .int .u64 a0_4, .int .u64 a0_5] 49 (0, 0))) ∧ Aside0 (wc.heap[gb102]? = some (.cells #[.int .u64 a1_0, .int .u64 a1_1, .int .u64 a1_2, .int .u64 a1_3, .int .u64 a1_4, .int .u64 a1_5] 156 (0, 0))) ∧ Aside0 (wc.heap[gb103]? = some (.cells #[.int .u64 0, .int .u64 0, .int .u64 0, .int .u64 0, .int .u64 0, .int .u64 0] 156 (0, 0))) ∧ Aside0 (wc.heap[gb108]? = some (.cells #[.int .u64 t104, .int .u64 t105, .int .u64 t106] 155 (0, 0))) ∧ Aside0 (wc.heap[gb113]? = some (.cells #[.int .u64 t109, .int .u64 t110, .int .u64 t111] 155 (0, 0))) ∧ Aside0 (Below w.heap.size w wc))
   case first =>
    have H := HC15.out
    clear HC15
    by_cases c33 : x3_4 = 0
    ·
     rw [if_pos c33] at H
     have c33b0 : (x3_4 == 0) = true := beq_iff_eq.mpr c33
     have c33b1 : (x3_4 != 0) = false := bne_eq_false_iff_eq.mpr c33
     clear c33
     (first | rw [c33b0] | (simp only [i64_w, i32_w]; rw [c33b0]) | skip)
     have H' := zq3 H
     clear H
     go_wp2
     go_meet
     case rel => exact ⟨_, (!t107), (by first | rfl | (simp; done) | (simp [*]; done)), H', ⟨by have := HJ4.out; first | omega | exact Nat.le_refl _⟩, ⟨zw BK101⟩, ⟨zw BK102⟩, ⟨zw BK103⟩, ⟨zw BK108⟩, ⟨zw3 BK113⟩, ⟨zh HB⟩⟩
    ·
     rw [if_neg c33] at H
     have c33b0 : (x3_4 == 0) = false := beq_eq_false_iff_ne.mpr c33
     have c33b1 : (x3_4 != 0) = true := bne_iff_ne.mpr c33
     (first | rw [c33b0] | (simp only [i64_w, i32_w]; rw [c33b0]) | skip)
     by_cases c34 : x3_4 = 1
     ·
      rw [if_pos c34] at H
      have c34b0 : (x3_4 == 1) = true := beq_iff_eq.mpr c34
      have c34b1 : (x3_4 != 1) = false := bne_eq_false_iff_eq.mpr c34
      clear c34
      have H' := zq3 H
      clear H
      go_wp2
      go_meet
      case rel => exact ⟨_, (!t107), (by first | rfl | (simp; done) | (simp [*]; done)), H', ⟨by have := HJ4.out; first | omega | exact Nat.le_refl _⟩, ⟨zw BK101⟩, ⟨zw BK102⟩, ⟨zw BK103⟩, ⟨zw BK108⟩, ⟨zw3 BK113⟩, ⟨zh HB⟩⟩
     ·
      rw [if_neg c34] at H
      have c34b0 : (x3_4 == 1) = false := beq_eq_false_iff_ne.mpr c34
      have c34b1 : (x3_4 != 1) = true := bne_iff_ne.mpr c34
      have H' := zq3 H
      clear H
      go_wp2
      go_meet
      case rel => exact ⟨_, (true), (by first | rfl | (simp; done) | (simp [*]; done)), H', ⟨by have := HJ4.out; first | omega | exact Nat.le_refl _⟩, ⟨zw BK101⟩, ⟨zw BK102⟩, ⟨zw BK103⟩, ⟨zw BK108⟩, ⟨zw3 BK113⟩, ⟨zh HB⟩⟩
   case rest =>
    clear HC15
    (try clear c1); (try clear c2); (try clear p2); (try clear c3); (try clear c9); (try clear c10); (try clear c12); (try clear c16); (try clear c17); (try clear c21); (try clear c22); (try clear c23); (try clear c28); (try clear c29); (try clear c30); (try clear c31); (try clear c33); (try clear c33b0); (try clear c33b1); (try clear c34); (try clear c34b0); (try clear c34b1)
    try clear hc11_0 hc11_1 hc11_2 hc11_3 hc11_4 hc11_5 hc18_0 hc18_1 hc18_2 hc18_3 hc18_4 hc18_5 hc24_0 hc24_1 hc24_2 hc25_0 hc25_1 hc25_2 hc25_3 hc25_4 hc25_5 hc32_0 hc32_1 hc32_2 hf11_0 hf11_1 hf11_2 hf11_3 hf11_4 hf11_5 hf18_0 hf18_1 hf18_2 hf18_3 hf18_4 hf18_5 hf24_0 hf24_1 hf24_2 hf25_0 hf25_1 hf25_2 hf25_3 hf25_4 hf25_5 hf32_0 hf32_1 hf32_2
    (try clear p2)
    obtain ⟨kq, x31_14, rfl, HA, HJ14, BK101, BK102, BK103, BK108, BK113, HB⟩ := hcut
    cases kq with
    | zero => exact absurd HA.out (by simp [double_paint.j1])
    | succ kj14 =>
     have H := HA.out
     clear HA
     simp only [double_paint.j1] at H
     by_cases c35 : x31_14 = true
     ·
      subst c35
      have H1 : (some (a1_0, a1_1, a1_2, a1_3, a1_4, a1_5, 2)) = some (r1, r2, r3, r4, r5, r6, r7) := by rw [if_pos rfl] at H; exact H
      clear H
      have H := H1
      clear H1
      simp only [Option.some.injEq, Prod.mk.injEq] at H
      obtain ⟨rfl, rfl, rfl, rfl, rfl, rfl, rfl⟩ := H
      have hnb36 := NB102_101.out
      have hnc36 := NB101_102.out
      have hnb37 := NB102_103.out
      have hnc37 := NB103_102.out
      have hnb38 := NB102_108.out
      have hnc38 := NB108_102.out
      have hnb39 := NB102_113.out
      have hnc39 := NB113_102.out
      obtain ⟨hc40_0, hc40_1, hc40_2, hc40_3, hc40_4, hc40_5⟩ := zc6 BK102
      obtain ⟨hf40_0, hf40_1, hf40_2, hf40_3, hf40_4, hf40_5⟩ := zf6 BK102
      have hnb41 := NB103_101.out
      have hnc41 := NB101_103.out
      have hnb42 := NB103_108.out
      have hnc42 := NB108_103.out
      have hnb43 := NB103_113.out
      have hnc43 := NB113_103.out
      obtain ⟨hc44_0, hc44_1, hc44_2, hc44_3, hc44_4, hc44_5⟩ := zc6 BK103
      obtain ⟨hf44_0, hf44_1, hf44_2, hf44_3, hf44_4, hf44_5⟩ := zf6 BK103
      go_wp2
      refine bodyPost_ret (results_ct rfl _ _ gb103 156 #[.int .u64 a1_0, .int .u64 a1_1, .int .u64 a1_2, .int .u64 a1_3, .int .u64 a1_4, .int .u64 a1_5] (0, 0) _ rfl (zw6 BK103) Try.underlying156 rfl (by kernel_rfl)) rfl ?_
      exact ⟨by first | rfl | (simp [errW_none, errW_some] <;> rfl) | (simp [*, errW_none, errW_some] <;> rfl), zh HB⟩
     ·
      replace c35 := Bool.eq_false_iff.mpr c35
      subst c35
      have H1 : (if x3_4 = 1 then (some (a1_0, a1_1, a1_2, t104, t105, t106, 1)) else (if t112 = true then (some (t109, t110, t111, t104, t105, t106, 0)) else (some (a1_0, a1_1, a1_2, t104, t105, t106, 1)))) = some (r1, r2, r3, r4, r5, r6, r7) := by rw [if_neg (show ¬ (false = true) by decide)] at H; exact H
      clear H
      have H := H1
      clear H1
      by_cases c45 : x3_4 = 1
      ·
       rw [if_pos c45] at H
       have c45b0 : (x3_4 == 1) = true := beq_iff_eq.mpr c45
       have c45b1 : (x3_4 != 1) = false := bne_eq_false_iff_eq.mpr c45
       clear c45
       simp only [Option.some.injEq, Prod.mk.injEq] at H
       obtain ⟨rfl, rfl, rfl, rfl, rfl, rfl, rfl⟩ := H
       have hnb46 := NB102_101.out
       have hnc46 := NB101_102.out
       have hnb47 := NB102_103.out
       have hnc47 := NB103_102.out
       have hnb48 := NB102_108.out
       have hnc48 := NB108_102.out
       have hnb49 := NB102_113.out
       have hnc49 := NB113_102.out
       obtain ⟨hc50_0, hc50_1, hc50_2, hc50_3, hc50_4, hc50_5⟩ := zc6 BK102
       obtain ⟨hf50_0, hf50_1, hf50_2, hf50_3, hf50_4, hf50_5⟩ := zf6 BK102
       have hnb51 := NB108_101.out
       have hnc51 := NB101_108.out
       have hnb52 := NB108_103.out
       have hnc52 := NB103_108.out
       have hnb53 := NB108_113.out
       have hnc53 := NB113_108.out
       obtain ⟨hc54_0, hc54_1, hc54_2⟩ := zc3 BK108
       obtain ⟨hf54_0, hf54_1, hf54_2⟩ := zf3 BK108
       have hnb55 := NB103_101.out
       have hnc55 := NB101_103.out
       have hnb56 := NB103_113.out
       have hnc56 := NB113_103.out
       obtain ⟨hc57_0, hc57_1, hc57_2, hc57_3, hc57_4, hc57_5⟩ := zc6 BK103
       obtain ⟨hf57_0, hf57_1, hf57_2, hf57_3, hf57_4, hf57_5⟩ := zf6 BK103
       go_wp2
       refine bodyPost_ret (results_ct rfl _ _ gb103 156 #[.int .u64 a1_0, .int .u64 a1_1, .int .u64 a1_2, .int .u64 t104, .int .u64 t105, .int .u64 t106] (0, 0) _ rfl (zw6 BK103) Try.underlying156 rfl (by kernel_rfl)) rfl ?_
       exact ⟨by first | rfl | (simp [errW_none, errW_some] <;> rfl) | (simp [*, errW_none, errW_some] <;> rfl), zh HB⟩
      ·
       rw [if_neg c45] at H
       have c45b0 : (x3_4 == 1) = false := beq_eq_false_iff_ne.mpr c45
       have c45b1 : (x3_4 != 1) = true := bne_iff_ne.mpr c45
       by_cases c58 : t112 = true
       ·
        subst c58
        have H1 : (some (t109, t110, t111, t104, t105, t106, 0)) = some (r1, r2, r3, r4, r5, r6, r7) := by rw [if_pos rfl] at H; exact H
        clear H
        have H := H1
        clear H1
        simp only [Option.some.injEq, Prod.mk.injEq] at H
        obtain ⟨rfl, rfl, rfl, rfl, rfl, rfl, rfl⟩ := H
        have hnb59 := NB113_101.out
        have hnc59 := NB101_113.out
        have hnb60 := NB113_102.out
        have hnc60 := NB102_113.out
        have hnb61 := NB113_103.out
        have hnc61 := NB103_113.out
        have hnb62 := NB113_108.out
        have hnc62 := NB108_113.out
        obtain ⟨hc63_0, hc63_1, hc63_2⟩ := zc3 BK113
        obtain ⟨hf63_0, hf63_1, hf63_2⟩ := zf3 BK113
        have hnb64 := NB108_101.out
        have hnc64 := NB101_108.out
        have hnb65 := NB108_102.out
        have hnc65 := NB102_108.out
        have hnb66 := NB108_103.out
        have hnc66 := NB103_108.out
        obtain ⟨hc67_0, hc67_1, hc67_2⟩ := zc3 BK108
        obtain ⟨hf67_0, hf67_1, hf67_2⟩ := zf3 BK108
        have hnb68 := NB103_101.out
        have hnc68 := NB101_103.out
        have hnb69 := NB103_102.out
        have hnc69 := NB102_103.out
        obtain ⟨hc70_0, hc70_1, hc70_2, hc70_3, hc70_4, hc70_5⟩ := zc6 BK103
        obtain ⟨hf70_0, hf70_1, hf70_2, hf70_3, hf70_4, hf70_5⟩ := zf6 BK103
        go_wp2
        refine bodyPost_ret (results_ct rfl _ _ gb103 156 #[.int .u64 t109, .int .u64 t110, .int .u64 t111, .int .u64 t104, .int .u64 t105, .int .u64 t106] (0, 0) _ rfl (zw6 BK103) Try.underlying156 rfl (by kernel_rfl)) rfl ?_
        exact ⟨by first | rfl | (simp [errW_none, errW_some] <;> rfl) | (simp [*, errW_none, errW_some] <;> rfl), zh HB⟩
       ·
        replace c58 := Bool.eq_false_iff.mpr c58
        subst c58
        have H1 : (some (a1_0, a1_1, a1_2, t104, t105, t106, 1)) = some (r1, r2, r3, r4, r5, r6, r7) := by rw [if_neg (show ¬ (false = true) by decide)] at H; exact H
        clear H
        have H := H1
        clear H1
        simp only [Option.some.injEq, Prod.mk.injEq] at H
        obtain ⟨rfl, rfl, rfl, rfl, rfl, rfl, rfl⟩ := H
        have hnb71 := NB102_101.out
        have hnc71 := NB101_102.out
        have hnb72 := NB102_103.out
        have hnc72 := NB103_102.out
        have hnb73 := NB102_108.out
        have hnc73 := NB108_102.out
        have hnb74 := NB102_113.out
        have hnc74 := NB113_102.out
        obtain ⟨hc75_0, hc75_1, hc75_2, hc75_3, hc75_4, hc75_5⟩ := zc6 BK102
        obtain ⟨hf75_0, hf75_1, hf75_2, hf75_3, hf75_4, hf75_5⟩ := zf6 BK102
        have hnb76 := NB108_101.out
        have hnc76 := NB101_108.out
        have hnb77 := NB108_103.out
        have hnc77 := NB103_108.out
        have hnb78 := NB108_113.out
        have hnc78 := NB113_108.out
        obtain ⟨hc79_0, hc79_1, hc79_2⟩ := zc3 BK108
        obtain ⟨hf79_0, hf79_1, hf79_2⟩ := zf3 BK108
        have hnb80 := NB103_101.out
        have hnc80 := NB101_103.out
        have hnb81 := NB103_113.out
        have hnc81 := NB113_103.out
        obtain ⟨hc82_0, hc82_1, hc82_2, hc82_3, hc82_4, hc82_5⟩ := zc6 BK103
        obtain ⟨hf82_0, hf82_1, hf82_2, hf82_3, hf82_4, hf82_5⟩ := zf6 BK103
        go_wp2
        refine bodyPost_ret (results_ct rfl _ _ gb103 156 #[.int .u64 a1_0, .int .u64 a1_1, .int .u64 a1_2, .int .u64 t104, .int .u64 t105, .int .u64 t106] (0, 0) _ rfl (zw6 BK103) Try.underlying156 rfl (by kernel_rfl)) rfl ?_
        exact ⟨by first | rfl | (simp [errW_none, errW_some] <;> rfl) | (simp [*, errW_none, errW_some] <;> rfl), zh HB⟩

end Go.Proofs.Ytiaoaoebghnpkaa.P
end
section
namespace Go.Proofs.Ytiaoaoebghnpkaa.P
open Go.RowKit Go.Proofs.YtiaoaoebghnpkaaW.PrintWords Go.Proofs.YtiaoaoebghnpkaaW.PrintLast Go.Proofs.YtiaoaoebghnpkaaW.PrintMore
attribute [local go_sem] max2_int min2_int max_two min_two max_three min_three max_four min_four   -- for this text's walks alone
set_option linter.unusedVariables false
set_option linter.unusedSimpArgs false

/-! ### double_side_grow: function 119 -/
def double_side_grow.f (a0_0 : Int) (a0_1 : Int) (a0_2 : Int) (a1 : Int) : Option (Int × Int × Int) := (bucket_Grow.f a0_0 a0_1 a0_2 a1).bind fun bt103 => (some (bt103.1, a0_1, a0_2))
set_option maxHeartbeats 8000000 in
set_option maxRecDepth 100000 in
theorem double_side_grow.calls (a0_0 : Int) (a0_1 : Int) (a0_2 : Int) (a1 : Int) (r1 : Int) (r2 : Int) (r3 : Int) (w : World) (h : double_side_grow.f a0_0 a0_1 a0_2 a1 = some (r1, r2, r3)) :
  Calls Try.prog 119 #[.agg #[.int .u64 a0_0, .int .u64 a0_1, .int .u64 a0_2], .int .u64 a1] w fun e w' => e = .returned (.agg #[.int .u64 r1, .int .u64 r2, .int .u64 r3]) ∧ Below w.heap.size w w' := by
 have hu155 := Try.underlying155
 have HB := zq3 (Below.refl w.heap.size w)
 have H : ((bucket_Grow.f a0_0 a0_1 a0_2 a1).bind fun bt103 => (some (bt103.1, a0_1, a0_2))) = some (r1, r2, r3) := h
 clear h
 replace H := Option.bind_eq_some_iff.mp H
 obtain ⟨⟨t103, t104, t105⟩, A30, H⟩ := H
 replace H : (some (t103, a0_1, a0_2)) = some (r1, r2, r3) := H
 have A3 := zq3 A30
 clear A30
 simp only [Option.some.injEq, Prod.mk.injEq] at H
 obtain ⟨rfl, rfl, rfl⟩ := H
 go_enter Try.func119, Try.ntmps119
 go_wp2_with (first | ((with_reducible refine zd 2 rfl ?_); refine zb 2 #[.int .u64 a0_0, .int .u64 a0_1, .int .u64 a0_2] 155 ?_; intro gb101 hg w4 hbox hb; have BK101 := zq3 (hbox); have GW101 := ze hg HB; have GE101 := GW101; replace HB := zt HB hb; clear hb hbox hg) | ((with_reducible refine zd 4 rfl ?_); refine zb 4 #[.int .u64 0, .int .u64 0, .int .u64 0] 155 ?_; intro gb102 hg w5 hbox hb; have BK102 := zq3 (hbox); have GW102 := ze hg HB; have GE102 := GW102; have NB101_102 := zl hg BK101; have NB102_101 := zg hg BK101; replace BK101 := zs BK101 hb; replace HB := zt HB hb; clear hb hbox hg; have hnb6 := NB101_102.out; have hnc6 := NB102_101.out; obtain ⟨hc7_0, hc7_1, hc7_2⟩ := zc3 BK101; obtain ⟨hf7_0, hf7_1, hf7_2⟩ := zf3 BK101) | ((with_reducible refine gate_callee (f := 121) rfl ?_); refine zgo (some 13) Try.func121 #[.int .u64 a0_0, .int .u64 a0_1, .int .u64 a0_2, .int .u64 a1] ?_; (with_reducible refine (bucket_Grow.calls a0_0 a0_1 a0_2 a1 t103 t104 t105 _ A3.out).mono ?_); rintro e w8 ⟨rfl, hb⟩; refine ⟨_, rfl, ?_⟩; replace BK101 := zs BK101 hb; replace BK102 := zs BK102 hb; replace HB := zt HB hb; (try clear hb); obtain ⟨hc9_0, hc9_1, hc9_2⟩ := zc3 BK101; obtain ⟨hf9_0, hf9_1, hf9_2⟩ := zf3 BK101; obtain ⟨hc10_0, hc10_1, hc10_2⟩ := zc3 BK102; obtain ⟨hf10_0, hf10_1, hf10_2⟩ := zf3 BK102))
 refine bodyPost_ret (results_cell_row rfl _ _ gb102 155 #[.int .u64 t103, .int .u64 a0_1, .int .u64 a0_2] (0, 0) _ rfl (zw3 BK102) Try.underlying155 rfl (by kernel_rfl)) rfl ?_
 exact ⟨by first | rfl | (simp [errW_none, errW_some] <;> rfl) | (simp [*, errW_none, errW_some] <;> rfl), zh HB⟩

end Go.Proofs.Ytiaoaoebghnpkaa.P
end
