/- Parts of the proof, in one text. -/
import Derived.Test.YtiaoaoebghnpkaaMT18
import Derived.Test.YtiaoaoebghnpkaaMT19
import Derived.Test.YtiaoaoebghnpkaaMT25
section
namespace Go.Proofs.Ytiaoaoebghnpkaa.P
open Go.RowKit Go.Proofs.YtiaoaoebghnpkaaW.PrintWords Go.Proofs.YtiaoaoebghnpkaaW.PrintLast Go.Proofs.YtiaoaoebghnpkaaW.PrintMore
attribute [local go_sem] max2_int min2_int max_two min_two max_three min_three max_four min_four   -- for this text's walks alone
set_option linter.unusedVariables false
set_option linter.unusedSimpArgs false

/-! ### weighbridgeref26_Later: function 92 -/
def weighbridgeref26_Later.f (a0_0 : Int) (a0_1 : Bool) (a0_2 : Int) (a0_3 : Int) (a0_4 : Int) (a0_5 : Int) (a1_0 : Int) (a1_1 : Int) (a1_2 : Int) (a1_3 : Bool) (a2 : Int) : Option (Int × Int × Int × Bool) := (weighbridgeref25_Step.f a1_2 a1_3 a2).bind fun bt104 => ((weighbridgeref24_Grow.f a1_0 (IntKind.u64.wrap (a0_4 * 1000000000)) a0_2 bt104.2).bind fun bt106 => (if a1_1 < (IntKind.u64.wrap (a0_5 * 1000000000)) then ((weighbridgeref02_Cap.f bt106.2.1 bt106.2.2 (IntKind.u64.wrap ((IntKind.u64.wrap (a0_5 * 1000000000)) - a1_1))).bind fun t110 => (some (bt106.1, IntKind.u64.wrap (a1_1 + t110), bt104.1, true))) else ((weighbridgeref02_Cap.f bt106.2.1 bt106.2.2 0).bind fun t111 => (some (bt106.1, IntKind.u64.wrap (a1_1 + t111), bt104.1, true)))))
def weighbridgeref26_Later.T6 : Bool × List (List Nat × List Nat) := (true, [([], []), ([], []), ([1], [1]), ([], []), ([], []), ([3, 4], [3, 4]), ([2, 5], [2, 5]), ([], []), ([0, 6, 7], [0, 6, 7]), ([8, 5, 0, 1, 2, 3, 4, 5, 6, 7, 8], [8])])
def weighbridgeref26_Later.B6 : List Nat := [0, 0, 2, 0, 0, 24, 62, 0, 255, 511]
theorem weighbridgeref26_Later.tab6 : rtab .any (opsOf Try.f92 6) = weighbridgeref26_Later.T6 := by kernel_rfl
theorem weighbridgeref26_Later.bits6 : waitsOk weighbridgeref26_Later.T6.2 weighbridgeref26_Later.B6 = true := by kernel_rfl
set_option maxHeartbeats 8000000 in
set_option maxRecDepth 100000 in
theorem weighbridgeref26_Later.calls (a0_0 : Int) (a0_1 : Bool) (a0_2 : Int) (a0_3 : Int) (a0_4 : Int) (a0_5 : Int) (a1_0 : Int) (a1_1 : Int) (a1_2 : Int) (a1_3 : Bool) (a2 : Int) (r1 : Int) (r2 : Int) (r3 : Int) (r4 : Bool) (w : World) (h : weighbridgeref26_Later.f a0_0 a0_1 a0_2 a0_3 a0_4 a0_5 a1_0 a1_1 a1_2 a1_3 a2 = some (r1, r2, r3, r4)) :
  Calls Try.prog 92 #[.agg #[.int .i64 a0_0, .bool a0_1, .int .u64 a0_2, .int .u64 a0_3, .int .u64 a0_4, .int .u64 a0_5], .agg #[.int .u64 a1_0, .int .u64 a1_1, .int .u64 a1_2, .bool a1_3], .int .u64 a2] w fun e w' => e = .returned (.agg #[.int .u64 r1, .int .u64 r2, .int .u64 r3, .bool r4]) ∧ Below w.heap.size w w' := by
 have hu49 := Try.underlying49
 have hu51 := Try.underlying51
 have hu42 := Try.underlying42
 have HB := zq3 (Below.refl w.heap.size w)
 have H : ((weighbridgeref25_Step.f a1_2 a1_3 a2).bind fun bt104 => ((weighbridgeref24_Grow.f a1_0 (IntKind.u64.wrap (a0_4 * 1000000000)) a0_2 bt104.2).bind fun bt106 => (if a1_1 < (IntKind.u64.wrap (a0_5 * 1000000000)) then ((weighbridgeref02_Cap.f bt106.2.1 bt106.2.2 (IntKind.u64.wrap ((IntKind.u64.wrap (a0_5 * 1000000000)) - a1_1))).bind fun t110 => (some (bt106.1, IntKind.u64.wrap (a1_1 + t110), bt104.1, true))) else ((weighbridgeref02_Cap.f bt106.2.1 bt106.2.2 0).bind fun t111 => (some (bt106.1, IntKind.u64.wrap (a1_1 + t111), bt104.1, true)))))) = some (r1, r2, r3, r4) := h
 clear h
 replace H := Option.bind_eq_some_iff.mp H
 obtain ⟨⟨t104, t105⟩, A40, H⟩ := H
 replace H : ((weighbridgeref24_Grow.f a1_0 (IntKind.u64.wrap (a0_4 * 1000000000)) a0_2 t105).bind fun bt106 => (if a1_1 < (IntKind.u64.wrap (a0_5 * 1000000000)) then ((weighbridgeref02_Cap.f bt106.2.1 bt106.2.2 (IntKind.u64.wrap ((IntKind.u64.wrap (a0_5 * 1000000000)) - a1_1))).bind fun t110 => (some (bt106.1, IntKind.u64.wrap (a1_1 + t110), t104, true))) else ((weighbridgeref02_Cap.f bt106.2.1 bt106.2.2 0).bind fun t111 => (some (bt106.1, IntKind.u64.wrap (a1_1 + t111), t104, true))))) = some (r1, r2, r3, r4) := H
 have A4 := zq3 A40
 clear A40
 replace H := Option.bind_eq_some_iff.mp H
 obtain ⟨⟨t106, t107, t108⟩, A50, H⟩ := H
 replace H : (if a1_1 < (IntKind.u64.wrap (a0_5 * 1000000000)) then ((weighbridgeref02_Cap.f t107 t108 (IntKind.u64.wrap ((IntKind.u64.wrap (a0_5 * 1000000000)) - a1_1))).bind fun t110 => (some (t106, IntKind.u64.wrap (a1_1 + t110), t104, true))) else ((weighbridgeref02_Cap.f t107 t108 0).bind fun t111 => (some (t106, IntKind.u64.wrap (a1_1 + t111), t104, true)))) = some (r1, r2, r3, r4) := H
 have A5 := zq3 A50
 clear A50
 by_cases c6 : a1_1 < (IntKind.u64.wrap (a0_5 * 1000000000))
 ·
  rw [if_pos c6] at H
  have c6b0 : decide (a1_1 < (IntKind.u64.wrap (a0_5 * 1000000000))) = true := decide_eq_true c6
  clear c6
  replace H := Option.bind_eq_some_iff.mp H
  obtain ⟨t110, A70, H⟩ := H
  replace H : (some (t106, IntKind.u64.wrap (a1_1 + t110), t104, true)) = some (r1, r2, r3, r4) := H
  have A7 := zq3 A70
  clear A70
  simp only [Option.some.injEq, Prod.mk.injEq] at H
  obtain ⟨rfl, rfl, rfl, rfl⟩ := H
  go_enter Try.func92, Try.ntmps92
  try go_wp2_with (first | ((with_reducible refine zd 3 rfl ?_); refine zb 3 #[.int .i64 a0_0, .bool a0_1, .int .u64 a0_2, .int .u64 a0_3, .int .u64 a0_4, .int .u64 a0_5] 49 ?_; intro gb101 hg w8 hbox hb; have BK101 := zq3 (hbox); have GW101 := ze hg HB; have GE101 := GW101; replace HB := zt HB hb; clear hb hbox hg) | ((with_reducible refine zd 4 rfl ?_); refine zb 4 #[.int .u64 a1_0, .int .u64 a1_1, .int .u64 a1_2, .bool a1_3] 51 ?_; intro gb102 hg w9 hbox hb; have BK102 := zq3 (hbox); have GW102 := ze hg HB; have GE102 := GW102; have NB101_102 := zl hg BK101; have NB102_101 := zg hg BK101; replace BK101 := zs BK101 hb; replace HB := zt HB hb; clear hb hbox hg) | ((with_reducible refine zd 6 rfl ?_); refine zb 6 #[.int .u64 0, .int .u64 0, .int .u64 0, .bool false] 51 ?_; intro gb103 hg w10 hbox hb; have BK103 := zq3 (hbox); have GW103 := ze hg HB; have GE103 := GW103; have NB101_103 := zl hg BK101; have NB103_101 := zg hg BK101; have NB102_103 := zl hg BK102; have NB103_102 := zg hg BK102; replace BK101 := zs BK101 hb; replace BK102 := zs BK102 hb; replace HB := zt HB hb; clear hb hbox hg; have hnb11 := NB102_101.out; have hnc11 := NB101_102.out; have hnb12 := NB102_103.out; have hnc12 := NB103_102.out; obtain ⟨hc13_0, hc13_1, hc13_2, hc13_3⟩ := zc4 BK102; obtain ⟨hf13_0, hf13_1, hf13_2, hf13_3⟩ := zf4 BK102) | ((with_reducible refine gate_callee (f := 93) rfl ?_); refine zgo (some 18) Try.func93 #[.int .u64 a1_2, .bool a1_3, .int .u64 a2] ?_; (with_reducible refine (weighbridgeref25_Step.calls a1_2 a1_3 a2 t104 t105 _ A4.out).mono ?_); rintro e w14 ⟨rfl, hb⟩; refine ⟨_, rfl, ?_⟩; replace BK101 := zs BK101 hb; replace BK102 := zs BK102 hb; replace BK103 := zs BK103 hb; replace HB := zt HB hb; (try clear hb); obtain ⟨hc15_0, hc15_1, hc15_2, hc15_3⟩ := zc4 BK102; obtain ⟨hf15_0, hf15_1, hf15_2, hf15_3⟩ := zf4 BK102; have hnb16 := NB101_103.out; have hnc16 := NB103_101.out; obtain ⟨hc17_0, hc17_1, hc17_2, hc17_3, hc17_4, hc17_5⟩ := zc6 BK101; obtain ⟨hf17_0, hf17_1, hf17_2, hf17_3, hf17_4, hf17_5⟩ := zf6 BK101) | ((with_reducible refine gate_callee (f := 94) rfl ?_); refine zgo (some 30) Try.func94 #[.int .u64 a1_0, .int .u64 (IntKind.u64.wrap (a0_4 * 1000000000)), .int .u64 a0_2, .int .u64 t105] ?_; (with_reducible refine (weighbridgeref24_Grow.calls a1_0 (IntKind.u64.wrap (a0_4 * 1000000000)) a0_2 t105 t106 t107 t108 _ A5.out).mono ?_); rintro e w18 ⟨rfl, hb⟩; refine ⟨_, rfl, ?_⟩; replace BK101 := zs BK101 hb; replace BK102 := zs BK102 hb; replace BK103 := zs BK103 hb; replace HB := zt HB hb; (try clear hb)) | ((with_reducible refine zd 10 rfl ?_); refine zb 10 #[.int .u64 0, .int .u64 0] 42 ?_; intro gb109 hg w19 hbox hb; have BK109 := zq3 (hbox); have GW109 := ze hg HB; have GE109 := GW109; have NB101_109 := zl hg BK101; have NB109_101 := zg hg BK101; have NB102_109 := zl hg BK102; have NB109_102 := zg hg BK102; have NB103_109 := zl hg BK103; have NB109_103 := zg hg BK103; replace BK101 := zs BK101 hb; replace BK102 := zs BK102 hb; replace BK103 := zs BK103 hb; replace HB := zt HB hb; clear hb hbox hg; have hnb20 := NB109_101.out; have hnc20 := NB101_109.out; have hnb21 := NB109_102.out; have hnc21 := NB102_109.out; have hnb22 := NB109_103.out; have hnc22 := NB103_109.out; obtain ⟨hc23_0, hc23_1⟩ := zc2 BK109; obtain ⟨hf23_0, hf23_1⟩ := zf2 BK109; obtain ⟨hc24_0, hc24_1, hc24_2, hc24_3⟩ := zc4 BK102; obtain ⟨hf24_0, hf24_1, hf24_2, hf24_3⟩ := zf4 BK102; obtain ⟨hc25_0, hc25_1, hc25_2, hc25_3, hc25_4, hc25_5⟩ := zc6 BK101; obtain ⟨hf25_0, hf25_1, hf25_2, hf25_3, hf25_4, hf25_5⟩ := zf6 BK101))
  have n0_ : Aside0 (((w19.setCell ⟨gb109, 0, none⟩ (.int .u64 t107)).setCell ⟨gb109, 1, none⟩ (.int .u64 t108)).heap[gb101]? = some (.cells #[.int .i64 a0_0, .bool a0_1, .int .u64 a0_2, .int .u64 a0_3, .int .u64 a0_4, .int .u64 a0_5] 49 (0, 0))) := ⟨zw BK101⟩
  have n1_ : Aside0 (((w19.setCell ⟨gb109, 0, none⟩ (.int .u64 t107)).setCell ⟨gb109, 1, none⟩ (.int .u64 t108)).heap[gb102]? = some (.cells #[.int .u64 a1_0, .int .u64 a1_1, .int .u64 a1_2, .bool a1_3] 51 (0, 0))) := ⟨zw BK102⟩
  have n2_ : Aside0 (((w19.setCell ⟨gb109, 0, none⟩ (.int .u64 t107)).setCell ⟨gb109, 1, none⟩ (.int .u64 t108)).heap[gb103]? = some (.cells #[.int .u64 0, .int .u64 0, .int .u64 0, .bool false] 51 (0, 0))) := ⟨zw BK103⟩
  have n3_ : Aside0 (((w19.setCell ⟨gb109, 0, none⟩ (.int .u64 t107)).setCell ⟨gb109, 1, none⟩ (.int .u64 t108)).heap[gb109]? = some (.cells #[.int .u64 t107, .int .u64 t108] 42 (0, 0))) := ⟨zw2 BK109⟩
  have n4_ : Aside0 (Below w.heap.size w ((w19.setCell ⟨gb109, 0, none⟩ (.int .u64 t107)).setCell ⟨gb109, 1, none⟩ (.int .u64 t108))) := ⟨zh HB⟩
  (try clear BK101)
  (try clear BK102)
  (try clear BK103)
  (try clear BK109)
  (try clear HB)
  generalize ((w19.setCell ⟨gb109, 0, none⟩ (.int .u64 t107)).setCell ⟨gb109, 1, none⟩ (.int .u64 t108)) = w26 at n0_ n1_ n2_ n3_ n4_ ⊢
  have BK101 := n0_
  have BK102 := n1_
  have BK103 := n2_
  have BK109 := n3_
  have HB := n4_
  clear n0_ n1_ n2_ n3_ n4_
  replace BK101 := zq3 (zq2 BK101.out); replace BK102 := zq3 (zq2 BK102.out); replace BK103 := zq3 (zq2 BK103.out); replace BK109 := zq3 (zq2 BK109.out); replace HB := zq3 (zq8 HB.out)
  refine start_ (n := 10) (S := fun w' => w'.cell? ⟨gb102, 0, none⟩ = some (.int .u64 a1_0) ∧ w'.cell? ⟨gb102, 1, none⟩ = some (.int .u64 a1_1) ∧ w'.cell? ⟨gb102, 2, none⟩ = some (.int .u64 a1_2) ∧ w'.cell? ⟨gb102, 3, none⟩ = some (.bool a1_3) ∧ w'.cell? ⟨gb109, 0, none⟩ = some (.int .u64 t107) ∧ w'.cell? ⟨gb109, 1, none⟩ = some (.int .u64 t108)) (ds := []) #[false, false, false, false, false, false, false, false, false, false] (by kernel_rfl) rfl rfl ⟨(zq5 BK102.out 0).trans rfl, (zq5 BK102.out 1).trans rfl, (zq5 BK102.out 2).trans rfl, (zq5 BK102.out 3).trans rfl, (zq5 BK109.out 0).trans rfl, (zq5 BK109.out 1).trans rfl⟩ (fun hHeld => ?_); refine with_tabW weighbridgeref26_Later.tab6 weighbridgeref26_Later.bits6 (fun HT_ HW_ => ?_)
  generalize w26.drew = w27 at BK101 BK102 BK103 BK109 HB hHeld ⊢
  refine pure_ (i := 0) (N := some 45) (v := ?_) (a' := ?_) #[true, false, false, false, false, false, false, false, false, false] rfl rfl (any_of HT_.out (by kernel_rfl)) (fun _ _ _ h => h) (Or.inl ⟨by rfl, ?_⟩) ?_ ?_
  rotate_left
  ·
   intro w'
   go_simp
   with_reducible rfl
  rotate_left
  ·
   simp only [Act.put, List.setIfInBounds_toArray, List.set_cons_zero, List.set_cons_succ, i64_w, i32_w]
   rfl
  refine pure_ (i := 1) (N := some 46) (v := ?_) (a' := ?_) #[true, true, false, false, false, false, false, false, false, false] rfl rfl (any_of HT_.out (by kernel_rfl)) (fun _ _ _ h => h) (Or.inl ⟨by rfl, ?_⟩) ?_ ?_
  rotate_left
  ·
   intro w'
   go_simp
   with_reducible rfl
  rotate_left
  ·
   simp only [Act.put, List.setIfInBounds_toArray, List.set_cons_zero, List.set_cons_succ, i64_w, i32_w]
   rfl
  refine pure_ (i := 4) (N := some 49) (v := ?_) (a' := ?_) #[true, true, false, false, true, false, false, false, false, false] rfl rfl (any_of HT_.out (by kernel_rfl)) (fun _ _ _ h => h) (Or.inl ⟨by rfl, ?_⟩) ?_ ?_
  rotate_left
  ·
   intro w'
   go_simp
   with_reducible rfl
  rotate_left
  ·
   simp only [Act.put, List.setIfInBounds_toArray, List.set_cons_zero, List.set_cons_succ, i64_w, i32_w]
   rfl
  refine pure_ (i := 7) (N := some 52) (v := ?_) (a' := ?_) #[true, true, false, false, true, false, false, true, false, false] rfl rfl (any_of HT_.out (by kernel_rfl)) (fun _ _ _ h => h) (Or.inl ⟨by rfl, ?_⟩) ?_ ?_
  rotate_left
  ·
   intro w'
   go_simp
   with_reducible rfl
  rotate_left
  ·
   simp only [Act.put, List.setIfInBounds_toArray, List.set_cons_zero, List.set_cons_succ, i64_w, i32_w]
   rfl
  refine take_ (i := 2) (N := some 47) (v := ?_) (a' := ?_) #[true, true, true, false, true, false, false, true, false, false] rfl rfl (take_ofW HT_.out HW_.out (by kernel_rfl)) (fun _ _ _ h => h) (Or.inl ⟨by rfl, ?_⟩) hHeld ?_ ?_
  rotate_left
  ·
   rintro w' ⟨s0, s1, s2, s3, s4, s5⟩
   go_simp
   with_reducible rfl
  rotate_left
  ·
   simp only [Act.put, List.setIfInBounds_toArray, List.set_cons_zero, List.set_cons_succ, i64_w, i32_w]
   rfl
  refine take_ (i := 3) (N := some 48) (v := ?_) (a' := ?_) #[true, true, true, true, true, false, false, true, false, false] rfl rfl (take_ofW HT_.out HW_.out (by kernel_rfl)) (fun _ _ _ h => h) (Or.inl ⟨by rfl, ?_⟩) hHeld ?_ ?_
  rotate_left
  ·
   rintro w' ⟨s0, s1, s2, s3, s4, s5⟩
   go_simp
   with_reducible rfl
  rotate_left
  ·
   simp only [Act.put, List.setIfInBounds_toArray, List.set_cons_zero, List.set_cons_succ, i64_w, i32_w]
   rfl
  refine one_ (i := 5) (N := some 50) #[true, true, true, true, true, true, false, true, false, false] rfl rfl (one_of HT_.out (by kernel_rfl)) (by decide) (fun K hK => ?_)
  refine goes_ Try.func96 (by kernel_rfl) rfl #[.agg #[.int .u64 t107, .int .u64 t108], .int .u64 (IntKind.u64.wrap ((IntKind.u64.wrap (a0_5 * 1000000000)) - a1_1))] (by rfl) rfl rfl (by (try simp only [List.map_toArray, List.map_cons, List.map_nil]); first | done | rfl | (simp only [List.length_drop, List.length_take]; rfl)) ?_
  with_reducible refine (weighbridgeref02_Cap.calls t107 t108 (IntKind.u64.wrap ((IntKind.u64.wrap (a0_5 * 1000000000)) - a1_1)) t110 _ A7.out).mono ?_
  rintro e w28 ⟨rfl, hb⟩
  refine ⟨_, rfl, ?_⟩
  replace BK101 := zs BK101 hb; replace BK102 := zs BK102 hb; replace BK103 := zs BK103 hb; replace BK109 := zs BK109 hb; replace HB := zt HB hb
  (try clear hb)
  (try clear hb2)
  (try clear hk)
  (try clear hi)
  refine hK.out _ _ ⟨(zq5 BK102.out 0).trans rfl, (zq5 BK102.out 1).trans rfl, (zq5 BK102.out 2).trans rfl, (zq5 BK102.out 3).trans rfl, (zq5 BK109.out 0).trans rfl, (zq5 BK109.out 1).trans rfl⟩ (fun hHeld => ?_)
  clear hK K
  refine norm_ (a' := ?_) ?_ ?_
  rotate_left
  ·
   show Act.put _ (some 50) _ = _
   simp only [Act.put, List.setIfInBounds_toArray, List.set_cons_zero, List.set_cons_succ, i64_w, i32_w]
   rfl
  refine pure_ (i := 6) (N := some 51) (v := ?_) (a' := ?_) #[true, true, true, true, true, true, true, true, false, false] rfl rfl (any_of HT_.out (by kernel_rfl)) (fun _ _ _ h => h) (Or.inl ⟨by rfl, ?_⟩) ?_ ?_
  rotate_left
  ·
   intro w'
   go_simp
   with_reducible rfl
  rotate_left
  ·
   simp only [Act.put, List.setIfInBounds_toArray, List.set_cons_zero, List.set_cons_succ, i64_w, i32_w]
   rfl
  refine pure_ (i := 8) (N := some 53) (v := ?_) (a' := ?_) #[true, true, true, true, true, true, true, true, true, false] rfl rfl (any_of HT_.out (by kernel_rfl)) (fun _ _ _ h => h) (Or.inl ⟨by rfl, ?_⟩) ?_ ?_
  rotate_left
  ·
   intro w'
   go_simp
   with_reducible rfl
  rotate_left
  ·
   simp only [Act.put, List.setIfInBounds_toArray, List.set_cons_zero, List.set_cons_succ, i64_w, i32_w]
   rfl
  refine one_ (i := 9) (N := none) #[true, true, true, true, true, true, true, true, true, true] rfl rfl (one_of HT_.out (by kernel_rfl)) (by decide) (fun K hK => ?_)
  have hs29 : w28.cell? ⟨gb103, 0, none⟩ = some (.int .u64 0) := (zq5 BK103.out 0).trans rfl
  have hfs29 := zq4 BK103.out 0
  have hns29_0 := NB101_103.out
  have hns29_1 := NB102_103.out
  have hns29_3 := NB109_103.out
  have hms29_0 := NB103_101.out
  have hms29_1 := NB103_102.out
  have hms29_3 := NB103_109.out
  have hs30 : w28.cell? ⟨gb103, 1, none⟩ = some (.int .u64 0) := (zq5 BK103.out 1).trans rfl
  have hfs30 := zq4 BK103.out 1
  have hns30_0 := NB101_103.out
  have hns30_1 := NB102_103.out
  have hns30_3 := NB109_103.out
  have hms30_0 := NB103_101.out
  have hms30_1 := NB103_102.out
  have hms30_3 := NB103_109.out
  have hs31 : w28.cell? ⟨gb103, 2, none⟩ = some (.int .u64 0) := (zq5 BK103.out 2).trans rfl
  have hfs31 := zq4 BK103.out 2
  have hns31_0 := NB101_103.out
  have hns31_1 := NB102_103.out
  have hns31_3 := NB109_103.out
  have hms31_0 := NB103_101.out
  have hms31_1 := NB103_102.out
  have hms31_3 := NB103_109.out
  have hs32 : w28.cell? ⟨gb103, 3, none⟩ = some (.bool false) := (zq5 BK103.out 3).trans rfl
  have hfs32 := zq4 BK103.out 3
  have hns32_0 := NB101_103.out
  have hns32_1 := NB102_103.out
  have hns32_3 := NB109_103.out
  have hms32_0 := NB103_101.out
  have hms32_1 := NB103_102.out
  have hms32_3 := NB103_109.out
  refine skip_ (w1 := ?_) (by rfl) rfl ?_ ?_
  rotate_left
  ·
   go_simp
   rfl
  refine hK.out _ _ ⟨((cell_far (p := ⟨gb103, _, none⟩) NB102_103.out _).trans (((cell_far (p := ⟨gb103, _, none⟩) NB102_103.out _).trans (((cell_far (p := ⟨gb103, _, none⟩) NB102_103.out _).trans (((cell_far (p := ⟨gb103, _, none⟩) NB102_103.out _).trans (hHeld.1)))))))), ((cell_far (p := ⟨gb103, _, none⟩) NB102_103.out _).trans (((cell_far (p := ⟨gb103, _, none⟩) NB102_103.out _).trans (((cell_far (p := ⟨gb103, _, none⟩) NB102_103.out _).trans (((cell_far (p := ⟨gb103, _, none⟩) NB102_103.out _).trans (hHeld.2.1)))))))), ((cell_far (p := ⟨gb103, _, none⟩) NB102_103.out _).trans (((cell_far (p := ⟨gb103, _, none⟩) NB102_103.out _).trans (((cell_far (p := ⟨gb103, _, none⟩) NB102_103.out _).trans (((cell_far (p := ⟨gb103, _, none⟩) NB102_103.out _).trans (hHeld.2.2.1)))))))), ((cell_far (p := ⟨gb103, _, none⟩) NB102_103.out _).trans (((cell_far (p := ⟨gb103, _, none⟩) NB102_103.out _).trans (((cell_far (p := ⟨gb103, _, none⟩) NB102_103.out _).trans (((cell_far (p := ⟨gb103, _, none⟩) NB102_103.out _).trans (hHeld.2.2.2.1)))))))), ((cell_far (p := ⟨gb103, _, none⟩) NB109_103.out _).trans (((cell_far (p := ⟨gb103, _, none⟩) NB109_103.out _).trans (((cell_far (p := ⟨gb103, _, none⟩) NB109_103.out _).trans (((cell_far (p := ⟨gb103, _, none⟩) NB109_103.out _).trans (hHeld.2.2.2.2.1)))))))), ((cell_far (p := ⟨gb103, _, none⟩) NB109_103.out _).trans (((cell_far (p := ⟨gb103, _, none⟩) NB109_103.out _).trans (((cell_far (p := ⟨gb103, _, none⟩) NB109_103.out _).trans (((cell_far (p := ⟨gb103, _, none⟩) NB109_103.out _).trans (hHeld.2.2.2.2.2))))))))⟩ (fun hHeld => ?_)
  clear hK K
  refine done_ (done_of HT_.out (by kernel_rfl)) ?_
  try go_wp2
  refine bodyPost_ret (results_cell_row rfl _ _ gb103 51 #[.int .u64 t106, .int .u64 (IntKind.u64.wrap (a1_1 + t110)), .int .u64 t104, .bool true] (0, 0) _ rfl (zw4 BK103) Try.underlying51 rfl (by kernel_rfl)) rfl ?_
  exact ⟨by first | rfl | (simp [errW_none, errW_some] <;> rfl) | (simp [*, errW_none, errW_some] <;> rfl), zh HB⟩
 ·
  rw [if_neg c6] at H
  have c6b0 : decide (a1_1 < (IntKind.u64.wrap (a0_5 * 1000000000))) = false := decide_eq_false c6
  clear c6
  replace H := Option.bind_eq_some_iff.mp H
  obtain ⟨t111, A330, H⟩ := H
  replace H : (some (t106, IntKind.u64.wrap (a1_1 + t111), t104, true)) = some (r1, r2, r3, r4) := H
  have A33 := zq3 A330
  clear A330
  simp only [Option.some.injEq, Prod.mk.injEq] at H
  obtain ⟨rfl, rfl, rfl, rfl⟩ := H
  go_enter Try.func92, Try.ntmps92
  try go_wp2_with (first | ((with_reducible refine zd 3 rfl ?_); refine zb 3 #[.int .i64 a0_0, .bool a0_1, .int .u64 a0_2, .int .u64 a0_3, .int .u64 a0_4, .int .u64 a0_5] 49 ?_; intro gb101 hg w34 hbox hb; have BK101 := zq3 (hbox); have GW101 := ze hg HB; have GE101 := GW101; replace HB := zt HB hb; clear hb hbox hg) | ((with_reducible refine zd 4 rfl ?_); refine zb 4 #[.int .u64 a1_0, .int .u64 a1_1, .int .u64 a1_2, .bool a1_3] 51 ?_; intro gb102 hg w35 hbox hb; have BK102 := zq3 (hbox); have GW102 := ze hg HB; have GE102 := GW102; have NB101_102 := zl hg BK101; have NB102_101 := zg hg BK101; replace BK101 := zs BK101 hb; replace HB := zt HB hb; clear hb hbox hg) | ((with_reducible refine zd 6 rfl ?_); refine zb 6 #[.int .u64 0, .int .u64 0, .int .u64 0, .bool false] 51 ?_; intro gb103 hg w36 hbox hb; have BK103 := zq3 (hbox); have GW103 := ze hg HB; have GE103 := GW103; have NB101_103 := zl hg BK101; have NB103_101 := zg hg BK101; have NB102_103 := zl hg BK102; have NB103_102 := zg hg BK102; replace BK101 := zs BK101 hb; replace BK102 := zs BK102 hb; replace HB := zt HB hb; clear hb hbox hg; have hnb37 := NB102_101.out; have hnc37 := NB101_102.out; have hnb38 := NB102_103.out; have hnc38 := NB103_102.out; obtain ⟨hc39_0, hc39_1, hc39_2, hc39_3⟩ := zc4 BK102; obtain ⟨hf39_0, hf39_1, hf39_2, hf39_3⟩ := zf4 BK102) | ((with_reducible refine gate_callee (f := 93) rfl ?_); refine zgo (some 18) Try.func93 #[.int .u64 a1_2, .bool a1_3, .int .u64 a2] ?_; (with_reducible refine (weighbridgeref25_Step.calls a1_2 a1_3 a2 t104 t105 _ A4.out).mono ?_); rintro e w40 ⟨rfl, hb⟩; refine ⟨_, rfl, ?_⟩; replace BK101 := zs BK101 hb; replace BK102 := zs BK102 hb; replace BK103 := zs BK103 hb; replace HB := zt HB hb; (try clear hb); obtain ⟨hc41_0, hc41_1, hc41_2, hc41_3⟩ := zc4 BK102; obtain ⟨hf41_0, hf41_1, hf41_2, hf41_3⟩ := zf4 BK102; have hnb42 := NB101_103.out; have hnc42 := NB103_101.out; obtain ⟨hc43_0, hc43_1, hc43_2, hc43_3, hc43_4, hc43_5⟩ := zc6 BK101; obtain ⟨hf43_0, hf43_1, hf43_2, hf43_3, hf43_4, hf43_5⟩ := zf6 BK101) | ((with_reducible refine gate_callee (f := 94) rfl ?_); refine zgo (some 30) Try.func94 #[.int .u64 a1_0, .int .u64 (IntKind.u64.wrap (a0_4 * 1000000000)), .int .u64 a0_2, .int .u64 t105] ?_; (with_reducible refine (weighbridgeref24_Grow.calls a1_0 (IntKind.u64.wrap (a0_4 * 1000000000)) a0_2 t105 t106 t107 t108 _ A5.out).mono ?_); rintro e w44 ⟨rfl, hb⟩; refine ⟨_, rfl, ?_⟩; replace BK101 := zs BK101 hb; replace BK102 := zs BK102 hb; replace BK103 := zs BK103 hb; replace HB := zt HB hb; (try clear hb)) | ((with_reducible refine zd 10 rfl ?_); refine zb 10 #[.int .u64 0, .int .u64 0] 42 ?_; intro gb109 hg w45 hbox hb; have BK109 := zq3 (hbox); have GW109 := ze hg HB; have GE109 := GW109; have NB101_109 := zl hg BK101; have NB109_101 := zg hg BK101; have NB102_109 := zl hg BK102; have NB109_102 := zg hg BK102; have NB103_109 := zl hg BK103; have NB109_103 := zg hg BK103; replace BK101 := zs BK101 hb; replace BK102 := zs BK102 hb; replace BK103 := zs BK103 hb; replace HB := zt HB hb; clear hb hbox hg; have hnb46 := NB109_101.out; have hnc46 := NB101_109.out; have hnb47 := NB109_102.out; have hnc47 := NB102_109.out; have hnb48 := NB109_103.out; have hnc48 := NB103_109.out; obtain ⟨hc49_0, hc49_1⟩ := zc2 BK109; obtain ⟨hf49_0, hf49_1⟩ := zf2 BK109; obtain ⟨hc50_0, hc50_1, hc50_2, hc50_3⟩ := zc4 BK102; obtain ⟨hf50_0, hf50_1, hf50_2, hf50_3⟩ := zf4 BK102; obtain ⟨hc51_0, hc51_1, hc51_2, hc51_3, hc51_4, hc51_5⟩ := zc6 BK101; obtain ⟨hf51_0, hf51_1, hf51_2, hf51_3, hf51_4, hf51_5⟩ := zf6 BK101))
  have n0_ : Aside0 (((w45.setCell ⟨gb109, 0, none⟩ (.int .u64 t107)).setCell ⟨gb109, 1, none⟩ (.int .u64 t108)).heap[gb101]? = some (.cells #[.int .i64 a0_0, .bool a0_1, .int .u64 a0_2, .int .u64 a0_3, .int .u64 a0_4, .int .u64 a0_5] 49 (0, 0))) := ⟨zw BK101⟩
  have n1_ : Aside0 (((w45.setCell ⟨gb109, 0, none⟩ (.int .u64 t107)).setCell ⟨gb109, 1, none⟩ (.int .u64 t108)).heap[gb102]? = some (.cells #[.int .u64 a1_0, .int .u64 a1_1, .int .u64 a1_2, .bool a1_3] 51 (0, 0))) := ⟨zw BK102⟩
  have n2_ : Aside0 (((w45.setCell ⟨gb109, 0, none⟩ (.int .u64 t107)).setCell ⟨gb109, 1, none⟩ (.int .u64 t108)).heap[gb103]? = some (.cells #[.int .u64 0, .int .u64 0, .int .u64 0, .bool false] 51 (0, 0))) := ⟨zw BK103⟩
  have n3_ : Aside0 (((w45.setCell ⟨gb109, 0, none⟩ (.int .u64 t107)).setCell ⟨gb109, 1, none⟩ (.int .u64 t108)).heap[gb109]? = some (.cells #[.int .u64 t107, .int .u64 t108] 42 (0, 0))) := ⟨zw2 BK109⟩
  have n4_ : Aside0 (Below w.heap.size w ((w45.setCell ⟨gb109, 0, none⟩ (.int .u64 t107)).setCell ⟨gb109, 1, none⟩ (.int .u64 t108))) := ⟨zh HB⟩
  (try clear BK101)
  (try clear BK102)
  (try clear BK103)
  (try clear BK109)
  (try clear HB)
  generalize ((w45.setCell ⟨gb109, 0, none⟩ (.int .u64 t107)).setCell ⟨gb109, 1, none⟩ (.int .u64 t108)) = w52 at n0_ n1_ n2_ n3_ n4_ ⊢
  have BK101 := n0_
  have BK102 := n1_
  have BK103 := n2_
  have BK109 := n3_
  have HB := n4_
  clear n0_ n1_ n2_ n3_ n4_
  replace BK101 := zq3 (zq2 BK101.out); replace BK102 := zq3 (zq2 BK102.out); replace BK103 := zq3 (zq2 BK103.out); replace BK109 := zq3 (zq2 BK109.out); replace HB := zq3 (zq8 HB.out)
  refine start_ (n := 10) (S := fun w' => w'.cell? ⟨gb102, 0, none⟩ = some (.int .u64 a1_0) ∧ w'.cell? ⟨gb102, 1, none⟩ = some (.int .u64 a1_1) ∧ w'.cell? ⟨gb102, 2, none⟩ = some (.int .u64 a1_2) ∧ w'.cell? ⟨gb102, 3, none⟩ = some (.bool a1_3) ∧ w'.cell? ⟨gb109, 0, none⟩ = some (.int .u64 t107) ∧ w'.cell? ⟨gb109, 1, none⟩ = some (.int .u64 t108)) (ds := []) #[false, false, false, false, false, false, false, false, false, false] (by kernel_rfl) rfl rfl ⟨(zq5 BK102.out 0).trans rfl, (zq5 BK102.out 1).trans rfl, (zq5 BK102.out 2).trans rfl, (zq5 BK102.out 3).trans rfl, (zq5 BK109.out 0).trans rfl, (zq5 BK109.out 1).trans rfl⟩ (fun hHeld => ?_); refine with_tabW weighbridgeref26_Later.tab6 weighbridgeref26_Later.bits6 (fun HT_ HW_ => ?_)
  generalize w52.drew = w53 at BK101 BK102 BK103 BK109 HB hHeld ⊢
  refine pure_ (i := 0) (N := some 45) (v := ?_) (a' := ?_) #[true, false, false, false, false, false, false, false, false, false] rfl rfl (any_of HT_.out (by kernel_rfl)) (fun _ _ _ h => h) (Or.inl ⟨by rfl, ?_⟩) ?_ ?_
  rotate_left
  ·
   intro w'
   go_simp
   with_reducible rfl
  rotate_left
  ·
   simp only [Act.put, List.setIfInBounds_toArray, List.set_cons_zero, List.set_cons_succ, i64_w, i32_w]
   rfl
  refine pure_ (i := 1) (N := some 46) (v := ?_) (a' := ?_) #[true, true, false, false, false, false, false, false, false, false] rfl rfl (any_of HT_.out (by kernel_rfl)) (fun _ _ _ h => h) (Or.inl ⟨by rfl, ?_⟩) ?_ ?_
  rotate_left
  ·
   intro w'
   go_simp
   with_reducible rfl
  rotate_left
  ·
   simp only [Act.put, List.setIfInBounds_toArray, List.set_cons_zero, List.set_cons_succ, i64_w, i32_w]
   rfl
  refine pure_ (i := 4) (N := some 49) (v := ?_) (a' := ?_) #[true, true, false, false, true, false, false, false, false, false] rfl rfl (any_of HT_.out (by kernel_rfl)) (fun _ _ _ h => h) (Or.inl ⟨by rfl, ?_⟩) ?_ ?_
  rotate_left
  ·
   intro w'
   go_simp
   with_reducible rfl
  rotate_left
  ·
   simp only [Act.put, List.setIfInBounds_toArray, List.set_cons_zero, List.set_cons_succ, i64_w, i32_w]
   rfl
  refine pure_ (i := 7) (N := some 52) (v := ?_) (a' := ?_) #[true, true, false, false, true, false, false, true, false, false] rfl rfl (any_of HT_.out (by kernel_rfl)) (fun _ _ _ h => h) (Or.inl ⟨by rfl, ?_⟩) ?_ ?_
  rotate_left
  ·
   intro w'
   go_simp
   with_reducible rfl
  rotate_left
  ·
   simp only [Act.put, List.setIfInBounds_toArray, List.set_cons_zero, List.set_cons_succ, i64_w, i32_w]
   rfl
  refine take_ (i := 2) (N := some 47) (v := ?_) (a' := ?_) #[true, true, true, false, true, false, false, true, false, false] rfl rfl (take_ofW HT_.out HW_.out (by kernel_rfl)) (fun _ _ _ h => h) (Or.inl ⟨by rfl, ?_⟩) hHeld ?_ ?_
  rotate_left
  ·
   rintro w' ⟨s0, s1, s2, s3, s4, s5⟩
   go_simp
   with_reducible rfl
  rotate_left
  ·
   simp only [Act.put, List.setIfInBounds_toArray, List.set_cons_zero, List.set_cons_succ, i64_w, i32_w]
   rfl
  refine take_ (i := 3) (N := some 48) (v := ?_) (a' := ?_) #[true, true, true, true, true, false, false, true, false, false] rfl rfl (take_ofW HT_.out HW_.out (by kernel_rfl)) (fun _ _ _ h => h) (Or.inl ⟨by rfl, ?_⟩) hHeld ?_ ?_
  rotate_left
  ·
   rintro w' ⟨s0, s1, s2, s3, s4, s5⟩
   go_simp
   with_reducible rfl
  rotate_left
  ·
   simp only [Act.put, List.setIfInBounds_toArray, List.set_cons_zero, List.set_cons_succ, i64_w, i32_w]
   rfl
  refine one_ (i := 5) (N := some 50) #[true, true, true, true, true, true, false, true, false, false] rfl rfl (one_of HT_.out (by kernel_rfl)) (by decide) (fun K hK => ?_)
  refine goes_ Try.func96 (by kernel_rfl) rfl #[.agg #[.int .u64 t107, .int .u64 t108], .int .u64 0] (by rfl) rfl rfl (by (try simp only [List.map_toArray, List.map_cons, List.map_nil]); first | done | rfl | (simp only [List.length_drop, List.length_take]; rfl)) ?_
  with_reducible refine (weighbridgeref02_Cap.calls t107 t108 0 t111 _ A33.out).mono ?_
  rintro e w54 ⟨rfl, hb⟩
  refine ⟨_, rfl, ?_⟩
  replace BK101 := zs BK101 hb; replace BK102 := zs BK102 hb; replace BK103 := zs BK103 hb; replace BK109 := zs BK109 hb; replace HB := zt HB hb
  (try clear hb)
  (try clear hb2)
  (try clear hk)
  (try clear hi)
  refine hK.out _ _ ⟨(zq5 BK102.out 0).trans rfl, (zq5 BK102.out 1).trans rfl, (zq5 BK102.out 2).trans rfl, (zq5 BK102.out 3).trans rfl, (zq5 BK109.out 0).trans rfl, (zq5 BK109.out 1).trans rfl⟩ (fun hHeld => ?_)
  clear hK K
  refine norm_ (a' := ?_) ?_ ?_
  rotate_left
  ·
   show Act.put _ (some 50) _ = _
   simp only [Act.put, List.setIfInBounds_toArray, List.set_cons_zero, List.set_cons_succ, i64_w, i32_w]
   rfl
  refine pure_ (i := 6) (N := some 51) (v := ?_) (a' := ?_) #[true, true, true, true, true, true, true, true, false, false] rfl rfl (any_of HT_.out (by kernel_rfl)) (fun _ _ _ h => h) (Or.inl ⟨by rfl, ?_⟩) ?_ ?_
  rotate_left
  ·
   intro w'
   go_simp
   with_reducible rfl
  rotate_left
  ·
   simp only [Act.put, List.setIfInBounds_toArray, List.set_cons_zero, List.set_cons_succ, i64_w, i32_w]
   rfl
  refine pure_ (i := 8) (N := some 53) (v := ?_) (a' := ?_) #[true, true, true, true, true, true, true, true, true, false] rfl rfl (any_of HT_.out (by kernel_rfl)) (fun _ _ _ h => h) (Or.inl ⟨by rfl, ?_⟩) ?_ ?_
  rotate_left
  ·
   intro w'
   go_simp
   with_reducible rfl
  rotate_left
  ·
   simp only [Act.put, List.setIfInBounds_toArray, List.set_cons_zero, List.set_cons_succ, i64_w, i32_w]
   rfl
  refine one_ (i := 9) (N := none) #[true, true, true, true, true, true, true, true, true, true] rfl rfl (one_of HT_.out (by kernel_rfl)) (by decide) (fun K hK => ?_)
  have hs55 : w54.cell? ⟨gb103, 0, none⟩ = some (.int .u64 0) := (zq5 BK103.out 0).trans rfl
  have hfs55 := zq4 BK103.out 0
  have hns55_0 := NB101_103.out
  have hns55_1 := NB102_103.out
  have hns55_3 := NB109_103.out
  have hms55_0 := NB103_101.out
  have hms55_1 := NB103_102.out
  have hms55_3 := NB103_109.out
  have hs56 : w54.cell? ⟨gb103, 1, none⟩ = some (.int .u64 0) := (zq5 BK103.out 1).trans rfl
  have hfs56 := zq4 BK103.out 1
  have hns56_0 := NB101_103.out
  have hns56_1 := NB102_103.out
  have hns56_3 := NB109_103.out
  have hms56_0 := NB103_101.out
  have hms56_1 := NB103_102.out
  have hms56_3 := NB103_109.out
  have hs57 : w54.cell? ⟨gb103, 2, none⟩ = some (.int .u64 0) := (zq5 BK103.out 2).trans rfl
  have hfs57 := zq4 BK103.out 2
  have hns57_0 := NB101_103.out
  have hns57_1 := NB102_103.out
  have hns57_3 := NB109_103.out
  have hms57_0 := NB103_101.out
  have hms57_1 := NB103_102.out
  have hms57_3 := NB103_109.out
  have hs58 : w54.cell? ⟨gb103, 3, none⟩ = some (.bool false) := (zq5 BK103.out 3).trans rfl
  have hfs58 := zq4 BK103.out 3
  have hns58_0 := NB101_103.out
  have hns58_1 := NB102_103.out
  have hns58_3 := NB109_103.out
  have hms58_0 := NB103_101.out
  have hms58_1 := NB103_102.out
  have hms58_3 := NB103_109.out
  refine skip_ (w1 := ?_) (by rfl) rfl ?_ ?_
  rotate_left
  ·
   go_simp
   rfl
  refine hK.out _ _ ⟨((cell_far (p := ⟨gb103, _, none⟩) NB102_103.out _).trans (((cell_far (p := ⟨gb103, _, none⟩) NB102_103.out _).trans (((cell_far (p := ⟨gb103, _, none⟩) NB102_103.out _).trans (((cell_far (p := ⟨gb103, _, none⟩) NB102_103.out _).trans (hHeld.1)))))))), ((cell_far (p := ⟨gb103, _, none⟩) NB102_103.out _).trans (((cell_far (p := ⟨gb103, _, none⟩) NB102_103.out _).trans (((cell_far (p := ⟨gb103, _, none⟩) NB102_103.out _).trans (((cell_far (p := ⟨gb103, _, none⟩) NB102_103.out _).trans (hHeld.2.1)))))))), ((cell_far (p := ⟨gb103, _, none⟩) NB102_103.out _).trans (((cell_far (p := ⟨gb103, _, none⟩) NB102_103.out _).trans (((cell_far (p := ⟨gb103, _, none⟩) NB102_103.out _).trans (((cell_far (p := ⟨gb103, _, none⟩) NB102_103.out _).trans (hHeld.2.2.1)))))))), ((cell_far (p := ⟨gb103, _, none⟩) NB102_103.out _).trans (((cell_far (p := ⟨gb103, _, none⟩) NB102_103.out _).trans (((cell_far (p := ⟨gb103, _, none⟩) NB102_103.out _).trans (((cell_far (p := ⟨gb103, _, none⟩) NB102_103.out _).trans (hHeld.2.2.2.1)))))))), ((cell_far (p := ⟨gb103, _, none⟩) NB109_103.out _).trans (((cell_far (p := ⟨gb103, _, none⟩) NB109_103.out _).trans (((cell_far (p := ⟨gb103, _, none⟩) NB109_103.out _).trans (((cell_far (p := ⟨gb103, _, none⟩) NB109_103.out _).trans (hHeld.2.2.2.2.1)))))))), ((cell_far (p := ⟨gb103, _, none⟩) NB109_103.out _).trans (((cell_far (p := ⟨gb103, _, none⟩) NB109_103.out _).trans (((cell_far (p := ⟨gb103, _, none⟩) NB109_103.out _).trans (((cell_far (p := ⟨gb103, _, none⟩) NB109_103.out _).trans (hHeld.2.2.2.2.2))))))))⟩ (fun hHeld => ?_)
  clear hK K
  refine done_ (done_of HT_.out (by kernel_rfl)) ?_
  try go_wp2
  refine bodyPost_ret (results_cell_row rfl _ _ gb103 51 #[.int .u64 t106, .int .u64 (IntKind.u64.wrap (a1_1 + t111)), .int .u64 t104, .bool true] (0, 0) _ rfl (zw4 BK103) Try.underlying51 rfl (by kernel_rfl)) rfl ?_
  exact ⟨by first | rfl | (simp [errW_none, errW_some] <;> rfl) | (simp [*, errW_none, errW_some] <;> rfl), zh HB⟩

end Go.Proofs.Ytiaoaoebghnpkaa.P
end
section
namespace Go.Proofs.Ytiaoaoebghnpkaa.P
open Go.RowKit Go.Proofs.YtiaoaoebghnpkaaW.PrintWords Go.Proofs.YtiaoaoebghnpkaaW.PrintLast Go.Proofs.YtiaoaoebghnpkaaW.PrintMore
attribute [local go_sem] max2_int min2_int max_two min_two max_three min_three max_four min_four   -- for this text's walks alone
set_option linter.unusedVariables false
set_option linter.unusedSimpArgs false

/-! ### weighbridgeref26_Step: function 86 -/
mutual
def weighbridgeref26_Step.j0 : Nat → Int → Int → Int → Bool → Int → Bool → Int → Int → Int → Int → Int → Int → Int → Bool → Option (Int × Int × Int × Bool × Int)
 | 0, _, _, _, _, _, _, _, _, _, _, _, _, _, _ => none
 | k + 1, x2, x3, x4, x24, x102000, x102001, x102002, x102003, x102004, x102005, x103000, x103001, x103002, x103003 => if x24 = true then (some (x103000, x103001, x103002, x103003, 2)) else ((weighbridgeref26_Later.f x102000 x102001 x102002 x102003 x102004 x102005 x103000 x103001 x103002 x103003 x2).bind fun bt105 => ((weighbridgeref26_Colour.f x102001 x4).bind fun t110 => ((weighbridgeref24_Take.f bt105.1 x3).bind fun bt111 => (if bt111.2 = true then (weighbridgeref26_Step.j1 k x3 t110 bt111.1 (t110 == 0) bt105.1 bt105.2.1 bt105.2.2.1 bt105.2.2.2) else (weighbridgeref26_Step.j1 k x3 t110 bt111.1 false bt105.1 bt105.2.1 bt105.2.2.1 bt105.2.2.2)))))
def weighbridgeref26_Step.j1 : Nat → Int → Int → Int → Bool → Int → Int → Int → Bool → Option (Int × Int × Int × Bool × Int)
 | 0, _, _, _, _, _, _, _, _ => none
 | k + 1, x3, x13, x14, x45, x110000, x110001, x110002, x110003 => if x45 = true then (some (x14, x110001, x110002, x110003, 0)) else ((weighbridgeref24_Take.f x110001 x3).bind fun bt113 => (if bt113.2 = true then (if x13 = 2 then (some (x110000, x110001, x110002, x110003, 2)) else (some (x110000, bt113.1, x110002, x110003, 1))) else (some (x110000, x110001, x110002, x110003, 2))))
end
def weighbridgeref26_Step.f (k : Nat) (a0_0 : Int) (a0_1 : Bool) (a0_2 : Int) (a0_3 : Int) (a0_4 : Int) (a0_5 : Int) (a1_0 : Int) (a1_1 : Int) (a1_2 : Int) (a1_3 : Bool) (a2 : Int) (a3 : Int) (a4 : Int) : Option (Int × Int × Int × Bool × Int) := (weighbridgeref26_Check.f k a0_0 a0_1 a0_2 a0_3 a0_4 a0_5).bind fun t104 => (if t104 = 0 then (weighbridgeref26_Step.j0 k a2 a3 a4 (decide (a3 < 0)) a0_0 a0_1 a0_2 a0_3 a0_4 a0_5 a1_0 a1_1 a1_2 a1_3) else (weighbridgeref26_Step.j0 k a2 a3 a4 true a0_0 a0_1 a0_2 a0_3 a0_4 a0_5 a1_0 a1_1 a1_2 a1_3))
set_option maxHeartbeats 8000000 in
set_option maxRecDepth 100000 in
theorem weighbridgeref26_Step.calls (k : Nat) (a0_0 : Int) (a0_1 : Bool) (a0_2 : Int) (a0_3 : Int) (a0_4 : Int) (a0_5 : Int) (a1_0 : Int) (a1_1 : Int) (a1_2 : Int) (a1_3 : Bool) (a2 : Int) (a3 : Int) (a4 : Int) (r1 : Int) (r2 : Int) (r3 : Int) (r4 : Bool) (r5 : Int) (w : World) (h : weighbridgeref26_Step.f k a0_0 a0_1 a0_2 a0_3 a0_4 a0_5 a1_0 a1_1 a1_2 a1_3 a2 a3 a4 = some (r1, r2, r3, r4, r5)) :
  Calls Try.prog 86 #[.agg #[.int .i64 a0_0, .bool a0_1, .int .u64 a0_2, .int .u64 a0_3, .int .u64 a0_4, .int .u64 a0_5], .agg #[.int .u64 a1_0, .int .u64 a1_1, .int .u64 a1_2, .bool a1_3], .int .u64 a2, .int .i64 a3, .int .i64 a4] w fun e w' => e = .returned (.tuple #[.agg #[.int .u64 r1, .int .u64 r2, .int .u64 r3, .bool r4], .int .i64 r5]) ∧ Below w.heap.size w w' := by
 have hu49 := Try.underlying49
 have hu51 := Try.underlying51
 have HB := zq3 (Below.refl w.heap.size w)
 have H : ((weighbridgeref26_Check.f k a0_0 a0_1 a0_2 a0_3 a0_4 a0_5).bind fun t104 => (if t104 = 0 then (weighbridgeref26_Step.j0 k a2 a3 a4 (decide (a3 < 0)) a0_0 a0_1 a0_2 a0_3 a0_4 a0_5 a1_0 a1_1 a1_2 a1_3) else (weighbridgeref26_Step.j0 k a2 a3 a4 true a0_0 a0_1 a0_2 a0_3 a0_4 a0_5 a1_0 a1_1 a1_2 a1_3))) = some (r1, r2, r3, r4, r5) := h
 clear h
 have HC6 := zq3 H
 clear H
 go_enter Try.func86, Try.ntmps86
 go_upto_region 1 with (first | ((with_reducible refine zd 5 rfl ?_); refine zb 5 #[.int .i64 a0_0, .bool a0_1, .int .u64 a0_2, .int .u64 a0_3, .int .u64 a0_4, .int .u64 a0_5] 49 ?_; intro gb101 hg w7 hbox hb; have BK101 := zq3 (hbox); have GW101 := ze hg HB; have GE101 := GW101; replace HB := zt HB hb; clear hb hbox hg) | ((with_reducible refine zd 6 rfl ?_); refine zb 6 #[.int .u64 a1_0, .int .u64 a1_1, .int .u64 a1_2, .bool a1_3] 51 ?_; intro gb102 hg w8 hbox hb; have BK102 := zq3 (hbox); have GW102 := ze hg HB; have GE102 := GW102; have NB101_102 := zl hg BK101; have NB102_101 := zg hg BK101; replace BK101 := zs BK101 hb; replace HB := zt HB hb; clear hb hbox hg) | ((with_reducible refine zd 10 rfl ?_); refine zb 10 #[.int .u64 0, .int .u64 0, .int .u64 0, .bool false] 51 ?_; intro gb103 hg w9 hbox hb; have BK103 := zq3 (hbox); have GW103 := ze hg HB; have GE103 := GW103; have NB101_103 := zl hg BK101; have NB103_101 := zg hg BK101; have NB102_103 := zl hg BK102; have NB103_102 := zg hg BK102; replace BK101 := zs BK101 hb; replace BK102 := zs BK102 hb; replace HB := zt HB hb; clear hb hbox hg))
 (try simp only [Act.put, List.setIfInBounds_toArray, List.set_cons_zero, List.set_cons_succ])
 go_cut [24] (fun v24 wc => ∃ (kq : Nat) (x24_5 : Bool), v24 = .bool x24_5 ∧ Aside0 (weighbridgeref26_Step.j0 kq a2 a3 a4 x24_5 a0_0 a0_1 a0_2 a0_3 a0_4 a0_5 a1_0 a1_1 a1_2 a1_3 = some (r1, r2, r3, r4, r5)) ∧ Aside0 (kq ≤ k) ∧ Aside0 (wc.heap[gb101]? = some (.cells #[.int .i64 a0_0, .bool a0_1, .int .u64 a0_2, .int .u64 a0_3, .int .u64 a0_4, .int .u64 a0_5] 49 (0, 0))) ∧ Aside0 (wc.heap[gb102]? = some (.cells #[.int .u64 a1_0, .int .u64 a1_1, .int .u64 a1_2, .bool a1_3] 51 (0, 0))) ∧ Aside0 (wc.heap[gb103]? = some (.cells #[.int .u64 0, .int .u64 0, .int .u64 0, .bool false] 51 (0, 0))) ∧ Aside0 (Below w.heap.size w wc))
 case first =>
  have H := HC6.out
  clear HC6
  replace H := Option.bind_eq_some_iff.mp H
  obtain ⟨t104, A100, H⟩ := H
  replace H : (if t104 = 0 then (weighbridgeref26_Step.j0 k a2 a3 a4 (decide (a3 < 0)) a0_0 a0_1 a0_2 a0_3 a0_4 a0_5 a1_0 a1_1 a1_2 a1_3) else (weighbridgeref26_Step.j0 k a2 a3 a4 true a0_0 a0_1 a0_2 a0_3 a0_4 a0_5 a1_0 a1_1 a1_2 a1_3)) = some (r1, r2, r3, r4, r5) := H
  have A10 := zq3 A100
  clear A100
  by_cases c11 : t104 = 0
  ·
   rw [if_pos c11] at H
   have c11b0 : (t104 == 0) = true := beq_iff_eq.mpr c11
   have c11b1 : (t104 != 0) = false := bne_eq_false_iff_eq.mpr c11
   clear c11
   (first | rw [c11b0] | (simp only [i64_w, i32_w]; rw [c11b0]) | skip)
   have H' := zq3 H
   clear H
   have hnb12 := NB101_102.out
   have hnc12 := NB102_101.out
   have hnb13 := NB101_103.out
   have hnc13 := NB103_101.out
   obtain ⟨hc14_0, hc14_1, hc14_2, hc14_3, hc14_4, hc14_5⟩ := zc6 BK101
   obtain ⟨hf14_0, hf14_1, hf14_2, hf14_3, hf14_4, hf14_5⟩ := zf6 BK101
   go_wp2_with (first | ((with_reducible refine gate_callee (f := 78) rfl ?_); refine zgo (some 19) Try.func78 #[.agg #[.int .i64 a0_0, .bool a0_1, .int .u64 a0_2, .int .u64 a0_3, .int .u64 a0_4, .int .u64 a0_5]] ?_; (with_reducible refine (weighbridgeref26_Check.calls k a0_0 a0_1 a0_2 a0_3 a0_4 a0_5 t104 _ A10.out).mono ?_); rintro e w15 ⟨rfl, hb⟩; refine ⟨_, rfl, ?_⟩; replace BK101 := zs BK101 hb; replace BK102 := zs BK102 hb; replace BK103 := zs BK103 hb; replace HB := zt HB hb; (try clear hb)))
   go_meet
   case rel => exact ⟨_, (decide (a3 < 0)), (by first | rfl | (simp; done) | (simp [*]; done)), H', ⟨by first | omega | exact Nat.le_refl _⟩, ⟨zw BK101⟩, ⟨zw BK102⟩, ⟨zw BK103⟩, ⟨zh HB⟩⟩
  ·
   rw [if_neg c11] at H
   have c11b0 : (t104 == 0) = false := beq_eq_false_iff_ne.mpr c11
   have c11b1 : (t104 != 0) = true := bne_iff_ne.mpr c11
   (first | rw [c11b0] | (simp only [i64_w, i32_w]; rw [c11b0]) | skip)
   have H' := zq3 H
   clear H
   have hnb16 := NB101_102.out
   have hnc16 := NB102_101.out
   have hnb17 := NB101_103.out
   have hnc17 := NB103_101.out
   obtain ⟨hc18_0, hc18_1, hc18_2, hc18_3, hc18_4, hc18_5⟩ := zc6 BK101
   obtain ⟨hf18_0, hf18_1, hf18_2, hf18_3, hf18_4, hf18_5⟩ := zf6 BK101
   go_wp2_with (first | ((with_reducible refine gate_callee (f := 78) rfl ?_); refine zgo (some 19) Try.func78 #[.agg #[.int .i64 a0_0, .bool a0_1, .int .u64 a0_2, .int .u64 a0_3, .int .u64 a0_4, .int .u64 a0_5]] ?_; (with_reducible refine (weighbridgeref26_Check.calls k a0_0 a0_1 a0_2 a0_3 a0_4 a0_5 t104 _ A10.out).mono ?_); rintro e w19 ⟨rfl, hb⟩; refine ⟨_, rfl, ?_⟩; replace BK101 := zs BK101 hb; replace BK102 := zs BK102 hb; replace BK103 := zs BK103 hb; replace HB := zt HB hb; (try clear hb)))
   go_meet
   case rel => exact ⟨_, (true), (by first | rfl | (simp; done) | (simp [*]; done)), H', ⟨by first | omega | exact Nat.le_refl _⟩, ⟨zw BK101⟩, ⟨zw BK102⟩, ⟨zw BK103⟩, ⟨zh HB⟩⟩
 case rest =>
  clear HC6
  (try clear c1); (try clear p2); (try clear c7); (try clear c8); (try clear c11); (try clear c11b0); (try clear c11b1); (try clear c12); (try clear c13); (try clear c16); (try clear c17)
  try clear hc14_0 hc14_1 hc14_2 hc14_3 hc14_4 hc14_5 hc18_0 hc18_1 hc18_2 hc18_3 hc18_4 hc18_5 hf14_0 hf14_1 hf14_2 hf14_3 hf14_4 hf14_5 hf18_0 hf18_1 hf18_2 hf18_3 hf18_4 hf18_5
  obtain ⟨kq, x24_5, rfl, HA, HJ5, BK101, BK102, BK103, HB⟩ := hcut
  cases kq with
  | zero => exact absurd HA.out (by simp [weighbridgeref26_Step.j0])
  | succ kj5 =>
   have H := HA.out
   clear HA
   simp only [weighbridgeref26_Step.j0] at H
   by_cases c20 : x24_5 = true
   ·
    subst c20
    have H1 : (some (a1_0, a1_1, a1_2, a1_3, 2)) = some (r1, r2, r3, r4, r5) := by rw [if_pos rfl] at H; exact H
    clear H
    have H := H1
    clear H1
    simp only [Option.some.injEq, Prod.mk.injEq] at H
    obtain ⟨rfl, rfl, rfl, rfl, rfl⟩ := H
    have hnb21 := NB102_101.out
    have hnc21 := NB101_102.out
    have hnb22 := NB102_103.out
    have hnc22 := NB103_102.out
    obtain ⟨hc23_0, hc23_1, hc23_2, hc23_3⟩ := zc4 BK102
    obtain ⟨hf23_0, hf23_1, hf23_2, hf23_3⟩ := zf4 BK102
    have hnb24 := NB103_101.out
    have hnc24 := NB101_103.out
    obtain ⟨hc25_0, hc25_1, hc25_2, hc25_3⟩ := zc4 BK103
    obtain ⟨hf25_0, hf25_1, hf25_2, hf25_3⟩ := zf4 BK103
    go_wp2
    refine bodyPost_ret (results_ct rfl _ _ gb103 51 #[.int .u64 a1_0, .int .u64 a1_1, .int .u64 a1_2, .bool a1_3] (0, 0) _ rfl (zw4 BK103) Try.underlying51 rfl (by kernel_rfl)) rfl ?_
    exact ⟨by first | rfl | (simp [errW_none, errW_some] <;> rfl) | (simp [*, errW_none, errW_some] <;> rfl), zh HB⟩
   ·
    replace c20 := Bool.eq_false_iff.mpr c20
    subst c20
    have H1 : ((weighbridgeref26_Later.f a0_0 a0_1 a0_2 a0_3 a0_4 a0_5 a1_0 a1_1 a1_2 a1_3 a2).bind fun bt105 => ((weighbridgeref26_Colour.f a0_1 a4).bind fun t110 => ((weighbridgeref24_Take.f bt105.1 a3).bind fun bt111 => (if bt111.2 = true then (weighbridgeref26_Step.j1 kj5 a3 t110 bt111.1 (t110 == 0) bt105.1 bt105.2.1 bt105.2.2.1 bt105.2.2.2) else (weighbridgeref26_Step.j1 kj5 a3 t110 bt111.1 false bt105.1 bt105.2.1 bt105.2.2.1 bt105.2.2.2))))) = some (r1, r2, r3, r4, r5) := by rw [if_neg (show ¬ (false = true) by decide)] at H; exact H
    clear H
    have H := H1
    clear H1
    replace H := Option.bind_eq_some_iff.mp H
    obtain ⟨⟨t105, t106, t107, t108⟩, A260, H⟩ := H
    replace H : ((weighbridgeref26_Colour.f a0_1 a4).bind fun t110 => ((weighbridgeref24_Take.f t105 a3).bind fun bt111 => (if bt111.2 = true then (weighbridgeref26_Step.j1 kj5 a3 t110 bt111.1 (t110 == 0) t105 t106 t107 t108) else (weighbridgeref26_Step.j1 kj5 a3 t110 bt111.1 false t105 t106 t107 t108)))) = some (r1, r2, r3, r4, r5) := H
    have A26 := zq3 A260
    clear A260
    replace H := Option.bind_eq_some_iff.mp H
    obtain ⟨t110, A270, H⟩ := H
    replace H : ((weighbridgeref24_Take.f t105 a3).bind fun bt111 => (if bt111.2 = true then (weighbridgeref26_Step.j1 kj5 a3 t110 bt111.1 (t110 == 0) t105 t106 t107 t108) else (weighbridgeref26_Step.j1 kj5 a3 t110 bt111.1 false t105 t106 t107 t108))) = some (r1, r2, r3, r4, r5) := H
    have A27 := zq3 A270
    clear A270
    replace H := Option.bind_eq_some_iff.mp H
    obtain ⟨⟨t111, t112⟩, A280, H⟩ := H
    replace H : (if t112 = true then (weighbridgeref26_Step.j1 kj5 a3 t110 t111 (t110 == 0) t105 t106 t107 t108) else (weighbridgeref26_Step.j1 kj5 a3 t110 t111 false t105 t106 t107 t108)) = some (r1, r2, r3, r4, r5) := H
    have A28 := zq3 A280
    clear A280
    have HC29 := zq3 H
    clear H
    have hnb30 := NB101_102.out
    have hnc30 := NB102_101.out
    have hnb31 := NB101_103.out
    have hnc31 := NB103_101.out
    obtain ⟨hc32_0, hc32_1, hc32_2, hc32_3, hc32_4, hc32_5⟩ := zc6 BK101
    obtain ⟨hf32_0, hf32_1, hf32_2, hf32_3, hf32_4, hf32_5⟩ := zf6 BK101
    have hnb33 := NB102_103.out
    have hnc33 := NB103_102.out
    obtain ⟨hc34_0, hc34_1, hc34_2, hc34_3⟩ := zc4 BK102
    obtain ⟨hf34_0, hf34_1, hf34_2, hf34_3⟩ := zf4 BK102
    go_upto_region 6 with (first | ((with_reducible refine gate_callee (f := 92) rfl ?_); refine zgo (some 29) Try.func92 #[.agg #[.int .i64 a0_0, .bool a0_1, .int .u64 a0_2, .int .u64 a0_3, .int .u64 a0_4, .int .u64 a0_5], .agg #[.int .u64 a1_0, .int .u64 a1_1, .int .u64 a1_2, .bool a1_3], .int .u64 a2] ?_; (with_reducible refine (weighbridgeref26_Later.calls a0_0 a0_1 a0_2 a0_3 a0_4 a0_5 a1_0 a1_1 a1_2 a1_3 a2 t105 t106 t107 t108 _ A26.out).mono ?_); rintro e w35 ⟨rfl, hb⟩; refine ⟨_, rfl, ?_⟩; replace BK101 := zs BK101 hb; replace BK102 := zs BK102 hb; replace BK103 := zs BK103 hb; replace HB := zt HB hb; (try clear hb)) | ((with_reducible refine zd 12 rfl ?_); refine zb 12 #[.int .u64 0, .int .u64 0, .int .u64 0, .bool false] 51 ?_; intro gb109 hg w36 hbox hb; have BK109 := zq3 (hbox); have GW109 := ze hg HB; have GE109 := GW109; have NB101_109 := zl hg BK101; have NB109_101 := zg hg BK101; have NB102_109 := zl hg BK102; have NB109_102 := zg hg BK102; have NB103_109 := zl hg BK103; have NB109_103 := zg hg BK103; replace BK101 := zs BK101 hb; replace BK102 := zs BK102 hb; replace BK103 := zs BK103 hb; replace HB := zt HB hb; clear hb hbox hg; have hnb37 := NB109_101.out; have hnc37 := NB101_109.out; have hnb38 := NB109_102.out; have hnc38 := NB102_109.out; have hnb39 := NB109_103.out; have hnc39 := NB103_109.out; obtain ⟨hc40_0, hc40_1, hc40_2, hc40_3⟩ := zc4 BK109; obtain ⟨hf40_0, hf40_1, hf40_2, hf40_3⟩ := zf4 BK109; obtain ⟨hc41_0, hc41_1, hc41_2, hc41_3, hc41_4, hc41_5⟩ := zc6 BK101; obtain ⟨hf41_0, hf41_1, hf41_2, hf41_3, hf41_4, hf41_5⟩ := zf6 BK101) | ((with_reducible refine gate_callee (f := 90) rfl ?_); refine zgo (some 33) Try.func90 #[.bool a0_1, .int .i64 a4] ?_; (with_reducible refine (weighbridgeref26_Colour.calls a0_1 a4 t110 _ A27.out).mono ?_); rintro e w42 ⟨rfl, hb⟩; refine ⟨_, rfl, ?_⟩; replace BK101 := zsf BK101 hb; replace BK102 := zsf BK102 hb; replace BK103 := zsf BK103 hb; replace BK109 := zq3 (zq10 (o := .cells #[.int .u64 t105, .int .u64 t106, .int .u64 t107, .bool t108] 51 (0, 0)) (zw4 BK109) hb); replace HB := zt HB hb; (try clear hb); obtain ⟨hc43_0, hc43_1, hc43_2, hc43_3⟩ := zc4 BK109; obtain ⟨hf43_0, hf43_1, hf43_2, hf43_3⟩ := zf4 BK109) | ((with_reducible refine gate_callee (f := 91) rfl ?_); refine zgo (some 38) Try.func91 #[.int .u64 t105, .int .i64 a3] ?_; (with_reducible refine (weighbridgeref24_Take.calls t105 a3 t111 t112 _ A28.out).mono ?_); rintro e w44 ⟨rfl, hb⟩; refine ⟨_, rfl, ?_⟩; replace BK101 := zs BK101 hb; replace BK102 := zs BK102 hb; replace BK103 := zs BK103 hb; replace BK109 := zs BK109 hb; replace HB := zt HB hb; (try clear hb)))
    (try simp only [Act.put, List.setIfInBounds_toArray, List.set_cons_zero, List.set_cons_succ])
    go_cut [45] (fun v45 wc => ∃ (kq : Nat) (x45_28 : Bool), v45 = .bool x45_28 ∧ Aside0 (weighbridgeref26_Step.j1 kq a3 t110 t111 x45_28 t105 t106 t107 t108 = some (r1, r2, r3, r4, r5)) ∧ Aside0 (kq ≤ kj5) ∧ Aside0 (wc.heap[gb101]? = some (.cells #[.int .i64 a0_0, .bool a0_1, .int .u64 a0_2, .int .u64 a0_3, .int .u64 a0_4, .int .u64 a0_5] 49 (0, 0))) ∧ Aside0 (wc.heap[gb102]? = some (.cells #[.int .u64 a1_0, .int .u64 a1_1, .int .u64 a1_2, .bool a1_3] 51 (0, 0))) ∧ Aside0 (wc.heap[gb103]? = some (.cells #[.int .u64 0, .int .u64 0, .int .u64 0, .bool false] 51 (0, 0))) ∧ Aside0 (wc.heap[gb109]? = some (.cells #[.int .u64 t105, .int .u64 t106, .int .u64 t107, .bool t108] 51 (0, 0))) ∧ Aside0 (Below w.heap.size w wc))
    case first =>
     have H := HC29.out
     clear HC29
     by_cases c45 : t112 = true
     ·
      subst c45
      have H1 : (weighbridgeref26_Step.j1 kj5 a3 t110 t111 (t110 == 0) t105 t106 t107 t108) = some (r1, r2, r3, r4, r5) := by rw [if_pos rfl] at H; exact H
      clear H
      have H := H1
      clear H1
      have H' := zq3 H
      clear H
      go_wp2
      go_meet
      case rel => exact ⟨_, ((t110 == 0)), (by first | rfl | (simp; done) | (simp [*]; done)), H', ⟨by have := HJ5.out; first | omega | exact Nat.le_refl _⟩, ⟨zw BK101⟩, ⟨zw BK102⟩, ⟨zw BK103⟩, ⟨zw BK109⟩, ⟨zh HB⟩⟩
     ·
      replace c45 := Bool.eq_false_iff.mpr c45
      subst c45
      have H1 : (weighbridgeref26_Step.j1 kj5 a3 t110 t111 false t105 t106 t107 t108) = some (r1, r2, r3, r4, r5) := by rw [if_neg (show ¬ (false = true) by decide)] at H; exact H
      clear H
      have H := H1
      clear H1
      have H' := zq3 H
      clear H
      go_wp2
      go_meet
      case rel => exact ⟨_, (false), (by first | rfl | (simp; done) | (simp [*]; done)), H', ⟨by have := HJ5.out; first | omega | exact Nat.le_refl _⟩, ⟨zw BK101⟩, ⟨zw BK102⟩, ⟨zw BK103⟩, ⟨zw BK109⟩, ⟨zh HB⟩⟩
    case rest =>
     clear HC29
     (try clear c1); (try clear c2); (try clear p2); (try clear c3); (try clear c4); (try clear c7); (try clear c8); (try clear c9); (try clear c11); (try clear c11b0); (try clear c11b1); (try clear c12); (try clear c13); (try clear c16); (try clear c17); (try clear c20); (try clear c21); (try clear c22); (try clear c24); (try clear c30); (try clear c31); (try clear c33); (try clear c37); (try clear c38); (try clear c39); (try clear c45)
     try clear hc14_0 hc14_1 hc14_2 hc14_3 hc14_4 hc14_5 hc18_0 hc18_1 hc18_2 hc18_3 hc18_4 hc18_5 hc23_0 hc23_1 hc23_2 hc23_3 hc25_0 hc25_1 hc25_2 hc25_3 hc32_0 hc32_1 hc32_2 hc32_3 hc32_4 hc32_5 hc34_0 hc34_1 hc34_2 hc34_3 hc40_0 hc40_1 hc40_2 hc40_3 hc41_0 hc41_1 hc41_2 hc41_3 hc41_4 hc41_5 hc43_0 hc43_1 hc43_2 hc43_3 hf14_0 hf14_1 hf14_2 hf14_3 hf14_4 hf14_5 hf18_0 hf18_1 hf18_2 hf18_3 hf18_4 hf18_5 hf23_0 hf23_1 hf23_2 hf23_3 hf25_0 hf25_1 hf25_2 hf25_3 hf32_0 hf32_1 hf32_2 hf32_3 hf32_4 hf32_5 hf34_0 hf34_1 hf34_2 hf34_3 hf40_0 hf40_1 hf40_2 hf40_3 hf41_0 hf41_1 hf41_2 hf41_3 hf41_4 hf41_5 hf43_0 hf43_1 hf43_2 hf43_3
     (try clear p2)
     obtain ⟨kq, x45_28, rfl, HA, HJ28, BK101, BK102, BK103, BK109, HB⟩ := hcut
     cases kq with
     | zero => exact absurd HA.out (by simp [weighbridgeref26_Step.j1])
     | succ kj28 =>
      have H := HA.out
      clear HA
      simp only [weighbridgeref26_Step.j1] at H
      by_cases c46 : x45_28 = true
      ·
       subst c46
       have H1 : (some (t111, t106, t107, t108, 0)) = some (r1, r2, r3, r4, r5) := by rw [if_pos rfl] at H; exact H
       clear H
       have H := H1
       clear H1
       simp only [Option.some.injEq, Prod.mk.injEq] at H
       obtain ⟨rfl, rfl, rfl, rfl, rfl⟩ := H
       have hnb47 := NB109_101.out
       have hnc47 := NB101_109.out
       have hnb48 := NB109_102.out
       have hnc48 := NB102_109.out
       have hnb49 := NB109_103.out
       have hnc49 := NB103_109.out
       obtain ⟨hc50_0, hc50_1, hc50_2, hc50_3⟩ := zc4 BK109
       obtain ⟨hf50_0, hf50_1, hf50_2, hf50_3⟩ := zf4 BK109
       have hnb51 := NB103_101.out
       have hnc51 := NB101_103.out
       have hnb52 := NB103_102.out
       have hnc52 := NB102_103.out
       obtain ⟨hc53_0, hc53_1, hc53_2, hc53_3⟩ := zc4 BK103
       obtain ⟨hf53_0, hf53_1, hf53_2, hf53_3⟩ := zf4 BK103
       go_wp2
       refine bodyPost_ret (results_ct rfl _ _ gb103 51 #[.int .u64 t111, .int .u64 t106, .int .u64 t107, .bool t108] (0, 0) _ rfl (zw4 BK103) Try.underlying51 rfl (by kernel_rfl)) rfl ?_
       exact ⟨by first | rfl | (simp [errW_none, errW_some] <;> rfl) | (simp [*, errW_none, errW_some] <;> rfl), zh HB⟩
      ·
       replace c46 := Bool.eq_false_iff.mpr c46
       subst c46
       have H1 : ((weighbridgeref24_Take.f t106 a3).bind fun bt113 => (if bt113.2 = true then (if t110 = 2 then (some (t105, t106, t107, t108, 2)) else (some (t105, bt113.1, t107, t108, 1))) else (some (t105, t106, t107, t108, 2)))) = some (r1, r2, r3, r4, r5) := by rw [if_neg (show ¬ (false = true) by decide)] at H; exact H
       clear H
       have H := H1
       clear H1
       replace H := Option.bind_eq_some_iff.mp H
       obtain ⟨⟨t113, t114⟩, A540, H⟩ := H
       replace H : (if t114 = true then (if t110 = 2 then (some (t105, t106, t107, t108, 2)) else (some (t105, t113, t107, t108, 1))) else (some (t105, t106, t107, t108, 2))) = some (r1, r2, r3, r4, r5) := H
       have A54 := zq3 A540
       clear A540
       by_cases c55 : t114 = true
       ·
        subst c55
        have H1 : (if t110 = 2 then (some (t105, t106, t107, t108, 2)) else (some (t105, t113, t107, t108, 1))) = some (r1, r2, r3, r4, r5) := by rw [if_pos rfl] at H; exact H
        clear H
        have H := H1
        clear H1
        by_cases c56 : t110 = 2
        ·
         rw [if_pos c56] at H
         have c56b0 : (t110 == 2) = true := beq_iff_eq.mpr c56
         have c56b1 : (t110 != 2) = false := bne_eq_false_iff_eq.mpr c56
         clear c56
         simp only [Option.some.injEq, Prod.mk.injEq] at H
         obtain ⟨rfl, rfl, rfl, rfl, rfl⟩ := H
         have hnb57 := NB109_101.out
         have hnc57 := NB101_109.out
         have hnb58 := NB109_102.out
         have hnc58 := NB102_109.out
         have hnb59 := NB109_103.out
         have hnc59 := NB103_109.out
         obtain ⟨hc60_0, hc60_1, hc60_2, hc60_3⟩ := zc4 BK109
         obtain ⟨hf60_0, hf60_1, hf60_2, hf60_3⟩ := zf4 BK109
         go_wp2_with (first | ((with_reducible refine gate_callee (f := 91) rfl ?_); refine zgo (some 53) Try.func91 #[.int .u64 t106, .int .i64 a3] ?_; (with_reducible refine (weighbridgeref24_Take.calls t106 a3 t113 true _ A54.out).mono ?_); rintro e w61 ⟨rfl, hb⟩; refine ⟨_, rfl, ?_⟩; replace BK101 := zs BK101 hb; replace BK102 := zs BK102 hb; replace BK103 := zs BK103 hb; replace BK109 := zs BK109 hb; replace HB := zt HB hb; (try clear hb); obtain ⟨hc62_0, hc62_1, hc62_2, hc62_3⟩ := zc4 BK109; obtain ⟨hf62_0, hf62_1, hf62_2, hf62_3⟩ := zf4 BK109; have hnb63 := NB103_101.out; have hnc63 := NB101_103.out; have hnb64 := NB103_102.out; have hnc64 := NB102_103.out; obtain ⟨hc65_0, hc65_1, hc65_2, hc65_3⟩ := zc4 BK103; obtain ⟨hf65_0, hf65_1, hf65_2, hf65_3⟩ := zf4 BK103))
         refine bodyPost_ret (results_ct rfl _ _ gb103 51 #[.int .u64 t105, .int .u64 t106, .int .u64 t107, .bool t108] (0, 0) _ rfl (zw4 BK103) Try.underlying51 rfl (by kernel_rfl)) rfl ?_
         exact ⟨by first | rfl | (simp [errW_none, errW_some] <;> rfl) | (simp [*, errW_none, errW_some] <;> rfl), zh HB⟩
        ·
         rw [if_neg c56] at H
         have c56b0 : (t110 == 2) = false := beq_eq_false_iff_ne.mpr c56
         have c56b1 : (t110 != 2) = true := bne_iff_ne.mpr c56
         simp only [Option.some.injEq, Prod.mk.injEq] at H
         obtain ⟨rfl, rfl, rfl, rfl, rfl⟩ := H
         have hnb66 := NB109_101.out
         have hnc66 := NB101_109.out
         have hnb67 := NB109_102.out
         have hnc67 := NB102_109.out
         have hnb68 := NB109_103.out
         have hnc68 := NB103_109.out
         obtain ⟨hc69_0, hc69_1, hc69_2, hc69_3⟩ := zc4 BK109
         obtain ⟨hf69_0, hf69_1, hf69_2, hf69_3⟩ := zf4 BK109
         go_wp2_with (first | ((with_reducible refine gate_callee (f := 91) rfl ?_); refine zgo (some 53) Try.func91 #[.int .u64 t106, .int .i64 a3] ?_; (with_reducible refine (weighbridgeref24_Take.calls t106 a3 t113 true _ A54.out).mono ?_); rintro e w70 ⟨rfl, hb⟩; refine ⟨_, rfl, ?_⟩; replace BK101 := zs BK101 hb; replace BK102 := zs BK102 hb; replace BK103 := zs BK103 hb; replace BK109 := zs BK109 hb; replace HB := zt HB hb; (try clear hb); obtain ⟨hc71_0, hc71_1, hc71_2, hc71_3⟩ := zc4 BK109; obtain ⟨hf71_0, hf71_1, hf71_2, hf71_3⟩ := zf4 BK109; have hnb72 := NB103_101.out; have hnc72 := NB101_103.out; have hnb73 := NB103_102.out; have hnc73 := NB102_103.out; obtain ⟨hc74_0, hc74_1, hc74_2, hc74_3⟩ := zc4 BK103; obtain ⟨hf74_0, hf74_1, hf74_2, hf74_3⟩ := zf4 BK103))
         refine bodyPost_ret (results_ct rfl _ _ gb103 51 #[.int .u64 t105, .int .u64 t113, .int .u64 t107, .bool t108] (0, 0) _ rfl (zw4 BK103) Try.underlying51 rfl (by kernel_rfl)) rfl ?_
         exact ⟨by first | rfl | (simp [errW_none, errW_some] <;> rfl) | (simp [*, errW_none, errW_some] <;> rfl), zh HB⟩
       ·
        replace c55 := Bool.eq_false_iff.mpr c55
        subst c55
        have H1 : (some (t105, t106, t107, t108, 2)) = some (r1, r2, r3, r4, r5) := by rw [if_neg (show ¬ (false = true) by decide)] at H; exact H
        clear H
        have H := H1
        clear H1
        simp only [Option.some.injEq, Prod.mk.injEq] at H
        obtain ⟨rfl, rfl, rfl, rfl, rfl⟩ := H
        have hnb75 := NB109_101.out
        have hnc75 := NB101_109.out
        have hnb76 := NB109_102.out
        have hnc76 := NB102_109.out
        have hnb77 := NB109_103.out
        have hnc77 := NB103_109.out
        obtain ⟨hc78_0, hc78_1, hc78_2, hc78_3⟩ := zc4 BK109
        obtain ⟨hf78_0, hf78_1, hf78_2, hf78_3⟩ := zf4 BK109
        go_wp2_with (first | ((with_reducible refine gate_callee (f := 91) rfl ?_); refine zgo (some 53) Try.func91 #[.int .u64 t106, .int .i64 a3] ?_; (with_reducible refine (weighbridgeref24_Take.calls t106 a3 t113 false _ A54.out).mono ?_); rintro e w79 ⟨rfl, hb⟩; refine ⟨_, rfl, ?_⟩; replace BK101 := zs BK101 hb; replace BK102 := zs BK102 hb; replace BK103 := zs BK103 hb; replace BK109 := zs BK109 hb; replace HB := zt HB hb; (try clear hb); obtain ⟨hc80_0, hc80_1, hc80_2, hc80_3⟩ := zc4 BK109; obtain ⟨hf80_0, hf80_1, hf80_2, hf80_3⟩ := zf4 BK109; have hnb81 := NB103_101.out; have hnc81 := NB101_103.out; have hnb82 := NB103_102.out; have hnc82 := NB102_103.out; obtain ⟨hc83_0, hc83_1, hc83_2, hc83_3⟩ := zc4 BK103; obtain ⟨hf83_0, hf83_1, hf83_2, hf83_3⟩ := zf4 BK103))
        refine bodyPost_ret (results_ct rfl _ _ gb103 51 #[.int .u64 t105, .int .u64 t106, .int .u64 t107, .bool t108] (0, 0) _ rfl (zw4 BK103) Try.underlying51 rfl (by kernel_rfl)) rfl ?_
        exact ⟨by first | rfl | (simp [errW_none, errW_some] <;> rfl) | (simp [*, errW_none, errW_some] <;> rfl), zh HB⟩

end Go.Proofs.Ytiaoaoebghnpkaa.P
end
section
namespace Go.Proofs.Ytiaoaoebghnpkaa.P
open Go.RowKit Go.Proofs.YtiaoaoebghnpkaaW.PrintWords Go.Proofs.YtiaoaoebghnpkaaW.PrintLast Go.Proofs.YtiaoaoebghnpkaaW.PrintMore
attribute [local go_sem] max2_int min2_int max_two min_two max_three min_three max_four min_four   -- for this text's walks alone
set_option linter.unusedVariables false
set_option linter.unusedSimpArgs false

/-! ### weighbridgeref28_Step: function 64 -/
def weighbridgeref28_Step.f (k : Nat) (a0_0 : Int) (a0_1 : Bool) (a0_2 : Int) (a0_3 : Int) (a0_4 : Int) (a0_5 : Int) (a1_0 : Int) (a1_1 : Int) (a1_2 : Int) (a1_3 : Bool) (a2 : Int) (a3 : Int) (a4 : Int) : Option (Int × Int × Int × Bool × Int) := if a0_0 = 2 then ((weighbridgeref27_Step.f k a0_0 a0_1 a0_2 a0_3 a0_4 a0_5 a1_0 a1_1 a1_2 a1_3 a2 a3 a4).bind fun bt104 => (some (bt104.1, bt104.2.1, bt104.2.2.1, bt104.2.2.2.1, bt104.2.2.2.2))) else ((weighbridgeref26_Step.f k a0_0 a0_1 a0_2 a0_3 a0_4 a0_5 a1_0 a1_1 a1_2 a1_3 a2 a3 a4).bind fun bt109 => (some (bt109.1, bt109.2.1, bt109.2.2.1, bt109.2.2.2.1, bt109.2.2.2.2)))
set_option maxHeartbeats 8000000 in
set_option maxRecDepth 100000 in
theorem weighbridgeref28_Step.calls (k : Nat) (a0_0 : Int) (a0_1 : Bool) (a0_2 : Int) (a0_3 : Int) (a0_4 : Int) (a0_5 : Int) (a1_0 : Int) (a1_1 : Int) (a1_2 : Int) (a1_3 : Bool) (a2 : Int) (a3 : Int) (a4 : Int) (r1 : Int) (r2 : Int) (r3 : Int) (r4 : Bool) (r5 : Int) (w : World) (h : weighbridgeref28_Step.f k a0_0 a0_1 a0_2 a0_3 a0_4 a0_5 a1_0 a1_1 a1_2 a1_3 a2 a3 a4 = some (r1, r2, r3, r4, r5)) :
  Calls Try.prog 64 #[.agg #[.int .i64 a0_0, .bool a0_1, .int .u64 a0_2, .int .u64 a0_3, .int .u64 a0_4, .int .u64 a0_5], .agg #[.int .u64 a1_0, .int .u64 a1_1, .int .u64 a1_2, .bool a1_3], .int .u64 a2, .int .i64 a3, .int .i64 a4] w fun e w' => e = .returned (.tuple #[.agg #[.int .u64 r1, .int .u64 r2, .int .u64 r3, .bool r4], .int .i64 r5]) ∧ Below w.heap.size w w' := by
 have hu49 := Try.underlying49
 have hu51 := Try.underlying51
 have HB := zq3 (Below.refl w.heap.size w)
 have H : (if a0_0 = 2 then ((weighbridgeref27_Step.f k a0_0 a0_1 a0_2 a0_3 a0_4 a0_5 a1_0 a1_1 a1_2 a1_3 a2 a3 a4).bind fun bt104 => (some (bt104.1, bt104.2.1, bt104.2.2.1, bt104.2.2.2.1, bt104.2.2.2.2))) else ((weighbridgeref26_Step.f k a0_0 a0_1 a0_2 a0_3 a0_4 a0_5 a1_0 a1_1 a1_2 a1_3 a2 a3 a4).bind fun bt109 => (some (bt109.1, bt109.2.1, bt109.2.2.1, bt109.2.2.2.1, bt109.2.2.2.2)))) = some (r1, r2, r3, r4, r5) := h
 clear h
 by_cases c6 : a0_0 = 2
 ·
  rw [if_pos c6] at H
  have c6b0 : (a0_0 == 2) = true := beq_iff_eq.mpr c6
  have c6b1 : (a0_0 != 2) = false := bne_eq_false_iff_eq.mpr c6
  clear c6
  replace H := Option.bind_eq_some_iff.mp H
  obtain ⟨⟨t104, t105, t106, t107, t108⟩, A70, H⟩ := H
  replace H : (some (t104, t105, t106, t107, t108)) = some (r1, r2, r3, r4, r5) := H
  have A7 := zq3 A70
  clear A70
  simp only [Option.some.injEq, Prod.mk.injEq] at H
  obtain ⟨rfl, rfl, rfl, rfl, rfl⟩ := H
  go_enter Try.func64, Try.ntmps64
  go_wp2_with (first | ((with_reducible refine zd 5 rfl ?_); refine zb 5 #[.int .i64 a0_0, .bool a0_1, .int .u64 a0_2, .int .u64 a0_3, .int .u64 a0_4, .int .u64 a0_5] 49 ?_; intro gb101 hg w8 hbox hb; have BK101 := zq3 (hbox); have GW101 := ze hg HB; have GE101 := GW101; replace HB := zt HB hb; clear hb hbox hg) | ((with_reducible refine zd 6 rfl ?_); refine zb 6 #[.int .u64 a1_0, .int .u64 a1_1, .int .u64 a1_2, .bool a1_3] 51 ?_; intro gb102 hg w9 hbox hb; have BK102 := zq3 (hbox); have GW102 := ze hg HB; have GE102 := GW102; have NB101_102 := zl hg BK101; have NB102_101 := zg hg BK101; replace BK101 := zs BK101 hb; replace HB := zt HB hb; clear hb hbox hg) | ((with_reducible refine zd 10 rfl ?_); refine zb 10 #[.int .u64 0, .int .u64 0, .int .u64 0, .bool false] 51 ?_; intro gb103 hg w10 hbox hb; have BK103 := zq3 (hbox); have GW103 := ze hg HB; have GE103 := GW103; have NB101_103 := zl hg BK101; have NB103_101 := zg hg BK101; have NB102_103 := zl hg BK102; have NB103_102 := zg hg BK102; replace BK101 := zs BK101 hb; replace BK102 := zs BK102 hb; replace HB := zt HB hb; clear hb hbox hg; have hnb11 := NB101_102.out; have hnc11 := NB102_101.out; have hnb12 := NB101_103.out; have hnc12 := NB103_101.out; obtain ⟨hc13_0, hc13_1, hc13_2, hc13_3, hc13_4, hc13_5⟩ := zc6 BK101; obtain ⟨hf13_0, hf13_1, hf13_2, hf13_3, hf13_4, hf13_5⟩ := zf6 BK101; have hnb14 := NB102_103.out; have hnc14 := NB103_102.out; obtain ⟨hc15_0, hc15_1, hc15_2, hc15_3⟩ := zc4 BK102; obtain ⟨hf15_0, hf15_1, hf15_2, hf15_3⟩ := zf4 BK102) | ((with_reducible refine gate_callee (f := 85) rfl ?_); refine zgo (some 20) Try.func85 #[.agg #[.int .i64 a0_0, .bool a0_1, .int .u64 a0_2, .int .u64 a0_3, .int .u64 a0_4, .int .u64 a0_5], .agg #[.int .u64 a1_0, .int .u64 a1_1, .int .u64 a1_2, .bool a1_3], .int .u64 a2, .int .i64 a3, .int .i64 a4] ?_; (with_reducible refine (weighbridgeref27_Step.calls k a0_0 a0_1 a0_2 a0_3 a0_4 a0_5 a1_0 a1_1 a1_2 a1_3 a2 a3 a4 t104 t105 t106 t107 t108 _ A7.out).mono ?_); rintro e w16 ⟨rfl, hb⟩; refine ⟨_, rfl, ?_⟩; replace BK101 := zs BK101 hb; replace BK102 := zs BK102 hb; replace BK103 := zs BK103 hb; replace HB := zt HB hb; (try clear hb); obtain ⟨hc17_0, hc17_1, hc17_2, hc17_3⟩ := zc4 BK103; obtain ⟨hf17_0, hf17_1, hf17_2, hf17_3⟩ := zf4 BK103))
  refine bodyPost_ret (results_ct rfl _ _ gb103 51 #[.int .u64 t104, .int .u64 t105, .int .u64 t106, .bool t107] (0, 0) _ rfl (zw4 BK103) Try.underlying51 rfl (by kernel_rfl)) rfl ?_
  exact ⟨by first | rfl | (simp [errW_none, errW_some] <;> rfl) | (simp [*, errW_none, errW_some] <;> rfl), zh HB⟩
 ·
  rw [if_neg c6] at H
  have c6b0 : (a0_0 == 2) = false := beq_eq_false_iff_ne.mpr c6
  have c6b1 : (a0_0 != 2) = true := bne_iff_ne.mpr c6
  replace H := Option.bind_eq_some_iff.mp H
  obtain ⟨⟨t109, t110, t111, t112, t113⟩, A180, H⟩ := H
  replace H : (some (t109, t110, t111, t112, t113)) = some (r1, r2, r3, r4, r5) := H
  have A18 := zq3 A180
  clear A180
  simp only [Option.some.injEq, Prod.mk.injEq] at H
  obtain ⟨rfl, rfl, rfl, rfl, rfl⟩ := H
  go_enter Try.func64, Try.ntmps64
  go_wp2_with (first | ((with_reducible refine zd 5 rfl ?_); refine zb 5 #[.int .i64 a0_0, .bool a0_1, .int .u64 a0_2, .int .u64 a0_3, .int .u64 a0_4, .int .u64 a0_5] 49 ?_; intro gb101 hg w19 hbox hb; have BK101 := zq3 (hbox); have GW101 := ze hg HB; have GE101 := GW101; replace HB := zt HB hb; clear hb hbox hg) | ((with_reducible refine zd 6 rfl ?_); refine zb 6 #[.int .u64 a1_0, .int .u64 a1_1, .int .u64 a1_2, .bool a1_3] 51 ?_; intro gb102 hg w20 hbox hb; have BK102 := zq3 (hbox); have GW102 := ze hg HB; have GE102 := GW102; have NB101_102 := zl hg BK101; have NB102_101 := zg hg BK101; replace BK101 := zs BK101 hb; replace HB := zt HB hb; clear hb hbox hg) | ((with_reducible refine zd 10 rfl ?_); refine zb 10 #[.int .u64 0, .int .u64 0, .int .u64 0, .bool false] 51 ?_; intro gb103 hg w21 hbox hb; have BK103 := zq3 (hbox); have GW103 := ze hg HB; have GE103 := GW103; have NB101_103 := zl hg BK101; have NB103_101 := zg hg BK101; have NB102_103 := zl hg BK102; have NB103_102 := zg hg BK102; replace BK101 := zs BK101 hb; replace BK102 := zs BK102 hb; replace HB := zt HB hb; clear hb hbox hg; have hnb22 := NB101_102.out; have hnc22 := NB102_101.out; have hnb23 := NB101_103.out; have hnc23 := NB103_101.out; obtain ⟨hc24_0, hc24_1, hc24_2, hc24_3, hc24_4, hc24_5⟩ := zc6 BK101; obtain ⟨hf24_0, hf24_1, hf24_2, hf24_3, hf24_4, hf24_5⟩ := zf6 BK101; have hnb25 := NB102_103.out; have hnc25 := NB103_102.out; obtain ⟨hc26_0, hc26_1, hc26_2, hc26_3⟩ := zc4 BK102; obtain ⟨hf26_0, hf26_1, hf26_2, hf26_3⟩ := zf4 BK102) | ((with_reducible refine gate_callee (f := 86) rfl ?_); refine zgo (some 28) Try.func86 #[.agg #[.int .i64 a0_0, .bool a0_1, .int .u64 a0_2, .int .u64 a0_3, .int .u64 a0_4, .int .u64 a0_5], .agg #[.int .u64 a1_0, .int .u64 a1_1, .int .u64 a1_2, .bool a1_3], .int .u64 a2, .int .i64 a3, .int .i64 a4] ?_; (with_reducible refine (weighbridgeref26_Step.calls k a0_0 a0_1 a0_2 a0_3 a0_4 a0_5 a1_0 a1_1 a1_2 a1_3 a2 a3 a4 t109 t110 t111 t112 t113 _ A18.out).mono ?_); rintro e w27 ⟨rfl, hb⟩; refine ⟨_, rfl, ?_⟩; replace BK101 := zs BK101 hb; replace BK102 := zs BK102 hb; replace BK103 := zs BK103 hb; replace HB := zt HB hb; (try clear hb); obtain ⟨hc28_0, hc28_1, hc28_2, hc28_3⟩ := zc4 BK103; obtain ⟨hf28_0, hf28_1, hf28_2, hf28_3⟩ := zf4 BK103))
  refine bodyPost_ret (results_ct rfl _ _ gb103 51 #[.int .u64 t109, .int .u64 t110, .int .u64 t111, .bool t112] (0, 0) _ rfl (zw4 BK103) Try.underlying51 rfl (by kernel_rfl)) rfl ?_
  exact ⟨by first | rfl | (simp [errW_none, errW_some] <;> rfl) | (simp [*, errW_none, errW_some] <;> rfl), zh HB⟩

end Go.Proofs.Ytiaoaoebghnpkaa.P
end
