/- Parts of the proof, in one text. -/
import Derived.Test.YtiaoaoebghnpkaaMT18
import Derived.Test.YtiaoaoebghnpkaaMT19
import Derived.Test.YtiaoaoebghnpkaaMT26
import Derived.Test.YtiaoaoebghnpkaaMT25
import Derived.Test.YtiaoaoebghnpkaaMT24
section
namespace Go.Proofs.Ytiaoaoebghnpkaa.P
open Go.RowKit Go.Proofs.YtiaoaoebghnpkaaW.PrintWords Go.Proofs.YtiaoaoebghnpkaaW.PrintLast Go.Proofs.YtiaoaoebghnpkaaW.PrintMore
attribute [local go_sem] max2_int min2_int max_two min_two max_three min_three max_four min_four   -- for this text's walks alone
set_option linter.unusedVariables false
set_option linter.unusedSimpArgs false

/-! ### weighbridgeref30_Asked_holds: function 79 -/
def weighbridgeref30_Asked_holds.f (k : Nat) (a0_0 : Int) (a0_1 : Bool) (a0_2 : Int) (a0_3 : Int) (a0_4 : Int) (a0_5 : Int) (a0_6 : Int) (a0_7 : Int) (a0_8 : Int) (a0_9 : Bool) (a0_10 : Int) (a0_11 : Int) (a0_12 : Int) (a0_13 : Bool) (a0_14 : Int) (a0_15 : Int) (a0_16 : Bool) (a1 : Int) : Option (Bool) := if a0_16 = true then ((weighbridgeref28_Step.f k a0_0 a0_1 a0_2 a0_3 a0_4 a0_5 a0_6 a0_7 a0_8 a0_9 a1 0 0).bind fun bt102 => (if bt102.1 ≥ a0_10 then (some (decide (bt102.2.1 ≥ a0_11))) else (some false))) else ((weighbridgeref28_Step.f k a0_0 a0_1 a0_2 a0_3 a0_4 a0_5 a0_6 a0_7 a0_8 a0_9 a1 a0_14 0).bind fun bt108 => (some (decide (bt108.2.2.2.2 ≤ a0_15))))
set_option maxHeartbeats 8000000 in
set_option maxRecDepth 100000 in
theorem weighbridgeref30_Asked_holds.calls (k : Nat) (a0_0 : Int) (a0_1 : Bool) (a0_2 : Int) (a0_3 : Int) (a0_4 : Int) (a0_5 : Int) (a0_6 : Int) (a0_7 : Int) (a0_8 : Int) (a0_9 : Bool) (a0_10 : Int) (a0_11 : Int) (a0_12 : Int) (a0_13 : Bool) (a0_14 : Int) (a0_15 : Int) (a0_16 : Bool) (a1 : Int) (r : Bool) (w : World) (h : weighbridgeref30_Asked_holds.f k a0_0 a0_1 a0_2 a0_3 a0_4 a0_5 a0_6 a0_7 a0_8 a0_9 a0_10 a0_11 a0_12 a0_13 a0_14 a0_15 a0_16 a1 = some r) :
  Calls Try.prog 79 #[.agg #[.int .i64 a0_0, .bool a0_1, .int .u64 a0_2, .int .u64 a0_3, .int .u64 a0_4, .int .u64 a0_5, .int .u64 a0_6, .int .u64 a0_7, .int .u64 a0_8, .bool a0_9, .int .u64 a0_10, .int .u64 a0_11, .int .u64 a0_12, .bool a0_13, .int .i64 a0_14, .int .i64 a0_15, .bool a0_16], .int .u64 a1] w fun e w' => e = .returned (.bool r) ∧ Below w.heap.size w w' := by
 have hu95 := Try.underlying95
 have hu49 := Try.underlying49
 have hu51 := Try.underlying51
 have HB := zq3 (Below.refl w.heap.size w)
 have H : (if a0_16 = true then ((weighbridgeref28_Step.f k a0_0 a0_1 a0_2 a0_3 a0_4 a0_5 a0_6 a0_7 a0_8 a0_9 a1 0 0).bind fun bt102 => (if bt102.1 ≥ a0_10 then (some (decide (bt102.2.1 ≥ a0_11))) else (some false))) else ((weighbridgeref28_Step.f k a0_0 a0_1 a0_2 a0_3 a0_4 a0_5 a0_6 a0_7 a0_8 a0_9 a1 a0_14 0).bind fun bt108 => (some (decide (bt108.2.2.2.2 ≤ a0_15))))) = some r := h
 clear h
 by_cases c3 : a0_16 = true
 ·
  subst c3
  have H1 : ((weighbridgeref28_Step.f k a0_0 a0_1 a0_2 a0_3 a0_4 a0_5 a0_6 a0_7 a0_8 a0_9 a1 0 0).bind fun bt102 => (if bt102.1 ≥ a0_10 then (some (decide (bt102.2.1 ≥ a0_11))) else (some false))) = some r := by rw [if_pos rfl] at H; exact H
  clear H
  have H := H1
  clear H1
  replace H := Option.bind_eq_some_iff.mp H
  obtain ⟨⟨t102, t103, t104, t105, t106⟩, A40, H⟩ := H
  replace H : (if t102 ≥ a0_10 then (some (decide (t103 ≥ a0_11))) else (some false)) = some r := H
  have A4 := zq3 A40
  clear A40
  by_cases c5 : t102 ≥ a0_10
  ·
   rw [if_pos c5] at H
   have c5b0 : decide (a0_10 ≤ t102) = true := decide_eq_true c5
   clear c5
   obtain rfl := Option.some.inj H
   go_enter Try.func79, Try.ntmps79
   go_wp2_with (first | ((with_reducible refine zd 2 rfl ?_); refine zb 2 #[.int .i64 a0_0, .bool a0_1, .int .u64 a0_2, .int .u64 a0_3, .int .u64 a0_4, .int .u64 a0_5, .int .u64 a0_6, .int .u64 a0_7, .int .u64 a0_8, .bool a0_9, .int .u64 a0_10, .int .u64 a0_11, .int .u64 a0_12, .bool a0_13, .int .i64 a0_14, .int .i64 a0_15, .bool true] 95 ?_; intro gb101 hg w6 hbox hb; have BK101 := zq3 (hbox); have GW101 := ze hg HB; have GE101 := GW101; replace HB := zt HB hb; clear hb hbox hg; have hc7_0 : w6.cell? ⟨gb101, 0, none⟩ = some (.int .i64 a0_0) := (zq5 BK101.out 0).trans rfl; have hc7_1 : w6.cell? ⟨gb101, 1, none⟩ = some (.bool a0_1) := (zq5 BK101.out 1).trans rfl; have hc7_2 : w6.cell? ⟨gb101, 2, none⟩ = some (.int .u64 a0_2) := (zq5 BK101.out 2).trans rfl; have hc7_3 : w6.cell? ⟨gb101, 3, none⟩ = some (.int .u64 a0_3) := (zq5 BK101.out 3).trans rfl; have hc7_4 : w6.cell? ⟨gb101, 4, none⟩ = some (.int .u64 a0_4) := (zq5 BK101.out 4).trans rfl; have hc7_5 : w6.cell? ⟨gb101, 5, none⟩ = some (.int .u64 a0_5) := (zq5 BK101.out 5).trans rfl; have hc7_6 : w6.cell? ⟨gb101, 6, none⟩ = some (.int .u64 a0_6) := (zq5 BK101.out 6).trans rfl; have hc7_7 : w6.cell? ⟨gb101, 7, none⟩ = some (.int .u64 a0_7) := (zq5 BK101.out 7).trans rfl; have hc7_8 : w6.cell? ⟨gb101, 8, none⟩ = some (.int .u64 a0_8) := (zq5 BK101.out 8).trans rfl; have hc7_9 : w6.cell? ⟨gb101, 9, none⟩ = some (.bool a0_9) := (zq5 BK101.out 9).trans rfl; have hc7_10 : w6.cell? ⟨gb101, 10, none⟩ = some (.int .u64 a0_10) := (zq5 BK101.out 10).trans rfl; have hc7_11 : w6.cell? ⟨gb101, 11, none⟩ = some (.int .u64 a0_11) := (zq5 BK101.out 11).trans rfl; have hc7_12 : w6.cell? ⟨gb101, 12, none⟩ = some (.int .u64 a0_12) := (zq5 BK101.out 12).trans rfl; have hc7_13 : w6.cell? ⟨gb101, 13, none⟩ = some (.bool a0_13) := (zq5 BK101.out 13).trans rfl; have hc7_14 : w6.cell? ⟨gb101, 14, none⟩ = some (.int .i64 a0_14) := (zq5 BK101.out 14).trans rfl; have hc7_15 : w6.cell? ⟨gb101, 15, none⟩ = some (.int .i64 a0_15) := (zq5 BK101.out 15).trans rfl; have hc7_16 : w6.cell? ⟨gb101, 16, none⟩ = some (.bool true) := (zq5 BK101.out 16).trans rfl; have hf7_0 := zq4 BK101.out 0; have hf7_1 := zq4 BK101.out 1; have hf7_2 := zq4 BK101.out 2; have hf7_3 := zq4 BK101.out 3; have hf7_4 := zq4 BK101.out 4; have hf7_5 := zq4 BK101.out 5; have hf7_6 := zq4 BK101.out 6; have hf7_7 := zq4 BK101.out 7; have hf7_8 := zq4 BK101.out 8; have hf7_9 := zq4 BK101.out 9; have hf7_10 := zq4 BK101.out 10; have hf7_11 := zq4 BK101.out 11; have hf7_12 := zq4 BK101.out 12; have hf7_13 := zq4 BK101.out 13; have hf7_14 := zq4 BK101.out 14; have hf7_15 := zq4 BK101.out 15; have hf7_16 := zq4 BK101.out 16) | ((with_reducible refine gate_callee (f := 64) rfl ?_); refine zgo (some 17) Try.func64 #[.agg #[.int .i64 a0_0, .bool a0_1, .int .u64 a0_2, .int .u64 a0_3, .int .u64 a0_4, .int .u64 a0_5], .agg #[.int .u64 a0_6, .int .u64 a0_7, .int .u64 a0_8, .bool a0_9], .int .u64 a1, .int .i64 0, .int .i64 0] ?_; (with_reducible refine (weighbridgeref28_Step.calls k a0_0 a0_1 a0_2 a0_3 a0_4 a0_5 a0_6 a0_7 a0_8 a0_9 a1 0 0 t102 t103 t104 t105 t106 _ A4.out).mono ?_); rintro e w8 ⟨rfl, hb⟩; refine ⟨_, rfl, ?_⟩; replace BK101 := zs BK101 hb; replace HB := zt HB hb; (try clear hb)) | ((with_reducible refine zd 5 rfl ?_); refine zb 5 #[.int .u64 0, .int .u64 0, .int .u64 0, .bool false] 51 ?_; intro gb107 hg w9 hbox hb; have BK107 := zq3 (hbox); have GW107 := ze hg HB; have GE107 := GW107; have NB101_107 := zl hg BK101; have NB107_101 := zg hg BK101; replace BK101 := zs BK101 hb; replace HB := zt HB hb; clear hb hbox hg; have hnb10 := NB107_101.out; have hnc10 := NB101_107.out; obtain ⟨hc11_0, hc11_1, hc11_2, hc11_3⟩ := zc4 BK107; obtain ⟨hf11_0, hf11_1, hf11_2, hf11_3⟩ := zf4 BK107; have hc12_0 : w9.cell? ⟨gb101, 0, none⟩ = some (.int .i64 a0_0) := (zq5 BK101.out 0).trans rfl; have hc12_1 : w9.cell? ⟨gb101, 1, none⟩ = some (.bool a0_1) := (zq5 BK101.out 1).trans rfl; have hc12_2 : w9.cell? ⟨gb101, 2, none⟩ = some (.int .u64 a0_2) := (zq5 BK101.out 2).trans rfl; have hc12_3 : w9.cell? ⟨gb101, 3, none⟩ = some (.int .u64 a0_3) := (zq5 BK101.out 3).trans rfl; have hc12_4 : w9.cell? ⟨gb101, 4, none⟩ = some (.int .u64 a0_4) := (zq5 BK101.out 4).trans rfl; have hc12_5 : w9.cell? ⟨gb101, 5, none⟩ = some (.int .u64 a0_5) := (zq5 BK101.out 5).trans rfl; have hc12_6 : w9.cell? ⟨gb101, 6, none⟩ = some (.int .u64 a0_6) := (zq5 BK101.out 6).trans rfl; have hc12_7 : w9.cell? ⟨gb101, 7, none⟩ = some (.int .u64 a0_7) := (zq5 BK101.out 7).trans rfl; have hc12_8 : w9.cell? ⟨gb101, 8, none⟩ = some (.int .u64 a0_8) := (zq5 BK101.out 8).trans rfl; have hc12_9 : w9.cell? ⟨gb101, 9, none⟩ = some (.bool a0_9) := (zq5 BK101.out 9).trans rfl; have hc12_10 : w9.cell? ⟨gb101, 10, none⟩ = some (.int .u64 a0_10) := (zq5 BK101.out 10).trans rfl; have hc12_11 : w9.cell? ⟨gb101, 11, none⟩ = some (.int .u64 a0_11) := (zq5 BK101.out 11).trans rfl; have hc12_12 : w9.cell? ⟨gb101, 12, none⟩ = some (.int .u64 a0_12) := (zq5 BK101.out 12).trans rfl; have hc12_13 : w9.cell? ⟨gb101, 13, none⟩ = some (.bool a0_13) := (zq5 BK101.out 13).trans rfl; have hc12_14 : w9.cell? ⟨gb101, 14, none⟩ = some (.int .i64 a0_14) := (zq5 BK101.out 14).trans rfl; have hc12_15 : w9.cell? ⟨gb101, 15, none⟩ = some (.int .i64 a0_15) := (zq5 BK101.out 15).trans rfl; have hc12_16 : w9.cell? ⟨gb101, 16, none⟩ = some (.bool true) := (zq5 BK101.out 16).trans rfl; have hf12_0 := zq4 BK101.out 0; have hf12_1 := zq4 BK101.out 1; have hf12_2 := zq4 BK101.out 2; have hf12_3 := zq4 BK101.out 3; have hf12_4 := zq4 BK101.out 4; have hf12_5 := zq4 BK101.out 5; have hf12_6 := zq4 BK101.out 6; have hf12_7 := zq4 BK101.out 7; have hf12_8 := zq4 BK101.out 8; have hf12_9 := zq4 BK101.out 9; have hf12_10 := zq4 BK101.out 10; have hf12_11 := zq4 BK101.out 11; have hf12_12 := zq4 BK101.out 12; have hf12_13 := zq4 BK101.out 13; have hf12_14 := zq4 BK101.out 14; have hf12_15 := zq4 BK101.out 15; have hf12_16 := zq4 BK101.out 16))
   go_ret
   exact ⟨by first | rfl | (simp [errW_none, errW_some] <;> rfl) | (simp [*, errW_none, errW_some] <;> rfl), zh HB⟩
  ·
   rw [if_neg c5] at H
   have c5b0 : decide (a0_10 ≤ t102) = false := decide_eq_false c5
   clear c5
   obtain rfl := Option.some.inj H
   go_enter Try.func79, Try.ntmps79
   go_wp2_with (first | ((with_reducible refine zd 2 rfl ?_); refine zb 2 #[.int .i64 a0_0, .bool a0_1, .int .u64 a0_2, .int .u64 a0_3, .int .u64 a0_4, .int .u64 a0_5, .int .u64 a0_6, .int .u64 a0_7, .int .u64 a0_8, .bool a0_9, .int .u64 a0_10, .int .u64 a0_11, .int .u64 a0_12, .bool a0_13, .int .i64 a0_14, .int .i64 a0_15, .bool true] 95 ?_; intro gb101 hg w13 hbox hb; have BK101 := zq3 (hbox); have GW101 := ze hg HB; have GE101 := GW101; replace HB := zt HB hb; clear hb hbox hg; have hc14_0 : w13.cell? ⟨gb101, 0, none⟩ = some (.int .i64 a0_0) := (zq5 BK101.out 0).trans rfl; have hc14_1 : w13.cell? ⟨gb101, 1, none⟩ = some (.bool a0_1) := (zq5 BK101.out 1).trans rfl; have hc14_2 : w13.cell? ⟨gb101, 2, none⟩ = some (.int .u64 a0_2) := (zq5 BK101.out 2).trans rfl; have hc14_3 : w13.cell? ⟨gb101, 3, none⟩ = some (.int .u64 a0_3) := (zq5 BK101.out 3).trans rfl; have hc14_4 : w13.cell? ⟨gb101, 4, none⟩ = some (.int .u64 a0_4) := (zq5 BK101.out 4).trans rfl; have hc14_5 : w13.cell? ⟨gb101, 5, none⟩ = some (.int .u64 a0_5) := (zq5 BK101.out 5).trans rfl; have hc14_6 : w13.cell? ⟨gb101, 6, none⟩ = some (.int .u64 a0_6) := (zq5 BK101.out 6).trans rfl; have hc14_7 : w13.cell? ⟨gb101, 7, none⟩ = some (.int .u64 a0_7) := (zq5 BK101.out 7).trans rfl; have hc14_8 : w13.cell? ⟨gb101, 8, none⟩ = some (.int .u64 a0_8) := (zq5 BK101.out 8).trans rfl; have hc14_9 : w13.cell? ⟨gb101, 9, none⟩ = some (.bool a0_9) := (zq5 BK101.out 9).trans rfl; have hc14_10 : w13.cell? ⟨gb101, 10, none⟩ = some (.int .u64 a0_10) := (zq5 BK101.out 10).trans rfl; have hc14_11 : w13.cell? ⟨gb101, 11, none⟩ = some (.int .u64 a0_11) := (zq5 BK101.out 11).trans rfl; have hc14_12 : w13.cell? ⟨gb101, 12, none⟩ = some (.int .u64 a0_12) := (zq5 BK101.out 12).trans rfl; have hc14_13 : w13.cell? ⟨gb101, 13, none⟩ = some (.bool a0_13) := (zq5 BK101.out 13).trans rfl; have hc14_14 : w13.cell? ⟨gb101, 14, none⟩ = some (.int .i64 a0_14) := (zq5 BK101.out 14).trans rfl; have hc14_15 : w13.cell? ⟨gb101, 15, none⟩ = some (.int .i64 a0_15) := (zq5 BK101.out 15).trans rfl; have hc14_16 : w13.cell? ⟨gb101, 16, none⟩ = some (.bool true) := (zq5 BK101.out 16).trans rfl; have hf14_0 := zq4 BK101.out 0; have hf14_1 := zq4 BK101.out 1; have hf14_2 := zq4 BK101.out 2; have hf14_3 := zq4 BK101.out 3; have hf14_4 := zq4 BK101.out 4; have hf14_5 := zq4 BK101.out 5; have hf14_6 := zq4 BK101.out 6; have hf14_7 := zq4 BK101.out 7; have hf14_8 := zq4 BK101.out 8; have hf14_9 := zq4 BK101.out 9; have hf14_10 := zq4 BK101.out 10; have hf14_11 := zq4 BK101.out 11; have hf14_12 := zq4 BK101.out 12; have hf14_13 := zq4 BK101.out 13; have hf14_14 := zq4 BK101.out 14; have hf14_15 := zq4 BK101.out 15; have hf14_16 := zq4 BK101.out 16) | ((with_reducible refine gate_callee (f := 64) rfl ?_); refine zgo (some 17) Try.func64 #[.agg #[.int .i64 a0_0, .bool a0_1, .int .u64 a0_2, .int .u64 a0_3, .int .u64 a0_4, .int .u64 a0_5], .agg #[.int .u64 a0_6, .int .u64 a0_7, .int .u64 a0_8, .bool a0_9], .int .u64 a1, .int .i64 0, .int .i64 0] ?_; (with_reducible refine (weighbridgeref28_Step.calls k a0_0 a0_1 a0_2 a0_3 a0_4 a0_5 a0_6 a0_7 a0_8 a0_9 a1 0 0 t102 t103 t104 t105 t106 _ A4.out).mono ?_); rintro e w15 ⟨rfl, hb⟩; refine ⟨_, rfl, ?_⟩; replace BK101 := zs BK101 hb; replace HB := zt HB hb; (try clear hb)) | ((with_reducible refine zd 5 rfl ?_); refine zb 5 #[.int .u64 0, .int .u64 0, .int .u64 0, .bool false] 51 ?_; intro gb107 hg w16 hbox hb; have BK107 := zq3 (hbox); have GW107 := ze hg HB; have GE107 := GW107; have NB101_107 := zl hg BK101; have NB107_101 := zg hg BK101; replace BK101 := zs BK101 hb; replace HB := zt HB hb; clear hb hbox hg; have hnb17 := NB107_101.out; have hnc17 := NB101_107.out; obtain ⟨hc18_0, hc18_1, hc18_2, hc18_3⟩ := zc4 BK107; obtain ⟨hf18_0, hf18_1, hf18_2, hf18_3⟩ := zf4 BK107; have hc19_0 : w16.cell? ⟨gb101, 0, none⟩ = some (.int .i64 a0_0) := (zq5 BK101.out 0).trans rfl; have hc19_1 : w16.cell? ⟨gb101, 1, none⟩ = some (.bool a0_1) := (zq5 BK101.out 1).trans rfl; have hc19_2 : w16.cell? ⟨gb101, 2, none⟩ = some (.int .u64 a0_2) := (zq5 BK101.out 2).trans rfl; have hc19_3 : w16.cell? ⟨gb101, 3, none⟩ = some (.int .u64 a0_3) := (zq5 BK101.out 3).trans rfl; have hc19_4 : w16.cell? ⟨gb101, 4, none⟩ = some (.int .u64 a0_4) := (zq5 BK101.out 4).trans rfl; have hc19_5 : w16.cell? ⟨gb101, 5, none⟩ = some (.int .u64 a0_5) := (zq5 BK101.out 5).trans rfl; have hc19_6 : w16.cell? ⟨gb101, 6, none⟩ = some (.int .u64 a0_6) := (zq5 BK101.out 6).trans rfl; have hc19_7 : w16.cell? ⟨gb101, 7, none⟩ = some (.int .u64 a0_7) := (zq5 BK101.out 7).trans rfl; have hc19_8 : w16.cell? ⟨gb101, 8, none⟩ = some (.int .u64 a0_8) := (zq5 BK101.out 8).trans rfl; have hc19_9 : w16.cell? ⟨gb101, 9, none⟩ = some (.bool a0_9) := (zq5 BK101.out 9).trans rfl; have hc19_10 : w16.cell? ⟨gb101, 10, none⟩ = some (.int .u64 a0_10) := (zq5 BK101.out 10).trans rfl; have hc19_11 : w16.cell? ⟨gb101, 11, none⟩ = some (.int .u64 a0_11) := (zq5 BK101.out 11).trans rfl; have hc19_12 : w16.cell? ⟨gb101, 12, none⟩ = some (.int .u64 a0_12) := (zq5 BK101.out 12).trans rfl; have hc19_13 : w16.cell? ⟨gb101, 13, none⟩ = some (.bool a0_13) := (zq5 BK101.out 13).trans rfl; have hc19_14 : w16.cell? ⟨gb101, 14, none⟩ = some (.int .i64 a0_14) := (zq5 BK101.out 14).trans rfl; have hc19_15 : w16.cell? ⟨gb101, 15, none⟩ = some (.int .i64 a0_15) := (zq5 BK101.out 15).trans rfl; have hc19_16 : w16.cell? ⟨gb101, 16, none⟩ = some (.bool true) := (zq5 BK101.out 16).trans rfl; have hf19_0 := zq4 BK101.out 0; have hf19_1 := zq4 BK101.out 1; have hf19_2 := zq4 BK101.out 2; have hf19_3 := zq4 BK101.out 3; have hf19_4 := zq4 BK101.out 4; have hf19_5 := zq4 BK101.out 5; have hf19_6 := zq4 BK101.out 6; have hf19_7 := zq4 BK101.out 7; have hf19_8 := zq4 BK101.out 8; have hf19_9 := zq4 BK101.out 9; have hf19_10 := zq4 BK101.out 10; have hf19_11 := zq4 BK101.out 11; have hf19_12 := zq4 BK101.out 12; have hf19_13 := zq4 BK101.out 13; have hf19_14 := zq4 BK101.out 14; have hf19_15 := zq4 BK101.out 15; have hf19_16 := zq4 BK101.out 16))
   go_ret
   exact ⟨by first | rfl | (simp [errW_none, errW_some] <;> rfl) | (simp [*, errW_none, errW_some] <;> rfl), zh HB⟩
 ·
  replace c3 := Bool.eq_false_iff.mpr c3
  subst c3
  have H1 : ((weighbridgeref28_Step.f k a0_0 a0_1 a0_2 a0_3 a0_4 a0_5 a0_6 a0_7 a0_8 a0_9 a1 a0_14 0).bind fun bt108 => (some (decide (bt108.2.2.2.2 ≤ a0_15)))) = some r := by rw [if_neg (show ¬ (false = true) by decide)] at H; exact H
  clear H
  have H := H1
  clear H1
  replace H := Option.bind_eq_some_iff.mp H
  obtain ⟨⟨t108, t109, t110, t111, t112⟩, A200, H⟩ := H
  replace H : (some (decide (t112 ≤ a0_15))) = some r := H
  have A20 := zq3 A200
  clear A200
  obtain rfl := Option.some.inj H
  go_enter Try.func79, Try.ntmps79
  go_wp2_with (first | ((with_reducible refine zd 2 rfl ?_); refine zb 2 #[.int .i64 a0_0, .bool a0_1, .int .u64 a0_2, .int .u64 a0_3, .int .u64 a0_4, .int .u64 a0_5, .int .u64 a0_6, .int .u64 a0_7, .int .u64 a0_8, .bool a0_9, .int .u64 a0_10, .int .u64 a0_11, .int .u64 a0_12, .bool a0_13, .int .i64 a0_14, .int .i64 a0_15, .bool false] 95 ?_; intro gb101 hg w21 hbox hb; have BK101 := zq3 (hbox); have GW101 := ze hg HB; have GE101 := GW101; replace HB := zt HB hb; clear hb hbox hg; have hc22_0 : w21.cell? ⟨gb101, 0, none⟩ = some (.int .i64 a0_0) := (zq5 BK101.out 0).trans rfl; have hc22_1 : w21.cell? ⟨gb101, 1, none⟩ = some (.bool a0_1) := (zq5 BK101.out 1).trans rfl; have hc22_2 : w21.cell? ⟨gb101, 2, none⟩ = some (.int .u64 a0_2) := (zq5 BK101.out 2).trans rfl; have hc22_3 : w21.cell? ⟨gb101, 3, none⟩ = some (.int .u64 a0_3) := (zq5 BK101.out 3).trans rfl; have hc22_4 : w21.cell? ⟨gb101, 4, none⟩ = some (.int .u64 a0_4) := (zq5 BK101.out 4).trans rfl; have hc22_5 : w21.cell? ⟨gb101, 5, none⟩ = some (.int .u64 a0_5) := (zq5 BK101.out 5).trans rfl; have hc22_6 : w21.cell? ⟨gb101, 6, none⟩ = some (.int .u64 a0_6) := (zq5 BK101.out 6).trans rfl; have hc22_7 : w21.cell? ⟨gb101, 7, none⟩ = some (.int .u64 a0_7) := (zq5 BK101.out 7).trans rfl; have hc22_8 : w21.cell? ⟨gb101, 8, none⟩ = some (.int .u64 a0_8) := (zq5 BK101.out 8).trans rfl; have hc22_9 : w21.cell? ⟨gb101, 9, none⟩ = some (.bool a0_9) := (zq5 BK101.out 9).trans rfl; have hc22_10 : w21.cell? ⟨gb101, 10, none⟩ = some (.int .u64 a0_10) := (zq5 BK101.out 10).trans rfl; have hc22_11 : w21.cell? ⟨gb101, 11, none⟩ = some (.int .u64 a0_11) := (zq5 BK101.out 11).trans rfl; have hc22_12 : w21.cell? ⟨gb101, 12, none⟩ = some (.int .u64 a0_12) := (zq5 BK101.out 12).trans rfl; have hc22_13 : w21.cell? ⟨gb101, 13, none⟩ = some (.bool a0_13) := (zq5 BK101.out 13).trans rfl; have hc22_14 : w21.cell? ⟨gb101, 14, none⟩ = some (.int .i64 a0_14) := (zq5 BK101.out 14).trans rfl; have hc22_15 : w21.cell? ⟨gb101, 15, none⟩ = some (.int .i64 a0_15) := (zq5 BK101.out 15).trans rfl; have hc22_16 : w21.cell? ⟨gb101, 16, none⟩ = some (.bool false) := (zq5 BK101.out 16).trans rfl; have hf22_0 := zq4 BK101.out 0; have hf22_1 := zq4 BK101.out 1; have hf22_2 := zq4 BK101.out 2; have hf22_3 := zq4 BK101.out 3; have hf22_4 := zq4 BK101.out 4; have hf22_5 := zq4 BK101.out 5; have hf22_6 := zq4 BK101.out 6; have hf22_7 := zq4 BK101.out 7; have hf22_8 := zq4 BK101.out 8; have hf22_9 := zq4 BK101.out 9; have hf22_10 := zq4 BK101.out 10; have hf22_11 := zq4 BK101.out 11; have hf22_12 := zq4 BK101.out 12; have hf22_13 := zq4 BK101.out 13; have hf22_14 := zq4 BK101.out 14; have hf22_15 := zq4 BK101.out 15; have hf22_16 := zq4 BK101.out 16) | ((with_reducible refine gate_callee (f := 64) rfl ?_); refine zgo (some 42) Try.func64 #[.agg #[.int .i64 a0_0, .bool a0_1, .int .u64 a0_2, .int .u64 a0_3, .int .u64 a0_4, .int .u64 a0_5], .agg #[.int .u64 a0_6, .int .u64 a0_7, .int .u64 a0_8, .bool a0_9], .int .u64 a1, .int .i64 a0_14, .int .i64 0] ?_; (with_reducible refine (weighbridgeref28_Step.calls k a0_0 a0_1 a0_2 a0_3 a0_4 a0_5 a0_6 a0_7 a0_8 a0_9 a1 a0_14 0 t108 t109 t110 t111 t112 _ A20.out).mono ?_); rintro e w23 ⟨rfl, hb⟩; refine ⟨_, rfl, ?_⟩; replace BK101 := zs BK101 hb; replace HB := zt HB hb; (try clear hb)) | ((with_reducible refine zd 7 rfl ?_); refine zb 7 #[.int .u64 0, .int .u64 0, .int .u64 0, .bool false] 51 ?_; intro gb113 hg w24 hbox hb; have BK113 := zq3 (hbox); have GW113 := ze hg HB; have GE113 := GW113; have NB101_113 := zl hg BK101; have NB113_101 := zg hg BK101; replace BK101 := zs BK101 hb; replace HB := zt HB hb; clear hb hbox hg; have hnb25 := NB113_101.out; have hnc25 := NB101_113.out; obtain ⟨hc26_0, hc26_1, hc26_2, hc26_3⟩ := zc4 BK113; obtain ⟨hf26_0, hf26_1, hf26_2, hf26_3⟩ := zf4 BK113; have hc27_0 : w24.cell? ⟨gb101, 0, none⟩ = some (.int .i64 a0_0) := (zq5 BK101.out 0).trans rfl; have hc27_1 : w24.cell? ⟨gb101, 1, none⟩ = some (.bool a0_1) := (zq5 BK101.out 1).trans rfl; have hc27_2 : w24.cell? ⟨gb101, 2, none⟩ = some (.int .u64 a0_2) := (zq5 BK101.out 2).trans rfl; have hc27_3 : w24.cell? ⟨gb101, 3, none⟩ = some (.int .u64 a0_3) := (zq5 BK101.out 3).trans rfl; have hc27_4 : w24.cell? ⟨gb101, 4, none⟩ = some (.int .u64 a0_4) := (zq5 BK101.out 4).trans rfl; have hc27_5 : w24.cell? ⟨gb101, 5, none⟩ = some (.int .u64 a0_5) := (zq5 BK101.out 5).trans rfl; have hc27_6 : w24.cell? ⟨gb101, 6, none⟩ = some (.int .u64 a0_6) := (zq5 BK101.out 6).trans rfl; have hc27_7 : w24.cell? ⟨gb101, 7, none⟩ = some (.int .u64 a0_7) := (zq5 BK101.out 7).trans rfl; have hc27_8 : w24.cell? ⟨gb101, 8, none⟩ = some (.int .u64 a0_8) := (zq5 BK101.out 8).trans rfl; have hc27_9 : w24.cell? ⟨gb101, 9, none⟩ = some (.bool a0_9) := (zq5 BK101.out 9).trans rfl; have hc27_10 : w24.cell? ⟨gb101, 10, none⟩ = some (.int .u64 a0_10) := (zq5 BK101.out 10).trans rfl; have hc27_11 : w24.cell? ⟨gb101, 11, none⟩ = some (.int .u64 a0_11) := (zq5 BK101.out 11).trans rfl; have hc27_12 : w24.cell? ⟨gb101, 12, none⟩ = some (.int .u64 a0_12) := (zq5 BK101.out 12).trans rfl; have hc27_13 : w24.cell? ⟨gb101, 13, none⟩ = some (.bool a0_13) := (zq5 BK101.out 13).trans rfl; have hc27_14 : w24.cell? ⟨gb101, 14, none⟩ = some (.int .i64 a0_14) := (zq5 BK101.out 14).trans rfl; have hc27_15 : w24.cell? ⟨gb101, 15, none⟩ = some (.int .i64 a0_15) := (zq5 BK101.out 15).trans rfl; have hc27_16 : w24.cell? ⟨gb101, 16, none⟩ = some (.bool false) := (zq5 BK101.out 16).trans rfl; have hf27_0 := zq4 BK101.out 0; have hf27_1 := zq4 BK101.out 1; have hf27_2 := zq4 BK101.out 2; have hf27_3 := zq4 BK101.out 3; have hf27_4 := zq4 BK101.out 4; have hf27_5 := zq4 BK101.out 5; have hf27_6 := zq4 BK101.out 6; have hf27_7 := zq4 BK101.out 7; have hf27_8 := zq4 BK101.out 8; have hf27_9 := zq4 BK101.out 9; have hf27_10 := zq4 BK101.out 10; have hf27_11 := zq4 BK101.out 11; have hf27_12 := zq4 BK101.out 12; have hf27_13 := zq4 BK101.out 13; have hf27_14 := zq4 BK101.out 14; have hf27_15 := zq4 BK101.out 15; have hf27_16 := zq4 BK101.out 16))
  go_ret
  exact ⟨by first | rfl | (simp [errW_none, errW_some] <;> rfl) | (simp [*, errW_none, errW_some] <;> rfl), zh HB⟩

end Go.Proofs.Ytiaoaoebghnpkaa.P
end
section
namespace Go.Proofs.Ytiaoaoebghnpkaa.P
open Go.RowKit Go.Proofs.YtiaoaoebghnpkaaW.PrintWords Go.Proofs.YtiaoaoebghnpkaaW.PrintLast Go.Proofs.YtiaoaoebghnpkaaW.PrintMore
attribute [local go_sem] max2_int min2_int max_two min_two max_three min_three max_four min_four   -- for this text's walks alone
set_option linter.unusedVariables false
set_option linter.unusedSimpArgs false

/-! ### weighbridgeref30_Asked_first: function 58 -/
mutual
def weighbridgeref30_Asked_first.j0 : Nat → Int → Int → Int → Bool → Int → Int → Int → Int → Int → Int → Int → Bool → Int → Int → Int → Bool → Int → Int → Bool → Option (Int × Bool)
 | 0, _, _, _, _, _, _, _, _, _, _, _, _, _, _, _, _, _, _, _ => none
 | k + 1, x4, x5, x102000, x102001, x102002, x102003, x102004, x102005, x102006, x102007, x102008, x102009, x102010, x102011, x102012, x102013, x102014, x102015, x102016 => (weighbridgeref30_Asked_holds.f k x102000 x102001 x102002 x102003 x102004 x102005 x102006 x102007 x102008 x102009 x102010 x102011 x102012 x102013 x102014 x102015 x102016 x5).bind fun t102 => (if t102 = true then (weighbridgeref30_Asked_first.l0 k x4 x5 x102000 x102001 x102002 x102003 x102004 x102005 x102006 x102007 x102008 x102009 x102010 x102011 x102012 x102013 x102014 x102015 x102016) else (some (0, false)))
def weighbridgeref30_Asked_first.l0 : Nat → Int → Int → Int → Bool → Int → Int → Int → Int → Int → Int → Int → Bool → Int → Int → Int → Bool → Int → Int → Bool → Option (Int × Bool)
 | 0, _, _, _, _, _, _, _, _, _, _, _, _, _, _, _, _, _, _, _ => none
 | k + 1, x4, x5, x102000, x102001, x102002, x102003, x102004, x102005, x102006, x102007, x102008, x102009, x102010, x102011, x102012, x102013, x102014, x102015, x102016 => if x4 < x5 then ((weighbridgeref30_Asked_holds.f k x102000 x102001 x102002 x102003 x102004 x102005 x102006 x102007 x102008 x102009 x102010 x102011 x102012 x102013 x102014 x102015 x102016 (IntKind.u64.wrap (x4 + (IntKind.u64.wrap (Int.tdiv (IntKind.u64.wrap (x5 - x4)) 2))))).bind fun t103 => (if t103 = true then (weighbridgeref30_Asked_first.l0 k x4 (IntKind.u64.wrap (x4 + (IntKind.u64.wrap (Int.tdiv (IntKind.u64.wrap (x5 - x4)) 2)))) x102000 x102001 x102002 x102003 x102004 x102005 x102006 x102007 x102008 x102009 x102010 x102011 x102012 x102013 x102014 x102015 x102016) else (weighbridgeref30_Asked_first.l0 k (IntKind.u64.wrap ((IntKind.u64.wrap (x4 + (IntKind.u64.wrap (Int.tdiv (IntKind.u64.wrap (x5 - x4)) 2)))) + 1)) x5 x102000 x102001 x102002 x102003 x102004 x102005 x102006 x102007 x102008 x102009 x102010 x102011 x102012 x102013 x102014 x102015 x102016))) else (some (x4, true))
end
def weighbridgeref30_Asked_first.f (k : Nat) (a0_0 : Int) (a0_1 : Bool) (a0_2 : Int) (a0_3 : Int) (a0_4 : Int) (a0_5 : Int) (a0_6 : Int) (a0_7 : Int) (a0_8 : Int) (a0_9 : Bool) (a0_10 : Int) (a0_11 : Int) (a0_12 : Int) (a0_13 : Bool) (a0_14 : Int) (a0_15 : Int) (a0_16 : Bool) : Option (Int × Bool) := if a0_9 = true then (weighbridgeref30_Asked_first.j0 k a0_8 18446744073709551615 a0_0 a0_1 a0_2 a0_3 a0_4 a0_5 a0_6 a0_7 a0_8 a0_9 a0_10 a0_11 a0_12 a0_13 a0_14 a0_15 a0_16) else (weighbridgeref30_Asked_first.j0 k 0 18446744073709551615 a0_0 a0_1 a0_2 a0_3 a0_4 a0_5 a0_6 a0_7 a0_8 a0_9 a0_10 a0_11 a0_12 a0_13 a0_14 a0_15 a0_16)
set_option maxHeartbeats 8000000 in
set_option maxRecDepth 100000 in
theorem weighbridgeref30_Asked_first.calls (k : Nat) (a0_0 : Int) (a0_1 : Bool) (a0_2 : Int) (a0_3 : Int) (a0_4 : Int) (a0_5 : Int) (a0_6 : Int) (a0_7 : Int) (a0_8 : Int) (a0_9 : Bool) (a0_10 : Int) (a0_11 : Int) (a0_12 : Int) (a0_13 : Bool) (a0_14 : Int) (a0_15 : Int) (a0_16 : Bool) (r1 : Int) (r2 : Bool) (w : World) (h : weighbridgeref30_Asked_first.f k a0_0 a0_1 a0_2 a0_3 a0_4 a0_5 a0_6 a0_7 a0_8 a0_9 a0_10 a0_11 a0_12 a0_13 a0_14 a0_15 a0_16 = some (r1, r2)) :
  Calls Try.prog 58 #[.agg #[.int .i64 a0_0, .bool a0_1, .int .u64 a0_2, .int .u64 a0_3, .int .u64 a0_4, .int .u64 a0_5, .int .u64 a0_6, .int .u64 a0_7, .int .u64 a0_8, .bool a0_9, .int .u64 a0_10, .int .u64 a0_11, .int .u64 a0_12, .bool a0_13, .int .i64 a0_14, .int .i64 a0_15, .bool a0_16]] w fun e w' => e = .returned (.tuple #[.int .u64 r1, .bool r2]) ∧ Below w.heap.size w w' := by
 have hu95 := Try.underlying95
 have HB := zq3 (Below.refl w.heap.size w)
 have H : (if a0_9 = true then (weighbridgeref30_Asked_first.j0 k a0_8 18446744073709551615 a0_0 a0_1 a0_2 a0_3 a0_4 a0_5 a0_6 a0_7 a0_8 a0_9 a0_10 a0_11 a0_12 a0_13 a0_14 a0_15 a0_16) else (weighbridgeref30_Asked_first.j0 k 0 18446744073709551615 a0_0 a0_1 a0_2 a0_3 a0_4 a0_5 a0_6 a0_7 a0_8 a0_9 a0_10 a0_11 a0_12 a0_13 a0_14 a0_15 a0_16)) = some (r1, r2) := h
 clear h
 have HC2 := zq3 H
 clear H
 go_enter Try.func58, Try.ntmps58
 go_upto_if 9 with (first | ((with_reducible refine zd 1 rfl ?_); refine zb 1 #[.int .i64 a0_0, .bool a0_1, .int .u64 a0_2, .int .u64 a0_3, .int .u64 a0_4, .int .u64 a0_5, .int .u64 a0_6, .int .u64 a0_7, .int .u64 a0_8, .bool a0_9, .int .u64 a0_10, .int .u64 a0_11, .int .u64 a0_12, .bool a0_13, .int .i64 a0_14, .int .i64 a0_15, .bool a0_16] 95 ?_; intro gb101 hg w3 hbox hb; have BK101 := zq3 (hbox); have GW101 := ze hg HB; have GE101 := GW101; replace HB := zt HB hb; clear hb hbox hg; have hc4_0 : w3.cell? ⟨gb101, 0, none⟩ = some (.int .i64 a0_0) := (zq5 BK101.out 0).trans rfl; have hc4_1 : w3.cell? ⟨gb101, 1, none⟩ = some (.bool a0_1) := (zq5 BK101.out 1).trans rfl; have hc4_2 : w3.cell? ⟨gb101, 2, none⟩ = some (.int .u64 a0_2) := (zq5 BK101.out 2).trans rfl; have hc4_3 : w3.cell? ⟨gb101, 3, none⟩ = some (.int .u64 a0_3) := (zq5 BK101.out 3).trans rfl; have hc4_4 : w3.cell? ⟨gb101, 4, none⟩ = some (.int .u64 a0_4) := (zq5 BK101.out 4).trans rfl; have hc4_5 : w3.cell? ⟨gb101, 5, none⟩ = some (.int .u64 a0_5) := (zq5 BK101.out 5).trans rfl; have hc4_6 : w3.cell? ⟨gb101, 6, none⟩ = some (.int .u64 a0_6) := (zq5 BK101.out 6).trans rfl; have hc4_7 : w3.cell? ⟨gb101, 7, none⟩ = some (.int .u64 a0_7) := (zq5 BK101.out 7).trans rfl; have hc4_8 : w3.cell? ⟨gb101, 8, none⟩ = some (.int .u64 a0_8) := (zq5 BK101.out 8).trans rfl; have hc4_9 : w3.cell? ⟨gb101, 9, none⟩ = some (.bool a0_9) := (zq5 BK101.out 9).trans rfl; have hc4_10 : w3.cell? ⟨gb101, 10, none⟩ = some (.int .u64 a0_10) := (zq5 BK101.out 10).trans rfl; have hc4_11 : w3.cell? ⟨gb101, 11, none⟩ = some (.int .u64 a0_11) := (zq5 BK101.out 11).trans rfl; have hc4_12 : w3.cell? ⟨gb101, 12, none⟩ = some (.int .u64 a0_12) := (zq5 BK101.out 12).trans rfl; have hc4_13 : w3.cell? ⟨gb101, 13, none⟩ = some (.bool a0_13) := (zq5 BK101.out 13).trans rfl; have hc4_14 : w3.cell? ⟨gb101, 14, none⟩ = some (.int .i64 a0_14) := (zq5 BK101.out 14).trans rfl; have hc4_15 : w3.cell? ⟨gb101, 15, none⟩ = some (.int .i64 a0_15) := (zq5 BK101.out 15).trans rfl; have hc4_16 : w3.cell? ⟨gb101, 16, none⟩ = some (.bool a0_16) := (zq5 BK101.out 16).trans rfl; have hf4_0 := zq4 BK101.out 0; have hf4_1 := zq4 BK101.out 1; have hf4_2 := zq4 BK101.out 2; have hf4_3 := zq4 BK101.out 3; have hf4_4 := zq4 BK101.out 4; have hf4_5 := zq4 BK101.out 5; have hf4_6 := zq4 BK101.out 6; have hf4_7 := zq4 BK101.out 7; have hf4_8 := zq4 BK101.out 8; have hf4_9 := zq4 BK101.out 9; have hf4_10 := zq4 BK101.out 10; have hf4_11 := zq4 BK101.out 11; have hf4_12 := zq4 BK101.out 12; have hf4_13 := zq4 BK101.out 13; have hf4_14 := zq4 BK101.out 14; have hf4_15 := zq4 BK101.out 15; have hf4_16 := zq4 BK101.out 16))
 (try simp only [Act.put, List.setIfInBounds_toArray, List.set_cons_zero, List.set_cons_succ])
 go_cut [4] (fun v4 wc => ∃ (kq : Nat) (x4_1 : Int), v4 = .int .u64 x4_1 ∧ Aside0 (weighbridgeref30_Asked_first.j0 kq x4_1 18446744073709551615 a0_0 a0_1 a0_2 a0_3 a0_4 a0_5 a0_6 a0_7 a0_8 a0_9 a0_10 a0_11 a0_12 a0_13 a0_14 a0_15 a0_16 = some (r1, r2)) ∧ Aside0 (kq ≤ k) ∧ Aside0 (wc.heap[gb101]? = some (.cells #[.int .i64 a0_0, .bool a0_1, .int .u64 a0_2, .int .u64 a0_3, .int .u64 a0_4, .int .u64 a0_5, .int .u64 a0_6, .int .u64 a0_7, .int .u64 a0_8, .bool a0_9, .int .u64 a0_10, .int .u64 a0_11, .int .u64 a0_12, .bool a0_13, .int .i64 a0_14, .int .i64 a0_15, .bool a0_16] 95 (0, 0))) ∧ Aside0 (Below w.heap.size w wc))
 case first =>
  have H := HC2.out
  clear HC2
  by_cases c5 : a0_9 = true
  ·
   subst c5
   have H1 : (weighbridgeref30_Asked_first.j0 k a0_8 18446744073709551615 a0_0 a0_1 a0_2 a0_3 a0_4 a0_5 a0_6 a0_7 a0_8 true a0_10 a0_11 a0_12 a0_13 a0_14 a0_15 a0_16) = some (r1, r2) := by rw [if_pos rfl] at H; exact H
   clear H
   have H := H1
   clear H1
   have H' := zq3 H
   clear H
   have hc6_0 : w3.cell? ⟨gb101, 0, none⟩ = some (.int .i64 a0_0) := (zq5 BK101.out 0).trans rfl
   have hc6_1 : w3.cell? ⟨gb101, 1, none⟩ = some (.bool a0_1) := (zq5 BK101.out 1).trans rfl
   have hc6_2 : w3.cell? ⟨gb101, 2, none⟩ = some (.int .u64 a0_2) := (zq5 BK101.out 2).trans rfl
   have hc6_3 : w3.cell? ⟨gb101, 3, none⟩ = some (.int .u64 a0_3) := (zq5 BK101.out 3).trans rfl
   have hc6_4 : w3.cell? ⟨gb101, 4, none⟩ = some (.int .u64 a0_4) := (zq5 BK101.out 4).trans rfl
   have hc6_5 : w3.cell? ⟨gb101, 5, none⟩ = some (.int .u64 a0_5) := (zq5 BK101.out 5).trans rfl
   have hc6_6 : w3.cell? ⟨gb101, 6, none⟩ = some (.int .u64 a0_6) := (zq5 BK101.out 6).trans rfl
   have hc6_7 : w3.cell? ⟨gb101, 7, none⟩ = some (.int .u64 a0_7) := (zq5 BK101.out 7).trans rfl
   have hc6_8 : w3.cell? ⟨gb101, 8, none⟩ = some (.int .u64 a0_8) := (zq5 BK101.out 8).trans rfl
   have hc6_9 : w3.cell? ⟨gb101, 9, none⟩ = some (.bool true) := (zq5 BK101.out 9).trans rfl
   have hc6_10 : w3.cell? ⟨gb101, 10, none⟩ = some (.int .u64 a0_10) := (zq5 BK101.out 10).trans rfl
   have hc6_11 : w3.cell? ⟨gb101, 11, none⟩ = some (.int .u64 a0_11) := (zq5 BK101.out 11).trans rfl
   have hc6_12 : w3.cell? ⟨gb101, 12, none⟩ = some (.int .u64 a0_12) := (zq5 BK101.out 12).trans rfl
   have hc6_13 : w3.cell? ⟨gb101, 13, none⟩ = some (.bool a0_13) := (zq5 BK101.out 13).trans rfl
   have hc6_14 : w3.cell? ⟨gb101, 14, none⟩ = some (.int .i64 a0_14) := (zq5 BK101.out 14).trans rfl
   have hc6_15 : w3.cell? ⟨gb101, 15, none⟩ = some (.int .i64 a0_15) := (zq5 BK101.out 15).trans rfl
   have hc6_16 : w3.cell? ⟨gb101, 16, none⟩ = some (.bool a0_16) := (zq5 BK101.out 16).trans rfl
   have hf6_0 := zq4 BK101.out 0
   have hf6_1 := zq4 BK101.out 1
   have hf6_2 := zq4 BK101.out 2
   have hf6_3 := zq4 BK101.out 3
   have hf6_4 := zq4 BK101.out 4
   have hf6_5 := zq4 BK101.out 5
   have hf6_6 := zq4 BK101.out 6
   have hf6_7 := zq4 BK101.out 7
   have hf6_8 := zq4 BK101.out 8
   have hf6_9 := zq4 BK101.out 9
   have hf6_10 := zq4 BK101.out 10
   have hf6_11 := zq4 BK101.out 11
   have hf6_12 := zq4 BK101.out 12
   have hf6_13 := zq4 BK101.out 13
   have hf6_14 := zq4 BK101.out 14
   have hf6_15 := zq4 BK101.out 15
   have hf6_16 := zq4 BK101.out 16
   go_wp2
   go_meet
   case rel => exact ⟨_, (a0_8), (by first | rfl | (simp; done) | (simp [*]; done)), H', ⟨by first | omega | exact Nat.le_refl _⟩, ⟨zw BK101⟩, ⟨zh HB⟩⟩
  ·
   replace c5 := Bool.eq_false_iff.mpr c5
   subst c5
   have H1 : (weighbridgeref30_Asked_first.j0 k 0 18446744073709551615 a0_0 a0_1 a0_2 a0_3 a0_4 a0_5 a0_6 a0_7 a0_8 false a0_10 a0_11 a0_12 a0_13 a0_14 a0_15 a0_16) = some (r1, r2) := by rw [if_neg (show ¬ (false = true) by decide)] at H; exact H
   clear H
   have H := H1
   clear H1
   have H' := zq3 H
   clear H
   go_wp2
   go_meet
   case rel => exact ⟨_, (0), (by first | rfl | (simp; done) | (simp [*]; done)), H', ⟨by first | omega | exact Nat.le_refl _⟩, ⟨zw BK101⟩, ⟨zh HB⟩⟩
 case rest =>
  clear HC2
  (try clear p2); (try clear c5)
  try clear hc4_0 hc4_1 hc4_10 hc4_11 hc4_12 hc4_13 hc4_14 hc4_15 hc4_16 hc4_2 hc4_3 hc4_4 hc4_5 hc4_6 hc4_7 hc4_8 hc4_9 hc6_0 hc6_1 hc6_10 hc6_11 hc6_12 hc6_13 hc6_14 hc6_15 hc6_16 hc6_2 hc6_3 hc6_4 hc6_5 hc6_6 hc6_7 hc6_8 hc6_9 hf4_0 hf4_1 hf4_10 hf4_11 hf4_12 hf4_13 hf4_14 hf4_15 hf4_16 hf4_2 hf4_3 hf4_4 hf4_5 hf4_6 hf4_7 hf4_8 hf4_9 hf6_0 hf6_1 hf6_10 hf6_11 hf6_12 hf6_13 hf6_14 hf6_15 hf6_16 hf6_2 hf6_3 hf6_4 hf6_5 hf6_6 hf6_7 hf6_8 hf6_9
  obtain ⟨kq, x4_1, rfl, HA, HJ1, BK101, HB⟩ := hcut
  cases kq with
  | zero => exact absurd HA.out (by simp [weighbridgeref30_Asked_first.j0])
  | succ kj1 =>
   have H := HA.out
   clear HA
   simp only [weighbridgeref30_Asked_first.j0] at H
   replace H := Option.bind_eq_some_iff.mp H
   obtain ⟨t102, A70, H⟩ := H
   replace H : (if t102 = true then (weighbridgeref30_Asked_first.l0 kj1 x4_1 18446744073709551615 a0_0 a0_1 a0_2 a0_3 a0_4 a0_5 a0_6 a0_7 a0_8 a0_9 a0_10 a0_11 a0_12 a0_13 a0_14 a0_15 a0_16) else (some (0, false))) = some (r1, r2) := H
   have A7 := zq3 A70
   clear A70
   by_cases c8 : t102 = true
   ·
    subst c8
    have H1 : (weighbridgeref30_Asked_first.l0 kj1 x4_1 18446744073709551615 a0_0 a0_1 a0_2 a0_3 a0_4 a0_5 a0_6 a0_7 a0_8 a0_9 a0_10 a0_11 a0_12 a0_13 a0_14 a0_15 a0_16) = some (r1, r2) := by rw [if_pos rfl] at H; exact H
    clear H
    have H := H1
    clear H1
    have H' := zq3 H
    clear H
    have hc9_0 : wc.cell? ⟨gb101, 0, none⟩ = some (.int .i64 a0_0) := (zq5 BK101.out 0).trans rfl
    have hc9_1 : wc.cell? ⟨gb101, 1, none⟩ = some (.bool a0_1) := (zq5 BK101.out 1).trans rfl
    have hc9_2 : wc.cell? ⟨gb101, 2, none⟩ = some (.int .u64 a0_2) := (zq5 BK101.out 2).trans rfl
    have hc9_3 : wc.cell? ⟨gb101, 3, none⟩ = some (.int .u64 a0_3) := (zq5 BK101.out 3).trans rfl
    have hc9_4 : wc.cell? ⟨gb101, 4, none⟩ = some (.int .u64 a0_4) := (zq5 BK101.out 4).trans rfl
    have hc9_5 : wc.cell? ⟨gb101, 5, none⟩ = some (.int .u64 a0_5) := (zq5 BK101.out 5).trans rfl
    have hc9_6 : wc.cell? ⟨gb101, 6, none⟩ = some (.int .u64 a0_6) := (zq5 BK101.out 6).trans rfl
    have hc9_7 : wc.cell? ⟨gb101, 7, none⟩ = some (.int .u64 a0_7) := (zq5 BK101.out 7).trans rfl
    have hc9_8 : wc.cell? ⟨gb101, 8, none⟩ = some (.int .u64 a0_8) := (zq5 BK101.out 8).trans rfl
    have hc9_9 : wc.cell? ⟨gb101, 9, none⟩ = some (.bool a0_9) := (zq5 BK101.out 9).trans rfl
    have hc9_10 : wc.cell? ⟨gb101, 10, none⟩ = some (.int .u64 a0_10) := (zq5 BK101.out 10).trans rfl
    have hc9_11 : wc.cell? ⟨gb101, 11, none⟩ = some (.int .u64 a0_11) := (zq5 BK101.out 11).trans rfl
    have hc9_12 : wc.cell? ⟨gb101, 12, none⟩ = some (.int .u64 a0_12) := (zq5 BK101.out 12).trans rfl
    have hc9_13 : wc.cell? ⟨gb101, 13, none⟩ = some (.bool a0_13) := (zq5 BK101.out 13).trans rfl
    have hc9_14 : wc.cell? ⟨gb101, 14, none⟩ = some (.int .i64 a0_14) := (zq5 BK101.out 14).trans rfl
    have hc9_15 : wc.cell? ⟨gb101, 15, none⟩ = some (.int .i64 a0_15) := (zq5 BK101.out 15).trans rfl
    have hc9_16 : wc.cell? ⟨gb101, 16, none⟩ = some (.bool a0_16) := (zq5 BK101.out 16).trans rfl
    have hf9_0 := zq4 BK101.out 0
    have hf9_1 := zq4 BK101.out 1
    have hf9_2 := zq4 BK101.out 2
    have hf9_3 := zq4 BK101.out 3
    have hf9_4 := zq4 BK101.out 4
    have hf9_5 := zq4 BK101.out 5
    have hf9_6 := zq4 BK101.out 6
    have hf9_7 := zq4 BK101.out 7
    have hf9_8 := zq4 BK101.out 8
    have hf9_9 := zq4 BK101.out 9
    have hf9_10 := zq4 BK101.out 10
    have hf9_11 := zq4 BK101.out 11
    have hf9_12 := zq4 BK101.out 12
    have hf9_13 := zq4 BK101.out 13
    have hf9_14 := zq4 BK101.out 14
    have hf9_15 := zq4 BK101.out 15
    have hf9_16 := zq4 BK101.out 16
    go_wp2_with (first | ((with_reducible refine gate_callee (f := 79) rfl ?_); refine zgo (some 15) Try.func79 #[.agg #[.int .i64 a0_0, .bool a0_1, .int .u64 a0_2, .int .u64 a0_3, .int .u64 a0_4, .int .u64 a0_5, .int .u64 a0_6, .int .u64 a0_7, .int .u64 a0_8, .bool a0_9, .int .u64 a0_10, .int .u64 a0_11, .int .u64 a0_12, .bool a0_13, .int .i64 a0_14, .int .i64 a0_15, .bool a0_16], .int .u64 18446744073709551615] ?_; (with_reducible refine (weighbridgeref30_Asked_holds.calls kj1 a0_0 a0_1 a0_2 a0_3 a0_4 a0_5 a0_6 a0_7 a0_8 a0_9 a0_10 a0_11 a0_12 a0_13 a0_14 a0_15 a0_16 18446744073709551615 true _ A7.out).mono ?_); rintro e w10 ⟨rfl, hb⟩; refine ⟨_, rfl, ?_⟩; replace BK101 := zs BK101 hb; replace HB := zt HB hb; (try clear hb)))
    go_loopg [4, 5] kj1 (fun kq v4 v5 w' => ∃ (x4_2 : Int) (x5_2 : Int), v4 = .int .u64 x4_2 ∧ v5 = .int .u64 x5_2 ∧ Aside0 (weighbridgeref30_Asked_first.l0 kq x4_2 x5_2 a0_0 a0_1 a0_2 a0_3 a0_4 a0_5 a0_6 a0_7 a0_8 a0_9 a0_10 a0_11 a0_12 a0_13 a0_14 a0_15 a0_16 = some (r1, r2)) ∧ Aside0 (kq ≤ kj1) ∧ Aside0 (w'.heap[gb101]? = some (.cells #[.int .i64 a0_0, .bool a0_1, .int .u64 a0_2, .int .u64 a0_3, .int .u64 a0_4, .int .u64 a0_5, .int .u64 a0_6, .int .u64 a0_7, .int .u64 a0_8, .bool a0_9, .int .u64 a0_10, .int .u64 a0_11, .int .u64 a0_12, .bool a0_13, .int .i64 a0_14, .int .i64 a0_15, .bool a0_16] 95 (0, 0))) ∧ Aside0 (Below w.heap.size w w'))
    case atStart => exact ⟨(x4_1), (18446744073709551615), (by first | rfl | (simp; done) | (simp [*]; done)), (by first | rfl | (simp; done) | (simp [*]; done)), H', ⟨Nat.le_refl _⟩, ⟨zw BK101⟩, ⟨zh HB⟩⟩
    case round =>
     clear H'
     (try clear p2); (try clear c5); (try clear c7); (try clear c8)
     try clear hc4_0 hc4_1 hc4_10 hc4_11 hc4_12 hc4_13 hc4_14 hc4_15 hc4_16 hc4_2 hc4_3 hc4_4 hc4_5 hc4_6 hc4_7 hc4_8 hc4_9 hc6_0 hc6_1 hc6_10 hc6_11 hc6_12 hc6_13 hc6_14 hc6_15 hc6_16 hc6_2 hc6_3 hc6_4 hc6_5 hc6_6 hc6_7 hc6_8 hc6_9 hc9_0 hc9_1 hc9_10 hc9_11 hc9_12 hc9_13 hc9_14 hc9_15 hc9_16 hc9_2 hc9_3 hc9_4 hc9_5 hc9_6 hc9_7 hc9_8 hc9_9 hf4_0 hf4_1 hf4_10 hf4_11 hf4_12 hf4_13 hf4_14 hf4_15 hf4_16 hf4_2 hf4_3 hf4_4 hf4_5 hf4_6 hf4_7 hf4_8 hf4_9 hf6_0 hf6_1 hf6_10 hf6_11 hf6_12 hf6_13 hf6_14 hf6_15 hf6_16 hf6_2 hf6_3 hf6_4 hf6_5 hf6_6 hf6_7 hf6_8 hf6_9 hf9_0 hf9_1 hf9_10 hf9_11 hf9_12 hf9_13 hf9_14 hf9_15 hf9_16 hf9_2 hf9_3 hf9_4 hf9_5 hf9_6 hf9_7 hf9_8 hf9_9
     (try clear p2)
     obtain ⟨x4_2, x5_2, rfl, rfl, HA, HK2, BK101, HB⟩ := hrel
     cases gk with
     | zero => exact absurd HA.out (by simp [weighbridgeref30_Asked_first.l0])
     | succ k2 =>
      have H := HA.out
      clear HA
      simp only [weighbridgeref30_Asked_first.l0] at H
      by_cases c11 : x4_2 < x5_2
      ·
       rw [if_pos c11] at H
       have c11b0 : decide (x4_2 < x5_2) = true := decide_eq_true c11
       clear c11
       replace H := Option.bind_eq_some_iff.mp H
       obtain ⟨t103, A120, H⟩ := H
       replace H : (if t103 = true then (weighbridgeref30_Asked_first.l0 k2 x4_2 (IntKind.u64.wrap (x4_2 + (IntKind.u64.wrap (Int.tdiv (IntKind.u64.wrap (x5_2 - x4_2)) 2)))) a0_0 a0_1 a0_2 a0_3 a0_4 a0_5 a0_6 a0_7 a0_8 a0_9 a0_10 a0_11 a0_12 a0_13 a0_14 a0_15 a0_16) else (weighbridgeref30_Asked_first.l0 k2 (IntKind.u64.wrap ((IntKind.u64.wrap (x4_2 + (IntKind.u64.wrap (Int.tdiv (IntKind.u64.wrap (x5_2 - x4_2)) 2)))) + 1)) x5_2 a0_0 a0_1 a0_2 a0_3 a0_4 a0_5 a0_6 a0_7 a0_8 a0_9 a0_10 a0_11 a0_12 a0_13 a0_14 a0_15 a0_16)) = some (r1, r2) := H
       have A12 := zq3 A120
       clear A120
       by_cases c13 : t103 = true
       ·
        subst c13
        have H1 : (weighbridgeref30_Asked_first.l0 k2 x4_2 (IntKind.u64.wrap (x4_2 + (IntKind.u64.wrap (Int.tdiv (IntKind.u64.wrap (x5_2 - x4_2)) 2)))) a0_0 a0_1 a0_2 a0_3 a0_4 a0_5 a0_6 a0_7 a0_8 a0_9 a0_10 a0_11 a0_12 a0_13 a0_14 a0_15 a0_16) = some (r1, r2) := by rw [if_pos rfl] at H; exact H
        clear H
        have H := H1
        clear H1
        have H' := zq3 H
        clear H
        have hc14_0 : wr.cell? ⟨gb101, 0, none⟩ = some (.int .i64 a0_0) := (zq5 BK101.out 0).trans rfl
        have hc14_1 : wr.cell? ⟨gb101, 1, none⟩ = some (.bool a0_1) := (zq5 BK101.out 1).trans rfl
        have hc14_2 : wr.cell? ⟨gb101, 2, none⟩ = some (.int .u64 a0_2) := (zq5 BK101.out 2).trans rfl
        have hc14_3 : wr.cell? ⟨gb101, 3, none⟩ = some (.int .u64 a0_3) := (zq5 BK101.out 3).trans rfl
        have hc14_4 : wr.cell? ⟨gb101, 4, none⟩ = some (.int .u64 a0_4) := (zq5 BK101.out 4).trans rfl
        have hc14_5 : wr.cell? ⟨gb101, 5, none⟩ = some (.int .u64 a0_5) := (zq5 BK101.out 5).trans rfl
        have hc14_6 : wr.cell? ⟨gb101, 6, none⟩ = some (.int .u64 a0_6) := (zq5 BK101.out 6).trans rfl
        have hc14_7 : wr.cell? ⟨gb101, 7, none⟩ = some (.int .u64 a0_7) := (zq5 BK101.out 7).trans rfl
        have hc14_8 : wr.cell? ⟨gb101, 8, none⟩ = some (.int .u64 a0_8) := (zq5 BK101.out 8).trans rfl
        have hc14_9 : wr.cell? ⟨gb101, 9, none⟩ = some (.bool a0_9) := (zq5 BK101.out 9).trans rfl
        have hc14_10 : wr.cell? ⟨gb101, 10, none⟩ = some (.int .u64 a0_10) := (zq5 BK101.out 10).trans rfl
        have hc14_11 : wr.cell? ⟨gb101, 11, none⟩ = some (.int .u64 a0_11) := (zq5 BK101.out 11).trans rfl
        have hc14_12 : wr.cell? ⟨gb101, 12, none⟩ = some (.int .u64 a0_12) := (zq5 BK101.out 12).trans rfl
        have hc14_13 : wr.cell? ⟨gb101, 13, none⟩ = some (.bool a0_13) := (zq5 BK101.out 13).trans rfl
        have hc14_14 : wr.cell? ⟨gb101, 14, none⟩ = some (.int .i64 a0_14) := (zq5 BK101.out 14).trans rfl
        have hc14_15 : wr.cell? ⟨gb101, 15, none⟩ = some (.int .i64 a0_15) := (zq5 BK101.out 15).trans rfl
        have hc14_16 : wr.cell? ⟨gb101, 16, none⟩ = some (.bool a0_16) := (zq5 BK101.out 16).trans rfl
        have hf14_0 := zq4 BK101.out 0
        have hf14_1 := zq4 BK101.out 1
        have hf14_2 := zq4 BK101.out 2
        have hf14_3 := zq4 BK101.out 3
        have hf14_4 := zq4 BK101.out 4
        have hf14_5 := zq4 BK101.out 5
        have hf14_6 := zq4 BK101.out 6
        have hf14_7 := zq4 BK101.out 7
        have hf14_8 := zq4 BK101.out 8
        have hf14_9 := zq4 BK101.out 9
        have hf14_10 := zq4 BK101.out 10
        have hf14_11 := zq4 BK101.out 11
        have hf14_12 := zq4 BK101.out 12
        have hf14_13 := zq4 BK101.out 13
        have hf14_14 := zq4 BK101.out 14
        have hf14_15 := zq4 BK101.out 15
        have hf14_16 := zq4 BK101.out 16
        go_wp2_with (first | ((with_reducible refine gate_callee (f := 79) rfl ?_); refine zgo (some 28) Try.func79 #[.agg #[.int .i64 a0_0, .bool a0_1, .int .u64 a0_2, .int .u64 a0_3, .int .u64 a0_4, .int .u64 a0_5, .int .u64 a0_6, .int .u64 a0_7, .int .u64 a0_8, .bool a0_9, .int .u64 a0_10, .int .u64 a0_11, .int .u64 a0_12, .bool a0_13, .int .i64 a0_14, .int .i64 a0_15, .bool a0_16], .int .u64 (IntKind.u64.wrap (x4_2 + (IntKind.u64.wrap (Int.tdiv (IntKind.u64.wrap (x5_2 - x4_2)) 2))))] ?_; (with_reducible refine (weighbridgeref30_Asked_holds.calls k2 a0_0 a0_1 a0_2 a0_3 a0_4 a0_5 a0_6 a0_7 a0_8 a0_9 a0_10 a0_11 a0_12 a0_13 a0_14 a0_15 a0_16 (IntKind.u64.wrap (x4_2 + (IntKind.u64.wrap (Int.tdiv (IntKind.u64.wrap (x5_2 - x4_2)) 2)))) true _ A12.out).mono ?_); rintro e w15 ⟨rfl, hb⟩; refine ⟨_, rfl, ?_⟩; replace BK101 := zs BK101 hb; replace HB := zt HB hb; (try clear hb)))
        go_roundg k2
        case measure => have := HJ1.out; have := HK2.out; omega
        case rel => exact ⟨(x4_2), (IntKind.u64.wrap (x4_2 + (IntKind.u64.wrap (Int.tdiv (IntKind.u64.wrap (x5_2 - x4_2)) 2)))), (by first | rfl | (simp; done) | (simp [*]; done)), (by first | rfl | (simp; done) | (simp [*]; done)), H', ⟨by have := HJ1.out; have := HK2.out; omega⟩, ⟨zw BK101⟩, ⟨zh HB⟩⟩
       ·
        replace c13 := Bool.eq_false_iff.mpr c13
        subst c13
        have H1 : (weighbridgeref30_Asked_first.l0 k2 (IntKind.u64.wrap ((IntKind.u64.wrap (x4_2 + (IntKind.u64.wrap (Int.tdiv (IntKind.u64.wrap (x5_2 - x4_2)) 2)))) + 1)) x5_2 a0_0 a0_1 a0_2 a0_3 a0_4 a0_5 a0_6 a0_7 a0_8 a0_9 a0_10 a0_11 a0_12 a0_13 a0_14 a0_15 a0_16) = some (r1, r2) := by rw [if_neg (show ¬ (false = true) by decide)] at H; exact H
        clear H
        have H := H1
        clear H1
        have H' := zq3 H
        clear H
        have hc16_0 : wr.cell? ⟨gb101, 0, none⟩ = some (.int .i64 a0_0) := (zq5 BK101.out 0).trans rfl
        have hc16_1 : wr.cell? ⟨gb101, 1, none⟩ = some (.bool a0_1) := (zq5 BK101.out 1).trans rfl
        have hc16_2 : wr.cell? ⟨gb101, 2, none⟩ = some (.int .u64 a0_2) := (zq5 BK101.out 2).trans rfl
        have hc16_3 : wr.cell? ⟨gb101, 3, none⟩ = some (.int .u64 a0_3) := (zq5 BK101.out 3).trans rfl
        have hc16_4 : wr.cell? ⟨gb101, 4, none⟩ = some (.int .u64 a0_4) := (zq5 BK101.out 4).trans rfl
        have hc16_5 : wr.cell? ⟨gb101, 5, none⟩ = some (.int .u64 a0_5) := (zq5 BK101.out 5).trans rfl
        have hc16_6 : wr.cell? ⟨gb101, 6, none⟩ = some (.int .u64 a0_6) := (zq5 BK101.out 6).trans rfl
        have hc16_7 : wr.cell? ⟨gb101, 7, none⟩ = some (.int .u64 a0_7) := (zq5 BK101.out 7).trans rfl
        have hc16_8 : wr.cell? ⟨gb101, 8, none⟩ = some (.int .u64 a0_8) := (zq5 BK101.out 8).trans rfl
        have hc16_9 : wr.cell? ⟨gb101, 9, none⟩ = some (.bool a0_9) := (zq5 BK101.out 9).trans rfl
        have hc16_10 : wr.cell? ⟨gb101, 10, none⟩ = some (.int .u64 a0_10) := (zq5 BK101.out 10).trans rfl
        have hc16_11 : wr.cell? ⟨gb101, 11, none⟩ = some (.int .u64 a0_11) := (zq5 BK101.out 11).trans rfl
        have hc16_12 : wr.cell? ⟨gb101, 12, none⟩ = some (.int .u64 a0_12) := (zq5 BK101.out 12).trans rfl
        have hc16_13 : wr.cell? ⟨gb101, 13, none⟩ = some (.bool a0_13) := (zq5 BK101.out 13).trans rfl
        have hc16_14 : wr.cell? ⟨gb101, 14, none⟩ = some (.int .i64 a0_14) := (zq5 BK101.out 14).trans rfl
        have hc16_15 : wr.cell? ⟨gb101, 15, none⟩ = some (.int .i64 a0_15) := (zq5 BK101.out 15).trans rfl
        have hc16_16 : wr.cell? ⟨gb101, 16, none⟩ = some (.bool a0_16) := (zq5 BK101.out 16).trans rfl
        have hf16_0 := zq4 BK101.out 0
        have hf16_1 := zq4 BK101.out 1
        have hf16_2 := zq4 BK101.out 2
        have hf16_3 := zq4 BK101.out 3
        have hf16_4 := zq4 BK101.out 4
        have hf16_5 := zq4 BK101.out 5
        have hf16_6 := zq4 BK101.out 6
        have hf16_7 := zq4 BK101.out 7
        have hf16_8 := zq4 BK101.out 8
        have hf16_9 := zq4 BK101.out 9
        have hf16_10 := zq4 BK101.out 10
        have hf16_11 := zq4 BK101.out 11
        have hf16_12 := zq4 BK101.out 12
        have hf16_13 := zq4 BK101.out 13
        have hf16_14 := zq4 BK101.out 14
        have hf16_15 := zq4 BK101.out 15
        have hf16_16 := zq4 BK101.out 16
        go_wp2_with (first | ((with_reducible refine gate_callee (f := 79) rfl ?_); refine zgo (some 28) Try.func79 #[.agg #[.int .i64 a0_0, .bool a0_1, .int .u64 a0_2, .int .u64 a0_3, .int .u64 a0_4, .int .u64 a0_5, .int .u64 a0_6, .int .u64 a0_7, .int .u64 a0_8, .bool a0_9, .int .u64 a0_10, .int .u64 a0_11, .int .u64 a0_12, .bool a0_13, .int .i64 a0_14, .int .i64 a0_15, .bool a0_16], .int .u64 (IntKind.u64.wrap (x4_2 + (IntKind.u64.wrap (Int.tdiv (IntKind.u64.wrap (x5_2 - x4_2)) 2))))] ?_; (with_reducible refine (weighbridgeref30_Asked_holds.calls k2 a0_0 a0_1 a0_2 a0_3 a0_4 a0_5 a0_6 a0_7 a0_8 a0_9 a0_10 a0_11 a0_12 a0_13 a0_14 a0_15 a0_16 (IntKind.u64.wrap (x4_2 + (IntKind.u64.wrap (Int.tdiv (IntKind.u64.wrap (x5_2 - x4_2)) 2)))) false _ A12.out).mono ?_); rintro e w17 ⟨rfl, hb⟩; refine ⟨_, rfl, ?_⟩; replace BK101 := zs BK101 hb; replace HB := zt HB hb; (try clear hb)))
        go_roundg k2
        case measure => have := HJ1.out; have := HK2.out; omega
        case rel => exact ⟨(IntKind.u64.wrap ((IntKind.u64.wrap (x4_2 + (IntKind.u64.wrap (Int.tdiv (IntKind.u64.wrap (x5_2 - x4_2)) 2)))) + 1)), (x5_2), (by first | rfl | (simp; done) | (simp [*]; done)), (by first | rfl | (simp; done) | (simp [*]; done)), H', ⟨by have := HJ1.out; have := HK2.out; omega⟩, ⟨zw BK101⟩, ⟨zh HB⟩⟩
      ·
       rw [if_neg c11] at H
       have c11b0 : decide (x4_2 < x5_2) = false := decide_eq_false c11
       clear c11
       simp only [Option.some.injEq, Prod.mk.injEq] at H
       obtain ⟨rfl, rfl⟩ := H
       go_wp2
       go_ret2
       exact ⟨by first | rfl | (simp [errW_none, errW_some] <;> rfl) | (simp [*, errW_none, errW_some] <;> rfl), zh HB⟩
   ·
    replace c8 := Bool.eq_false_iff.mpr c8
    subst c8
    have H1 : (some (0, false)) = some (r1, r2) := by rw [if_neg (show ¬ (false = true) by decide)] at H; exact H
    clear H
    have H := H1
    clear H1
    simp only [Option.some.injEq, Prod.mk.injEq] at H
    obtain ⟨rfl, rfl⟩ := H
    have hc18_0 : wc.cell? ⟨gb101, 0, none⟩ = some (.int .i64 a0_0) := (zq5 BK101.out 0).trans rfl
    have hc18_1 : wc.cell? ⟨gb101, 1, none⟩ = some (.bool a0_1) := (zq5 BK101.out 1).trans rfl
    have hc18_2 : wc.cell? ⟨gb101, 2, none⟩ = some (.int .u64 a0_2) := (zq5 BK101.out 2).trans rfl
    have hc18_3 : wc.cell? ⟨gb101, 3, none⟩ = some (.int .u64 a0_3) := (zq5 BK101.out 3).trans rfl
    have hc18_4 : wc.cell? ⟨gb101, 4, none⟩ = some (.int .u64 a0_4) := (zq5 BK101.out 4).trans rfl
    have hc18_5 : wc.cell? ⟨gb101, 5, none⟩ = some (.int .u64 a0_5) := (zq5 BK101.out 5).trans rfl
    have hc18_6 : wc.cell? ⟨gb101, 6, none⟩ = some (.int .u64 a0_6) := (zq5 BK101.out 6).trans rfl
    have hc18_7 : wc.cell? ⟨gb101, 7, none⟩ = some (.int .u64 a0_7) := (zq5 BK101.out 7).trans rfl
    have hc18_8 : wc.cell? ⟨gb101, 8, none⟩ = some (.int .u64 a0_8) := (zq5 BK101.out 8).trans rfl
    have hc18_9 : wc.cell? ⟨gb101, 9, none⟩ = some (.bool a0_9) := (zq5 BK101.out 9).trans rfl
    have hc18_10 : wc.cell? ⟨gb101, 10, none⟩ = some (.int .u64 a0_10) := (zq5 BK101.out 10).trans rfl
    have hc18_11 : wc.cell? ⟨gb101, 11, none⟩ = some (.int .u64 a0_11) := (zq5 BK101.out 11).trans rfl
    have hc18_12 : wc.cell? ⟨gb101, 12, none⟩ = some (.int .u64 a0_12) := (zq5 BK101.out 12).trans rfl
    have hc18_13 : wc.cell? ⟨gb101, 13, none⟩ = some (.bool a0_13) := (zq5 BK101.out 13).trans rfl
    have hc18_14 : wc.cell? ⟨gb101, 14, none⟩ = some (.int .i64 a0_14) := (zq5 BK101.out 14).trans rfl
    have hc18_15 : wc.cell? ⟨gb101, 15, none⟩ = some (.int .i64 a0_15) := (zq5 BK101.out 15).trans rfl
    have hc18_16 : wc.cell? ⟨gb101, 16, none⟩ = some (.bool a0_16) := (zq5 BK101.out 16).trans rfl
    have hf18_0 := zq4 BK101.out 0
    have hf18_1 := zq4 BK101.out 1
    have hf18_2 := zq4 BK101.out 2
    have hf18_3 := zq4 BK101.out 3
    have hf18_4 := zq4 BK101.out 4
    have hf18_5 := zq4 BK101.out 5
    have hf18_6 := zq4 BK101.out 6
    have hf18_7 := zq4 BK101.out 7
    have hf18_8 := zq4 BK101.out 8
    have hf18_9 := zq4 BK101.out 9
    have hf18_10 := zq4 BK101.out 10
    have hf18_11 := zq4 BK101.out 11
    have hf18_12 := zq4 BK101.out 12
    have hf18_13 := zq4 BK101.out 13
    have hf18_14 := zq4 BK101.out 14
    have hf18_15 := zq4 BK101.out 15
    have hf18_16 := zq4 BK101.out 16
    go_wp2_with (first | ((with_reducible refine gate_callee (f := 79) rfl ?_); refine zgo (some 15) Try.func79 #[.agg #[.int .i64 a0_0, .bool a0_1, .int .u64 a0_2, .int .u64 a0_3, .int .u64 a0_4, .int .u64 a0_5, .int .u64 a0_6, .int .u64 a0_7, .int .u64 a0_8, .bool a0_9, .int .u64 a0_10, .int .u64 a0_11, .int .u64 a0_12, .bool a0_13, .int .i64 a0_14, .int .i64 a0_15, .bool a0_16], .int .u64 18446744073709551615] ?_; (with_reducible refine (weighbridgeref30_Asked_holds.calls kj1 a0_0 a0_1 a0_2 a0_3 a0_4 a0_5 a0_6 a0_7 a0_8 a0_9 a0_10 a0_11 a0_12 a0_13 a0_14 a0_15 a0_16 18446744073709551615 false _ A7.out).mono ?_); rintro e w19 ⟨rfl, hb⟩; refine ⟨_, rfl, ?_⟩; replace BK101 := zs BK101 hb; replace HB := zt HB hb; (try clear hb)))
    go_ret2
    exact ⟨by first | rfl | (simp [errW_none, errW_some] <;> rfl) | (simp [*, errW_none, errW_some] <;> rfl), zh HB⟩

end Go.Proofs.Ytiaoaoebghnpkaa.P
end
section
namespace Go.Proofs.Ytiaoaoebghnpkaa.P
open Go.RowKit Go.Proofs.YtiaoaoebghnpkaaW.PrintWords Go.Proofs.YtiaoaoebghnpkaaW.PrintLast Go.Proofs.YtiaoaoebghnpkaaW.PrintMore
attribute [local go_sem] max2_int min2_int max_two min_two max_three min_three max_four min_four   -- for this text's walks alone
set_option linter.unusedVariables false
set_option linter.unusedSimpArgs false

/-! ### weighbridgeref30_When: function 27 -/
def weighbridgeref30_When.f (k : Nat) (a0_0 : Int) (a0_1 : Bool) (a0_2 : Int) (a0_3 : Int) (a0_4 : Int) (a0_5 : Int) (a1_0 : Int) (a1_1 : Int) (a1_2 : Int) (a1_3 : Bool) (a2 : Int) (a3 : Int) : Option (Int × Bool) := (weighbridgeref28_Check.f k a0_0 a0_1 a0_2 a0_3 a0_4 a0_5).bind fun t103 => (if t103 = 0 then (if a2 < 0 then (some (0, false)) else (if a3 < 0 then (some (0, false)) else (if a3 > 2 then (some (0, false)) else ((weighbridgeref30_Asked_first.f k a0_0 a0_1 a0_2 a0_3 a0_4 a0_5 a1_0 a1_1 a1_2 a1_3 0 0 0 false a2 a3 false).bind fun bt104 => (some (bt104.1, bt104.2)))))) else (some (0, false)))
set_option maxHeartbeats 8000000 in
set_option maxRecDepth 100000 in
theorem weighbridgeref30_When.calls (k : Nat) (a0_0 : Int) (a0_1 : Bool) (a0_2 : Int) (a0_3 : Int) (a0_4 : Int) (a0_5 : Int) (a1_0 : Int) (a1_1 : Int) (a1_2 : Int) (a1_3 : Bool) (a2 : Int) (a3 : Int) (r1 : Int) (r2 : Bool) (w : World) (h : weighbridgeref30_When.f k a0_0 a0_1 a0_2 a0_3 a0_4 a0_5 a1_0 a1_1 a1_2 a1_3 a2 a3 = some (r1, r2)) :
  Calls Try.prog 27 #[.agg #[.int .i64 a0_0, .bool a0_1, .int .u64 a0_2, .int .u64 a0_3, .int .u64 a0_4, .int .u64 a0_5], .agg #[.int .u64 a1_0, .int .u64 a1_1, .int .u64 a1_2, .bool a1_3], .int .i64 a2, .int .i64 a3] w fun e w' => e = .returned (.tuple #[.int .u64 r1, .bool r2]) ∧ Below w.heap.size w w' := by
 have hu49 := Try.underlying49
 have hu51 := Try.underlying51
 have hu95 := Try.underlying95
 have HB := zq3 (Below.refl w.heap.size w)
 have H : ((weighbridgeref28_Check.f k a0_0 a0_1 a0_2 a0_3 a0_4 a0_5).bind fun t103 => (if t103 = 0 then (if a2 < 0 then (some (0, false)) else (if a3 < 0 then (some (0, false)) else (if a3 > 2 then (some (0, false)) else ((weighbridgeref30_Asked_first.f k a0_0 a0_1 a0_2 a0_3 a0_4 a0_5 a1_0 a1_1 a1_2 a1_3 0 0 0 false a2 a3 false).bind fun bt104 => (some (bt104.1, bt104.2)))))) else (some (0, false)))) = some (r1, r2) := h
 clear h
 replace H := Option.bind_eq_some_iff.mp H
 obtain ⟨t103, A50, H⟩ := H
 replace H : (if t103 = 0 then (if a2 < 0 then (some (0, false)) else (if a3 < 0 then (some (0, false)) else (if a3 > 2 then (some (0, false)) else ((weighbridgeref30_Asked_first.f k a0_0 a0_1 a0_2 a0_3 a0_4 a0_5 a1_0 a1_1 a1_2 a1_3 0 0 0 false a2 a3 false).bind fun bt104 => (some (bt104.1, bt104.2)))))) else (some (0, false))) = some (r1, r2) := H
 have A5 := zq3 A50
 clear A50
 by_cases c6 : t103 = 0
 ·
  rw [if_pos c6] at H
  have c6b0 : (t103 == 0) = true := beq_iff_eq.mpr c6
  have c6b1 : (t103 != 0) = false := bne_eq_false_iff_eq.mpr c6
  clear c6
  by_cases c7 : a2 < 0
  ·
   rw [if_pos c7] at H
   have c7b0 : decide (a2 < 0) = true := decide_eq_true c7
   clear c7
   simp only [Option.some.injEq, Prod.mk.injEq] at H
   obtain ⟨rfl, rfl⟩ := H
   go_enter Try.func27, Try.ntmps27
   go_wp2_with (first | ((with_reducible refine zd 4 rfl ?_); refine zb 4 #[.int .i64 a0_0, .bool a0_1, .int .u64 a0_2, .int .u64 a0_3, .int .u64 a0_4, .int .u64 a0_5] 49 ?_; intro gb101 hg w8 hbox hb; have BK101 := zq3 (hbox); have GW101 := ze hg HB; have GE101 := GW101; replace HB := zt HB hb; clear hb hbox hg) | ((with_reducible refine zd 5 rfl ?_); refine zb 5 #[.int .u64 a1_0, .int .u64 a1_1, .int .u64 a1_2, .bool a1_3] 51 ?_; intro gb102 hg w9 hbox hb; have BK102 := zq3 (hbox); have GW102 := ze hg HB; have GE102 := GW102; have NB101_102 := zl hg BK101; have NB102_101 := zg hg BK101; replace BK101 := zs BK101 hb; replace HB := zt HB hb; clear hb hbox hg; have hnb10 := NB101_102.out; have hnc10 := NB102_101.out; obtain ⟨hc11_0, hc11_1, hc11_2, hc11_3, hc11_4, hc11_5⟩ := zc6 BK101; obtain ⟨hf11_0, hf11_1, hf11_2, hf11_3, hf11_4, hf11_5⟩ := zf6 BK101) | ((with_reducible refine gate_callee (f := 57) rfl ?_); refine zgo (some 11) Try.func57 #[.agg #[.int .i64 a0_0, .bool a0_1, .int .u64 a0_2, .int .u64 a0_3, .int .u64 a0_4, .int .u64 a0_5]] ?_; (with_reducible refine (weighbridgeref28_Check.calls k a0_0 a0_1 a0_2 a0_3 a0_4 a0_5 t103 _ A5.out).mono ?_); rintro e w12 ⟨rfl, hb⟩; refine ⟨_, rfl, ?_⟩; replace BK101 := zs BK101 hb; replace BK102 := zs BK102 hb; replace HB := zt HB hb; (try clear hb)))
   go_ret2
   exact ⟨by first | rfl | (simp [errW_none, errW_some] <;> rfl) | (simp [*, errW_none, errW_some] <;> rfl), zh HB⟩
  ·
   rw [if_neg c7] at H
   have c7b0 : decide (a2 < 0) = false := decide_eq_false c7
   clear c7
   by_cases c13 : a3 < 0
   ·
    rw [if_pos c13] at H
    have c13b0 : decide (a3 < 0) = true := decide_eq_true c13
    clear c13
    simp only [Option.some.injEq, Prod.mk.injEq] at H
    obtain ⟨rfl, rfl⟩ := H
    go_enter Try.func27, Try.ntmps27
    go_wp2_with (first | ((with_reducible refine zd 4 rfl ?_); refine zb 4 #[.int .i64 a0_0, .bool a0_1, .int .u64 a0_2, .int .u64 a0_3, .int .u64 a0_4, .int .u64 a0_5] 49 ?_; intro gb101 hg w14 hbox hb; have BK101 := zq3 (hbox); have GW101 := ze hg HB; have GE101 := GW101; replace HB := zt HB hb; clear hb hbox hg) | ((with_reducible refine zd 5 rfl ?_); refine zb 5 #[.int .u64 a1_0, .int .u64 a1_1, .int .u64 a1_2, .bool a1_3] 51 ?_; intro gb102 hg w15 hbox hb; have BK102 := zq3 (hbox); have GW102 := ze hg HB; have GE102 := GW102; have NB101_102 := zl hg BK101; have NB102_101 := zg hg BK101; replace BK101 := zs BK101 hb; replace HB := zt HB hb; clear hb hbox hg; have hnb16 := NB101_102.out; have hnc16 := NB102_101.out; obtain ⟨hc17_0, hc17_1, hc17_2, hc17_3, hc17_4, hc17_5⟩ := zc6 BK101; obtain ⟨hf17_0, hf17_1, hf17_2, hf17_3, hf17_4, hf17_5⟩ := zf6 BK101) | ((with_reducible refine gate_callee (f := 57) rfl ?_); refine zgo (some 11) Try.func57 #[.agg #[.int .i64 a0_0, .bool a0_1, .int .u64 a0_2, .int .u64 a0_3, .int .u64 a0_4, .int .u64 a0_5]] ?_; (with_reducible refine (weighbridgeref28_Check.calls k a0_0 a0_1 a0_2 a0_3 a0_4 a0_5 t103 _ A5.out).mono ?_); rintro e w18 ⟨rfl, hb⟩; refine ⟨_, rfl, ?_⟩; replace BK101 := zs BK101 hb; replace BK102 := zs BK102 hb; replace HB := zt HB hb; (try clear hb)))
    go_ret2
    exact ⟨by first | rfl | (simp [errW_none, errW_some] <;> rfl) | (simp [*, errW_none, errW_some] <;> rfl), zh HB⟩
   ·
    rw [if_neg c13] at H
    have c13b0 : decide (a3 < 0) = false := decide_eq_false c13
    clear c13
    by_cases c19 : a3 > 2
    ·
     rw [if_pos c19] at H
     have c19b0 : decide (2 < a3) = true := decide_eq_true c19
     clear c19
     simp only [Option.some.injEq, Prod.mk.injEq] at H
     obtain ⟨rfl, rfl⟩ := H
     go_enter Try.func27, Try.ntmps27
     go_wp2_with (first | ((with_reducible refine zd 4 rfl ?_); refine zb 4 #[.int .i64 a0_0, .bool a0_1, .int .u64 a0_2, .int .u64 a0_3, .int .u64 a0_4, .int .u64 a0_5] 49 ?_; intro gb101 hg w20 hbox hb; have BK101 := zq3 (hbox); have GW101 := ze hg HB; have GE101 := GW101; replace HB := zt HB hb; clear hb hbox hg) | ((with_reducible refine zd 5 rfl ?_); refine zb 5 #[.int .u64 a1_0, .int .u64 a1_1, .int .u64 a1_2, .bool a1_3] 51 ?_; intro gb102 hg w21 hbox hb; have BK102 := zq3 (hbox); have GW102 := ze hg HB; have GE102 := GW102; have NB101_102 := zl hg BK101; have NB102_101 := zg hg BK101; replace BK101 := zs BK101 hb; replace HB := zt HB hb; clear hb hbox hg; have hnb22 := NB101_102.out; have hnc22 := NB102_101.out; obtain ⟨hc23_0, hc23_1, hc23_2, hc23_3, hc23_4, hc23_5⟩ := zc6 BK101; obtain ⟨hf23_0, hf23_1, hf23_2, hf23_3, hf23_4, hf23_5⟩ := zf6 BK101) | ((with_reducible refine gate_callee (f := 57) rfl ?_); refine zgo (some 11) Try.func57 #[.agg #[.int .i64 a0_0, .bool a0_1, .int .u64 a0_2, .int .u64 a0_3, .int .u64 a0_4, .int .u64 a0_5]] ?_; (with_reducible refine (weighbridgeref28_Check.calls k a0_0 a0_1 a0_2 a0_3 a0_4 a0_5 t103 _ A5.out).mono ?_); rintro e w24 ⟨rfl, hb⟩; refine ⟨_, rfl, ?_⟩; replace BK101 := zs BK101 hb; replace BK102 := zs BK102 hb; replace HB := zt HB hb; (try clear hb)))
     go_ret2
     exact ⟨by first | rfl | (simp [errW_none, errW_some] <;> rfl) | (simp [*, errW_none, errW_some] <;> rfl), zh HB⟩
    ·
     rw [if_neg c19] at H
     have c19b0 : decide (2 < a3) = false := decide_eq_false c19
     clear c19
     replace H := Option.bind_eq_some_iff.mp H
     obtain ⟨⟨t104, t105⟩, A250, H⟩ := H
     replace H : (some (t104, t105)) = some (r1, r2) := H
     have A25 := zq3 A250
     clear A250
     simp only [Option.some.injEq, Prod.mk.injEq] at H
     obtain ⟨rfl, rfl⟩ := H
     go_enter Try.func27, Try.ntmps27
     go_wp2_with (first | ((with_reducible refine zd 4 rfl ?_); refine zb 4 #[.int .i64 a0_0, .bool a0_1, .int .u64 a0_2, .int .u64 a0_3, .int .u64 a0_4, .int .u64 a0_5] 49 ?_; intro gb101 hg w26 hbox hb; have BK101 := zq3 (hbox); have GW101 := ze hg HB; have GE101 := GW101; replace HB := zt HB hb; clear hb hbox hg) | ((with_reducible refine zd 5 rfl ?_); refine zb 5 #[.int .u64 a1_0, .int .u64 a1_1, .int .u64 a1_2, .bool a1_3] 51 ?_; intro gb102 hg w27 hbox hb; have BK102 := zq3 (hbox); have GW102 := ze hg HB; have GE102 := GW102; have NB101_102 := zl hg BK101; have NB102_101 := zg hg BK101; replace BK101 := zs BK101 hb; replace HB := zt HB hb; clear hb hbox hg; have hnb28 := NB101_102.out; have hnc28 := NB102_101.out; obtain ⟨hc29_0, hc29_1, hc29_2, hc29_3, hc29_4, hc29_5⟩ := zc6 BK101; obtain ⟨hf29_0, hf29_1, hf29_2, hf29_3, hf29_4, hf29_5⟩ := zf6 BK101) | ((with_reducible refine gate_callee (f := 57) rfl ?_); refine zgo (some 11) Try.func57 #[.agg #[.int .i64 a0_0, .bool a0_1, .int .u64 a0_2, .int .u64 a0_3, .int .u64 a0_4, .int .u64 a0_5]] ?_; (with_reducible refine (weighbridgeref28_Check.calls k a0_0 a0_1 a0_2 a0_3 a0_4 a0_5 t103 _ A5.out).mono ?_); rintro e w30 ⟨rfl, hb⟩; refine ⟨_, rfl, ?_⟩; replace BK101 := zs BK101 hb; replace BK102 := zs BK102 hb; replace HB := zt HB hb; (try clear hb); obtain ⟨hc31_0, hc31_1, hc31_2, hc31_3, hc31_4, hc31_5⟩ := zc6 BK101; obtain ⟨hf31_0, hf31_1, hf31_2, hf31_3, hf31_4, hf31_5⟩ := zf6 BK101; obtain ⟨hc32_0, hc32_1, hc32_2, hc32_3⟩ := zc4 BK102; obtain ⟨hf32_0, hf32_1, hf32_2, hf32_3⟩ := zf4 BK102) | ((with_reducible refine gate_callee (f := 58) rfl ?_); refine zgo (some 30) Try.func58 #[.agg #[.int .i64 a0_0, .bool a0_1, .int .u64 a0_2, .int .u64 a0_3, .int .u64 a0_4, .int .u64 a0_5, .int .u64 a1_0, .int .u64 a1_1, .int .u64 a1_2, .bool a1_3, .int .u64 0, .int .u64 0, .int .u64 0, .bool false, .int .i64 a2, .int .i64 a3, .bool false]] ?_; (with_reducible refine (weighbridgeref30_Asked_first.calls k a0_0 a0_1 a0_2 a0_3 a0_4 a0_5 a1_0 a1_1 a1_2 a1_3 0 0 0 false a2 a3 false t104 t105 _ A25.out).mono ?_); rintro e w33 ⟨rfl, hb⟩; refine ⟨_, rfl, ?_⟩; replace BK101 := zs BK101 hb; replace BK102 := zs BK102 hb; replace HB := zt HB hb; (try clear hb)))
     go_ret2
     exact ⟨by first | rfl | (simp [errW_none, errW_some] <;> rfl) | (simp [*, errW_none, errW_some] <;> rfl), zh HB⟩
 ·
  rw [if_neg c6] at H
  have c6b0 : (t103 == 0) = false := beq_eq_false_iff_ne.mpr c6
  have c6b1 : (t103 != 0) = true := bne_iff_ne.mpr c6
  simp only [Option.some.injEq, Prod.mk.injEq] at H
  obtain ⟨rfl, rfl⟩ := H
  go_enter Try.func27, Try.ntmps27
  go_wp2_with (first | ((with_reducible refine zd 4 rfl ?_); refine zb 4 #[.int .i64 a0_0, .bool a0_1, .int .u64 a0_2, .int .u64 a0_3, .int .u64 a0_4, .int .u64 a0_5] 49 ?_; intro gb101 hg w34 hbox hb; have BK101 := zq3 (hbox); have GW101 := ze hg HB; have GE101 := GW101; replace HB := zt HB hb; clear hb hbox hg) | ((with_reducible refine zd 5 rfl ?_); refine zb 5 #[.int .u64 a1_0, .int .u64 a1_1, .int .u64 a1_2, .bool a1_3] 51 ?_; intro gb102 hg w35 hbox hb; have BK102 := zq3 (hbox); have GW102 := ze hg HB; have GE102 := GW102; have NB101_102 := zl hg BK101; have NB102_101 := zg hg BK101; replace BK101 := zs BK101 hb; replace HB := zt HB hb; clear hb hbox hg; have hnb36 := NB101_102.out; have hnc36 := NB102_101.out; obtain ⟨hc37_0, hc37_1, hc37_2, hc37_3, hc37_4, hc37_5⟩ := zc6 BK101; obtain ⟨hf37_0, hf37_1, hf37_2, hf37_3, hf37_4, hf37_5⟩ := zf6 BK101) | ((with_reducible refine gate_callee (f := 57) rfl ?_); refine zgo (some 11) Try.func57 #[.agg #[.int .i64 a0_0, .bool a0_1, .int .u64 a0_2, .int .u64 a0_3, .int .u64 a0_4, .int .u64 a0_5]] ?_; (with_reducible refine (weighbridgeref28_Check.calls k a0_0 a0_1 a0_2 a0_3 a0_4 a0_5 t103 _ A5.out).mono ?_); rintro e w38 ⟨rfl, hb⟩; refine ⟨_, rfl, ?_⟩; replace BK101 := zs BK101 hb; replace BK102 := zs BK102 hb; replace HB := zt HB hb; (try clear hb)))
  go_ret2
  exact ⟨by first | rfl | (simp [errW_none, errW_some] <;> rfl) | (simp [*, errW_none, errW_some] <;> rfl), zh HB⟩

end Go.Proofs.Ytiaoaoebghnpkaa.P
end
section
namespace Go.Proofs.Ytiaoaoebghnpkaa.P
open Go.RowKit Go.Proofs.YtiaoaoebghnpkaaW.PrintWords Go.Proofs.YtiaoaoebghnpkaaW.PrintLast Go.Proofs.YtiaoaoebghnpkaaW.PrintMore
attribute [local go_sem] max2_int min2_int max_two min_two max_three min_three max_four min_four   -- for this text's walks alone
set_option linter.unusedVariables false
set_option linter.unusedSimpArgs false

/-! ### weighbridgeref27_New: function 83 -/
def weighbridgeref27_New.f (k : Nat) (a0_0 : Int) (a0_1 : Bool) (a0_2 : Int) (a0_3 : Int) (a0_4 : Int) (a0_5 : Int) : Option (Int × Int × Int × Bool × Int) := (weighbridgeref27_Check.f k a0_0 a0_1 a0_2 a0_3 a0_4 a0_5).bind fun t103 => (if t103 = 0 then (some (IntKind.u64.wrap (a0_4 * 1000000000), IntKind.u64.wrap (a0_5 * 1000000000), 0, false, 0)) else (some (0, 0, 0, false, t103)))
set_option maxHeartbeats 8000000 in
set_option maxRecDepth 100000 in
theorem weighbridgeref27_New.calls (k : Nat) (a0_0 : Int) (a0_1 : Bool) (a0_2 : Int) (a0_3 : Int) (a0_4 : Int) (a0_5 : Int) (r1 : Int) (r2 : Int) (r3 : Int) (r4 : Bool) (r5 : Int) (w : World) (h : weighbridgeref27_New.f k a0_0 a0_1 a0_2 a0_3 a0_4 a0_5 = some (r1, r2, r3, r4, r5)) :
  Calls Try.prog 83 #[.agg #[.int .i64 a0_0, .bool a0_1, .int .u64 a0_2, .int .u64 a0_3, .int .u64 a0_4, .int .u64 a0_5]] w fun e w' => e = .returned (.tuple #[.agg #[.int .u64 r1, .int .u64 r2, .int .u64 r3, .bool r4], .int .i64 r5]) ∧ Below w.heap.size w w' := by
 have hu49 := Try.underlying49
 have hu51 := Try.underlying51
 have HB := zq3 (Below.refl w.heap.size w)
 have H : ((weighbridgeref27_Check.f k a0_0 a0_1 a0_2 a0_3 a0_4 a0_5).bind fun t103 => (if t103 = 0 then (some (IntKind.u64.wrap (a0_4 * 1000000000), IntKind.u64.wrap (a0_5 * 1000000000), 0, false, 0)) else (some (0, 0, 0, false, t103)))) = some (r1, r2, r3, r4, r5) := h
 clear h
 replace H := Option.bind_eq_some_iff.mp H
 obtain ⟨t103, A20, H⟩ := H
 replace H : (if t103 = 0 then (some (IntKind.u64.wrap (a0_4 * 1000000000), IntKind.u64.wrap (a0_5 * 1000000000), 0, false, 0)) else (some (0, 0, 0, false, t103))) = some (r1, r2, r3, r4, r5) := H
 have A2 := zq3 A20
 clear A20
 by_cases c3 : t103 = 0
 ·
  rw [if_pos c3] at H
  have c3b0 : (t103 == 0) = true := beq_iff_eq.mpr c3
  have c3b1 : (t103 != 0) = false := bne_eq_false_iff_eq.mpr c3
  clear c3
  simp only [Option.some.injEq, Prod.mk.injEq] at H
  obtain ⟨rfl, rfl, rfl, rfl, rfl⟩ := H
  go_enter Try.func83, Try.ntmps83
  go_wp2_with (first | ((with_reducible refine zd 1 rfl ?_); refine zb 1 #[.int .i64 a0_0, .bool a0_1, .int .u64 a0_2, .int .u64 a0_3, .int .u64 a0_4, .int .u64 a0_5] 49 ?_; intro gb101 hg w4 hbox hb; have BK101 := zq3 (hbox); have GW101 := ze hg HB; have GE101 := GW101; replace HB := zt HB hb; clear hb hbox hg) | ((with_reducible refine zd 2 rfl ?_); refine zb 2 #[.int .u64 0, .int .u64 0, .int .u64 0, .bool false] 51 ?_; intro gb102 hg w5 hbox hb; have BK102 := zq3 (hbox); have GW102 := ze hg HB; have GE102 := GW102; have NB101_102 := zl hg BK101; have NB102_101 := zg hg BK101; replace BK101 := zs BK101 hb; replace HB := zt HB hb; clear hb hbox hg; have hnb6 := NB101_102.out; have hnc6 := NB102_101.out; obtain ⟨hc7_0, hc7_1, hc7_2, hc7_3, hc7_4, hc7_5⟩ := zc6 BK101; obtain ⟨hf7_0, hf7_1, hf7_2, hf7_3, hf7_4, hf7_5⟩ := zf6 BK101) | ((with_reducible refine gate_callee (f := 77) rfl ?_); refine zgo (some 6) Try.func77 #[.agg #[.int .i64 a0_0, .bool a0_1, .int .u64 a0_2, .int .u64 a0_3, .int .u64 a0_4, .int .u64 a0_5]] ?_; (with_reducible refine (weighbridgeref27_Check.calls k a0_0 a0_1 a0_2 a0_3 a0_4 a0_5 t103 _ A2.out).mono ?_); rintro e w8 ⟨rfl, hb⟩; refine ⟨_, rfl, ?_⟩; replace BK101 := zs BK101 hb; replace BK102 := zs BK102 hb; replace HB := zt HB hb; (try clear hb); obtain ⟨hc9_0, hc9_1, hc9_2, hc9_3, hc9_4, hc9_5⟩ := zc6 BK101; obtain ⟨hf9_0, hf9_1, hf9_2, hf9_3, hf9_4, hf9_5⟩ := zf6 BK101; obtain ⟨hc10_0, hc10_1, hc10_2, hc10_3⟩ := zc4 BK102; obtain ⟨hf10_0, hf10_1, hf10_2, hf10_3⟩ := zf4 BK102))
  refine bodyPost_ret (results_ct rfl _ _ gb102 51 #[.int .u64 (IntKind.u64.wrap (a0_4 * 1000000000)), .int .u64 (IntKind.u64.wrap (a0_5 * 1000000000)), .int .u64 0, .bool false] (0, 0) _ rfl (zw4 BK102) Try.underlying51 rfl (by kernel_rfl)) rfl ?_
  exact ⟨by first | rfl | (simp [errW_none, errW_some] <;> rfl) | (simp [*, errW_none, errW_some] <;> rfl), zh HB⟩
 ·
  rw [if_neg c3] at H
  have c3b0 : (t103 == 0) = false := beq_eq_false_iff_ne.mpr c3
  have c3b1 : (t103 != 0) = true := bne_iff_ne.mpr c3
  simp only [Option.some.injEq, Prod.mk.injEq] at H
  obtain ⟨rfl, rfl, rfl, rfl, rfl⟩ := H
  go_enter Try.func83, Try.ntmps83
  go_wp2_with (first | ((with_reducible refine zd 1 rfl ?_); refine zb 1 #[.int .i64 a0_0, .bool a0_1, .int .u64 a0_2, .int .u64 a0_3, .int .u64 a0_4, .int .u64 a0_5] 49 ?_; intro gb101 hg w11 hbox hb; have BK101 := zq3 (hbox); have GW101 := ze hg HB; have GE101 := GW101; replace HB := zt HB hb; clear hb hbox hg) | ((with_reducible refine zd 2 rfl ?_); refine zb 2 #[.int .u64 0, .int .u64 0, .int .u64 0, .bool false] 51 ?_; intro gb102 hg w12 hbox hb; have BK102 := zq3 (hbox); have GW102 := ze hg HB; have GE102 := GW102; have NB101_102 := zl hg BK101; have NB102_101 := zg hg BK101; replace BK101 := zs BK101 hb; replace HB := zt HB hb; clear hb hbox hg; have hnb13 := NB101_102.out; have hnc13 := NB102_101.out; obtain ⟨hc14_0, hc14_1, hc14_2, hc14_3, hc14_4, hc14_5⟩ := zc6 BK101; obtain ⟨hf14_0, hf14_1, hf14_2, hf14_3, hf14_4, hf14_5⟩ := zf6 BK101) | ((with_reducible refine gate_callee (f := 77) rfl ?_); refine zgo (some 6) Try.func77 #[.agg #[.int .i64 a0_0, .bool a0_1, .int .u64 a0_2, .int .u64 a0_3, .int .u64 a0_4, .int .u64 a0_5]] ?_; (with_reducible refine (weighbridgeref27_Check.calls k a0_0 a0_1 a0_2 a0_3 a0_4 a0_5 t103 _ A2.out).mono ?_); rintro e w15 ⟨rfl, hb⟩; refine ⟨_, rfl, ?_⟩; replace BK101 := zs BK101 hb; replace BK102 := zs BK102 hb; replace HB := zt HB hb; (try clear hb); obtain ⟨hc16_0, hc16_1, hc16_2, hc16_3⟩ := zc4 BK102; obtain ⟨hf16_0, hf16_1, hf16_2, hf16_3⟩ := zf4 BK102))
  refine bodyPost_ret (results_ct rfl _ _ gb102 51 #[.int .u64 0, .int .u64 0, .int .u64 0, .bool false] (0, 0) _ rfl (zw4 BK102) Try.underlying51 rfl (by kernel_rfl)) rfl ?_
  exact ⟨by first | rfl | (simp [errW_none, errW_some] <;> rfl) | (simp [*, errW_none, errW_some] <;> rfl), zh HB⟩

end Go.Proofs.Ytiaoaoebghnpkaa.P
end
section
namespace Go.Proofs.Ytiaoaoebghnpkaa.P
open Go.RowKit Go.Proofs.YtiaoaoebghnpkaaW.PrintWords Go.Proofs.YtiaoaoebghnpkaaW.PrintLast Go.Proofs.YtiaoaoebghnpkaaW.PrintMore
attribute [local go_sem] max2_int min2_int max_two min_two max_three min_three max_four min_four   -- for this text's walks alone
set_option linter.unusedVariables false
set_option linter.unusedSimpArgs false

/-! ### weighbridgeref26_New: function 84 -/
def weighbridgeref26_New.f (k : Nat) (a0_0 : Int) (a0_1 : Bool) (a0_2 : Int) (a0_3 : Int) (a0_4 : Int) (a0_5 : Int) : Option (Int × Int × Int × Bool × Int) := (weighbridgeref26_Check.f k a0_0 a0_1 a0_2 a0_3 a0_4 a0_5).bind fun t103 => (if t103 = 0 then (some (IntKind.u64.wrap (a0_4 * 1000000000), IntKind.u64.wrap (a0_5 * 1000000000), 0, false, 0)) else (some (0, 0, 0, false, t103)))
set_option maxHeartbeats 8000000 in
set_option maxRecDepth 100000 in
theorem weighbridgeref26_New.calls (k : Nat) (a0_0 : Int) (a0_1 : Bool) (a0_2 : Int) (a0_3 : Int) (a0_4 : Int) (a0_5 : Int) (r1 : Int) (r2 : Int) (r3 : Int) (r4 : Bool) (r5 : Int) (w : World) (h : weighbridgeref26_New.f k a0_0 a0_1 a0_2 a0_3 a0_4 a0_5 = some (r1, r2, r3, r4, r5)) :
  Calls Try.prog 84 #[.agg #[.int .i64 a0_0, .bool a0_1, .int .u64 a0_2, .int .u64 a0_3, .int .u64 a0_4, .int .u64 a0_5]] w fun e w' => e = .returned (.tuple #[.agg #[.int .u64 r1, .int .u64 r2, .int .u64 r3, .bool r4], .int .i64 r5]) ∧ Below w.heap.size w w' := by
 have hu49 := Try.underlying49
 have hu51 := Try.underlying51
 have HB := zq3 (Below.refl w.heap.size w)
 have H : ((weighbridgeref26_Check.f k a0_0 a0_1 a0_2 a0_3 a0_4 a0_5).bind fun t103 => (if t103 = 0 then (some (IntKind.u64.wrap (a0_4 * 1000000000), IntKind.u64.wrap (a0_5 * 1000000000), 0, false, 0)) else (some (0, 0, 0, false, t103)))) = some (r1, r2, r3, r4, r5) := h
 clear h
 replace H := Option.bind_eq_some_iff.mp H
 obtain ⟨t103, A20, H⟩ := H
 replace H : (if t103 = 0 then (some (IntKind.u64.wrap (a0_4 * 1000000000), IntKind.u64.wrap (a0_5 * 1000000000), 0, false, 0)) else (some (0, 0, 0, false, t103))) = some (r1, r2, r3, r4, r5) := H
 have A2 := zq3 A20
 clear A20
 by_cases c3 : t103 = 0
 ·
  rw [if_pos c3] at H
  have c3b0 : (t103 == 0) = true := beq_iff_eq.mpr c3
  have c3b1 : (t103 != 0) = false := bne_eq_false_iff_eq.mpr c3
  clear c3
  simp only [Option.some.injEq, Prod.mk.injEq] at H
  obtain ⟨rfl, rfl, rfl, rfl, rfl⟩ := H
  go_enter Try.func84, Try.ntmps84
  go_wp2_with (first | ((with_reducible refine zd 1 rfl ?_); refine zb 1 #[.int .i64 a0_0, .bool a0_1, .int .u64 a0_2, .int .u64 a0_3, .int .u64 a0_4, .int .u64 a0_5] 49 ?_; intro gb101 hg w4 hbox hb; have BK101 := zq3 (hbox); have GW101 := ze hg HB; have GE101 := GW101; replace HB := zt HB hb; clear hb hbox hg) | ((with_reducible refine zd 2 rfl ?_); refine zb 2 #[.int .u64 0, .int .u64 0, .int .u64 0, .bool false] 51 ?_; intro gb102 hg w5 hbox hb; have BK102 := zq3 (hbox); have GW102 := ze hg HB; have GE102 := GW102; have NB101_102 := zl hg BK101; have NB102_101 := zg hg BK101; replace BK101 := zs BK101 hb; replace HB := zt HB hb; clear hb hbox hg; have hnb6 := NB101_102.out; have hnc6 := NB102_101.out; obtain ⟨hc7_0, hc7_1, hc7_2, hc7_3, hc7_4, hc7_5⟩ := zc6 BK101; obtain ⟨hf7_0, hf7_1, hf7_2, hf7_3, hf7_4, hf7_5⟩ := zf6 BK101) | ((with_reducible refine gate_callee (f := 78) rfl ?_); refine zgo (some 6) Try.func78 #[.agg #[.int .i64 a0_0, .bool a0_1, .int .u64 a0_2, .int .u64 a0_3, .int .u64 a0_4, .int .u64 a0_5]] ?_; (with_reducible refine (weighbridgeref26_Check.calls k a0_0 a0_1 a0_2 a0_3 a0_4 a0_5 t103 _ A2.out).mono ?_); rintro e w8 ⟨rfl, hb⟩; refine ⟨_, rfl, ?_⟩; replace BK101 := zs BK101 hb; replace BK102 := zs BK102 hb; replace HB := zt HB hb; (try clear hb); obtain ⟨hc9_0, hc9_1, hc9_2, hc9_3, hc9_4, hc9_5⟩ := zc6 BK101; obtain ⟨hf9_0, hf9_1, hf9_2, hf9_3, hf9_4, hf9_5⟩ := zf6 BK101; obtain ⟨hc10_0, hc10_1, hc10_2, hc10_3⟩ := zc4 BK102; obtain ⟨hf10_0, hf10_1, hf10_2, hf10_3⟩ := zf4 BK102))
  refine bodyPost_ret (results_ct rfl _ _ gb102 51 #[.int .u64 (IntKind.u64.wrap (a0_4 * 1000000000)), .int .u64 (IntKind.u64.wrap (a0_5 * 1000000000)), .int .u64 0, .bool false] (0, 0) _ rfl (zw4 BK102) Try.underlying51 rfl (by kernel_rfl)) rfl ?_
  exact ⟨by first | rfl | (simp [errW_none, errW_some] <;> rfl) | (simp [*, errW_none, errW_some] <;> rfl), zh HB⟩
 ·
  rw [if_neg c3] at H
  have c3b0 : (t103 == 0) = false := beq_eq_false_iff_ne.mpr c3
  have c3b1 : (t103 != 0) = true := bne_iff_ne.mpr c3
  simp only [Option.some.injEq, Prod.mk.injEq] at H
  obtain ⟨rfl, rfl, rfl, rfl, rfl⟩ := H
  go_enter Try.func84, Try.ntmps84
  go_wp2_with (first | ((with_reducible refine zd 1 rfl ?_); refine zb 1 #[.int .i64 a0_0, .bool a0_1, .int .u64 a0_2, .int .u64 a0_3, .int .u64 a0_4, .int .u64 a0_5] 49 ?_; intro gb101 hg w11 hbox hb; have BK101 := zq3 (hbox); have GW101 := ze hg HB; have GE101 := GW101; replace HB := zt HB hb; clear hb hbox hg) | ((with_reducible refine zd 2 rfl ?_); refine zb 2 #[.int .u64 0, .int .u64 0, .int .u64 0, .bool false] 51 ?_; intro gb102 hg w12 hbox hb; have BK102 := zq3 (hbox); have GW102 := ze hg HB; have GE102 := GW102; have NB101_102 := zl hg BK101; have NB102_101 := zg hg BK101; replace BK101 := zs BK101 hb; replace HB := zt HB hb; clear hb hbox hg; have hnb13 := NB101_102.out; have hnc13 := NB102_101.out; obtain ⟨hc14_0, hc14_1, hc14_2, hc14_3, hc14_4, hc14_5⟩ := zc6 BK101; obtain ⟨hf14_0, hf14_1, hf14_2, hf14_3, hf14_4, hf14_5⟩ := zf6 BK101) | ((with_reducible refine gate_callee (f := 78) rfl ?_); refine zgo (some 6) Try.func78 #[.agg #[.int .i64 a0_0, .bool a0_1, .int .u64 a0_2, .int .u64 a0_3, .int .u64 a0_4, .int .u64 a0_5]] ?_; (with_reducible refine (weighbridgeref26_Check.calls k a0_0 a0_1 a0_2 a0_3 a0_4 a0_5 t103 _ A2.out).mono ?_); rintro e w15 ⟨rfl, hb⟩; refine ⟨_, rfl, ?_⟩; replace BK101 := zs BK101 hb; replace BK102 := zs BK102 hb; replace HB := zt HB hb; (try clear hb); obtain ⟨hc16_0, hc16_1, hc16_2, hc16_3⟩ := zc4 BK102; obtain ⟨hf16_0, hf16_1, hf16_2, hf16_3⟩ := zf4 BK102))
  refine bodyPost_ret (results_ct rfl _ _ gb102 51 #[.int .u64 0, .int .u64 0, .int .u64 0, .bool false] (0, 0) _ rfl (zw4 BK102) Try.underlying51 rfl (by kernel_rfl)) rfl ?_
  exact ⟨by first | rfl | (simp [errW_none, errW_some] <;> rfl) | (simp [*, errW_none, errW_some] <;> rfl), zh HB⟩

end Go.Proofs.Ytiaoaoebghnpkaa.P
end
section
namespace Go.Proofs.Ytiaoaoebghnpkaa.P
open Go.RowKit Go.Proofs.YtiaoaoebghnpkaaW.PrintWords Go.Proofs.YtiaoaoebghnpkaaW.PrintLast Go.Proofs.YtiaoaoebghnpkaaW.PrintMore
attribute [local go_sem] max2_int min2_int max_two min_two max_three min_three max_four min_four   -- for this text's walks alone
set_option linter.unusedVariables false
set_option linter.unusedSimpArgs false

/-! ### weighbridgeref28_New: function 62 -/
def weighbridgeref28_New.f (k : Nat) (a0_0 : Int) (a0_1 : Bool) (a0_2 : Int) (a0_3 : Int) (a0_4 : Int) (a0_5 : Int) : Option (Int × Int × Int × Bool × Int) := if a0_0 = 2 then ((weighbridgeref27_New.f k a0_0 a0_1 a0_2 a0_3 a0_4 a0_5).bind fun bt103 => (some (bt103.1, bt103.2.1, bt103.2.2.1, bt103.2.2.2.1, bt103.2.2.2.2))) else ((weighbridgeref26_New.f k a0_0 a0_1 a0_2 a0_3 a0_4 a0_5).bind fun bt108 => (some (bt108.1, bt108.2.1, bt108.2.2.1, bt108.2.2.2.1, bt108.2.2.2.2)))
set_option maxHeartbeats 8000000 in
set_option maxRecDepth 100000 in
theorem weighbridgeref28_New.calls (k : Nat) (a0_0 : Int) (a0_1 : Bool) (a0_2 : Int) (a0_3 : Int) (a0_4 : Int) (a0_5 : Int) (r1 : Int) (r2 : Int) (r3 : Int) (r4 : Bool) (r5 : Int) (w : World) (h : weighbridgeref28_New.f k a0_0 a0_1 a0_2 a0_3 a0_4 a0_5 = some (r1, r2, r3, r4, r5)) :
  Calls Try.prog 62 #[.agg #[.int .i64 a0_0, .bool a0_1, .int .u64 a0_2, .int .u64 a0_3, .int .u64 a0_4, .int .u64 a0_5]] w fun e w' => e = .returned (.tuple #[.agg #[.int .u64 r1, .int .u64 r2, .int .u64 r3, .bool r4], .int .i64 r5]) ∧ Below w.heap.size w w' := by
 have hu49 := Try.underlying49
 have hu51 := Try.underlying51
 have HB := zq3 (Below.refl w.heap.size w)
 have H : (if a0_0 = 2 then ((weighbridgeref27_New.f k a0_0 a0_1 a0_2 a0_3 a0_4 a0_5).bind fun bt103 => (some (bt103.1, bt103.2.1, bt103.2.2.1, bt103.2.2.2.1, bt103.2.2.2.2))) else ((weighbridgeref26_New.f k a0_0 a0_1 a0_2 a0_3 a0_4 a0_5).bind fun bt108 => (some (bt108.1, bt108.2.1, bt108.2.2.1, bt108.2.2.2.1, bt108.2.2.2.2)))) = some (r1, r2, r3, r4, r5) := h
 clear h
 by_cases c2 : a0_0 = 2
 ·
  rw [if_pos c2] at H
  have c2b0 : (a0_0 == 2) = true := beq_iff_eq.mpr c2
  have c2b1 : (a0_0 != 2) = false := bne_eq_false_iff_eq.mpr c2
  clear c2
  replace H := Option.bind_eq_some_iff.mp H
  obtain ⟨⟨t103, t104, t105, t106, t107⟩, A30, H⟩ := H
  replace H : (some (t103, t104, t105, t106, t107)) = some (r1, r2, r3, r4, r5) := H
  have A3 := zq3 A30
  clear A30
  simp only [Option.some.injEq, Prod.mk.injEq] at H
  obtain ⟨rfl, rfl, rfl, rfl, rfl⟩ := H
  go_enter Try.func62, Try.ntmps62
  go_wp2_with (first | ((with_reducible refine zd 1 rfl ?_); refine zb 1 #[.int .i64 a0_0, .bool a0_1, .int .u64 a0_2, .int .u64 a0_3, .int .u64 a0_4, .int .u64 a0_5] 49 ?_; intro gb101 hg w4 hbox hb; have BK101 := zq3 (hbox); have GW101 := ze hg HB; have GE101 := GW101; replace HB := zt HB hb; clear hb hbox hg) | ((with_reducible refine zd 2 rfl ?_); refine zb 2 #[.int .u64 0, .int .u64 0, .int .u64 0, .bool false] 51 ?_; intro gb102 hg w5 hbox hb; have BK102 := zq3 (hbox); have GW102 := ze hg HB; have GE102 := GW102; have NB101_102 := zl hg BK101; have NB102_101 := zg hg BK101; replace BK101 := zs BK101 hb; replace HB := zt HB hb; clear hb hbox hg; have hnb6 := NB101_102.out; have hnc6 := NB102_101.out; obtain ⟨hc7_0, hc7_1, hc7_2, hc7_3, hc7_4, hc7_5⟩ := zc6 BK101; obtain ⟨hf7_0, hf7_1, hf7_2, hf7_3, hf7_4, hf7_5⟩ := zf6 BK101) | ((with_reducible refine gate_callee (f := 83) rfl ?_); refine zgo (some 8) Try.func83 #[.agg #[.int .i64 a0_0, .bool a0_1, .int .u64 a0_2, .int .u64 a0_3, .int .u64 a0_4, .int .u64 a0_5]] ?_; (with_reducible refine (weighbridgeref27_New.calls k a0_0 a0_1 a0_2 a0_3 a0_4 a0_5 t103 t104 t105 t106 t107 _ A3.out).mono ?_); rintro e w8 ⟨rfl, hb⟩; refine ⟨_, rfl, ?_⟩; replace BK101 := zs BK101 hb; replace BK102 := zs BK102 hb; replace HB := zt HB hb; (try clear hb); obtain ⟨hc9_0, hc9_1, hc9_2, hc9_3⟩ := zc4 BK102; obtain ⟨hf9_0, hf9_1, hf9_2, hf9_3⟩ := zf4 BK102))
  refine bodyPost_ret (results_ct rfl _ _ gb102 51 #[.int .u64 t103, .int .u64 t104, .int .u64 t105, .bool t106] (0, 0) _ rfl (zw4 BK102) Try.underlying51 rfl (by kernel_rfl)) rfl ?_
  exact ⟨by first | rfl | (simp [errW_none, errW_some] <;> rfl) | (simp [*, errW_none, errW_some] <;> rfl), zh HB⟩
 ·
  rw [if_neg c2] at H
  have c2b0 : (a0_0 == 2) = false := beq_eq_false_iff_ne.mpr c2
  have c2b1 : (a0_0 != 2) = true := bne_iff_ne.mpr c2
  replace H := Option.bind_eq_some_iff.mp H
  obtain ⟨⟨t108, t109, t110, t111, t112⟩, A100, H⟩ := H
  replace H : (some (t108, t109, t110, t111, t112)) = some (r1, r2, r3, r4, r5) := H
  have A10 := zq3 A100
  clear A100
  simp only [Option.some.injEq, Prod.mk.injEq] at H
  obtain ⟨rfl, rfl, rfl, rfl, rfl⟩ := H
  go_enter Try.func62, Try.ntmps62
  go_wp2_with (first | ((with_reducible refine zd 1 rfl ?_); refine zb 1 #[.int .i64 a0_0, .bool a0_1, .int .u64 a0_2, .int .u64 a0_3, .int .u64 a0_4, .int .u64 a0_5] 49 ?_; intro gb101 hg w11 hbox hb; have BK101 := zq3 (hbox); have GW101 := ze hg HB; have GE101 := GW101; replace HB := zt HB hb; clear hb hbox hg) | ((with_reducible refine zd 2 rfl ?_); refine zb 2 #[.int .u64 0, .int .u64 0, .int .u64 0, .bool false] 51 ?_; intro gb102 hg w12 hbox hb; have BK102 := zq3 (hbox); have GW102 := ze hg HB; have GE102 := GW102; have NB101_102 := zl hg BK101; have NB102_101 := zg hg BK101; replace BK101 := zs BK101 hb; replace HB := zt HB hb; clear hb hbox hg; have hnb13 := NB101_102.out; have hnc13 := NB102_101.out; obtain ⟨hc14_0, hc14_1, hc14_2, hc14_3, hc14_4, hc14_5⟩ := zc6 BK101; obtain ⟨hf14_0, hf14_1, hf14_2, hf14_3, hf14_4, hf14_5⟩ := zf6 BK101) | ((with_reducible refine gate_callee (f := 84) rfl ?_); refine zgo (some 12) Try.func84 #[.agg #[.int .i64 a0_0, .bool a0_1, .int .u64 a0_2, .int .u64 a0_3, .int .u64 a0_4, .int .u64 a0_5]] ?_; (with_reducible refine (weighbridgeref26_New.calls k a0_0 a0_1 a0_2 a0_3 a0_4 a0_5 t108 t109 t110 t111 t112 _ A10.out).mono ?_); rintro e w15 ⟨rfl, hb⟩; refine ⟨_, rfl, ?_⟩; replace BK101 := zs BK101 hb; replace BK102 := zs BK102 hb; replace HB := zt HB hb; (try clear hb); obtain ⟨hc16_0, hc16_1, hc16_2, hc16_3⟩ := zc4 BK102; obtain ⟨hf16_0, hf16_1, hf16_2, hf16_3⟩ := zf4 BK102))
  refine bodyPost_ret (results_ct rfl _ _ gb102 51 #[.int .u64 t108, .int .u64 t109, .int .u64 t110, .bool t111] (0, 0) _ rfl (zw4 BK102) Try.underlying51 rfl (by kernel_rfl)) rfl ?_
  exact ⟨by first | rfl | (simp [errW_none, errW_some] <;> rfl) | (simp [*, errW_none, errW_some] <;> rfl), zh HB⟩

end Go.Proofs.Ytiaoaoebghnpkaa.P
end
