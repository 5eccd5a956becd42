/- What the layer's fixed questions about buckets answer: all of them as written. -/
import Derived.Test.YtgidglbkmklajaaBucket
namespace Go.Proofs.Ytgidglbkmklajaa
open Go.RowKit

theorem U_of {n : Int} (h : 0 ≤ n ∧ n < 18446744073709551616) : U n := h
set_option maxRecDepth 100000 in
set_option maxHeartbeats 4000000 in
theorem live24_any (w : World) : Calls Try.prog 26 #[] w fun e w' => e = .returned (.bool true) ∧ Below w.heap.size w w' := by
  go_enter Try.func26, Try.ntmps26
  go_wp2_with fail
  refine (bfull_any _ _ (U_of (by decide))).mono ?_
  rintro e W1 ⟨rfl, rfl⟩
  rw [show fullV 4294967296 = 4294967296000000000 from rfl, show fullE 4294967296 = 0 from rfl]
  go_wp2_with fail
  refine (bfull_any _ _ (U_of (by decide))).mono ?_
  rintro e W1 ⟨rfl, rfl⟩
  rw [show fullV 4294967297 = 0 from rfl, show fullE 4294967297 = 17 from rfl]
  go_wp2_with fail
  refine (bgrow_any _ _ _ _ _ (U_of (by decide)) (U_of (by decide)) (U_of (by decide)) (U_of (by decide))).mono ?_
  rintro e W1 ⟨rfl, hW1⟩
  rw [show growV 5 100 (3 * 40) = 100 from rfl, show hi (spillV 5 100 (3 * 40)) = 0 from rfl, show lo (spillV 5 100 (3 * 40)) = 25 from rfl]
  have hB1 : Below w.heap.size w W1 := hW1
  have b1 := Blk.new W1 38 #[.int .u64 0, .int .u64 25]
  clear hW1
  go_wp2_with fail
  refine (bgrow_any _ _ _ _ _ (U_of (by decide)) (U_of (by decide)) (U_of (by decide)) (U_of (by decide))).mono ?_
  rintro e W2 ⟨rfl, hW2⟩
  rw [show growV 200 100 (3 * 40) = 200 from rfl, show hi (spillV 200 100 (3 * 40)) = 0 from rfl, show lo (spillV 200 100 (3 * 40)) = 120 from rfl]
  have hB2 : Below w.heap.size w W2 := below_of (hB1.alloc hB1.size _) hW2
  replace b1 := (b1.step hW2).alloc (.cells #[.int .u64 0, .int .u64 120] 38)
  have b2 := Blk.new W2 38 #[.int .u64 0, .int .u64 120]
  clear hW2 hB1
  go_wp2_with fail
  refine (btake_any _ _ _ (U_of (by decide)) (by unfold I64; decide)).mono ?_
  rintro e W3 ⟨rfl, hW3⟩
  rw [show takeV 3000000000 2 = 1000000000 from rfl, show canV 3000000000 2 = true from rfl]
  have hB3 : Below w.heap.size w W3 := below_of (hB2.alloc hB2.size _) hW3
  replace b1 := b1.step hW3
  replace b2 := b2.step hW3
  clear hW3 hB2
  go_wp2_with fail
  refine (btake_any _ _ _ (U_of (by decide)) (by unfold I64; decide)).mono ?_
  rintro e W4 ⟨rfl, hW4⟩
  rw [show takeV 999999999 1 = 999999999 from rfl, show canV 999999999 1 = false from rfl]
  have hB4 : Below w.heap.size w W4 := below_of (by go_grown) hW4
  replace b1 := b1.step hW4
  replace b2 := b2.step hW4
  clear hW4 hB3
  go_wp2_with fail
  refine (bwait_any _ _ _ _ _ (U_of (by decide)) (U_of (by decide)) (by unfold I64; decide)).mono ?_
  rintro e W5 ⟨rfl, hW5⟩
  rw [show waitV 500000000 5000000000 3 1 = 166666667 from rfl, show willV 500000000 5000000000 3 1 = true from rfl]
  have hB5 : Below w.heap.size w W5 := below_of (by go_grown) hW5
  replace b1 := b1.step hW5
  replace b2 := b2.step hW5
  clear hW5 hB4
  go_wp2_with fail
  refine (bwait_any _ _ _ _ _ (U_of (by decide)) (U_of (by decide)) (by unfold I64; decide)).mono ?_
  rintro e W6 ⟨rfl, hW6⟩
  rw [show waitV 0 5000000000 3 6 = 0 from rfl, show willV 0 5000000000 3 6 = false from rfl]
  have hB6 : Below w.heap.size w W6 := below_of (by go_grown) hW6
  replace b1 := b1.step hW6
  replace b2 := b2.step hW6
  clear hW6 hB5
  go_wp2_with fail
  refine (bneed_any _ _ (by unfold I64; decide)).mono ?_
  rintro e W7 ⟨rfl, hW7⟩
  rw [show needV 4611686018427387904 = 0 from rfl, show okV 4611686018427387904 = false from rfl]
  have hB7 : Below w.heap.size w W7 := below_of (by go_grown) hW7
  replace b1 := b1.step hW7
  replace b2 := b2.step hW7
  clear hW7 hB6
  have c10 := b1.cell 0
  have c11 := b1.cell 1
  have c20 := b2.cell 0
  have c21 := b2.cell 1
  simp only [List.getElem?_toArray, List.getElem?_cons_zero, List.getElem?_cons_succ] at c10 c11 c20 c21
  go_wp2
  go_returns
  exact ⟨rfl, by go_grown⟩

end Go.Proofs.Ytgidglbkmklajaa
