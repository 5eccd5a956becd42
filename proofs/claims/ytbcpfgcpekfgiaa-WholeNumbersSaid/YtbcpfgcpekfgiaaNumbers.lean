/- The law WholeNumbers answers true, whatever the input. Condition: none. -/
import Derived.Test.YtbcpfgcpekfgiaaRows
import Derived.Test.YtbcpfgcpekfgiaaOctet
import Derived.Test.YtbcpfgcpekfgiaaWide
import Derived.Test.YtbcpfgcpekfgiaaLate
import Derived.Test.YtbcpfgcpekfgiaaNumP
import Derived.Deep.RegionWith
import Derived.Laws.BytesArg
namespace Go.Proofs.Ytbcpfgcpekfgiaa
open Go.RowKit

def wordsA (b : Nat → Int) : Array Value := byA 16 b
theorem be8_U {b : Nat → Int} (h : ∀ i, isByte (b i)) : U (be b 8) := by
  have := be_bound h 8
  unfold U
  have e : (256 : Int) ^ 8 = 18446744073709551616 := by decide
  omega
set_option maxRecDepth 100000 in
set_option maxHeartbeats 1000000 in
theorem read_any (b : Nat → Int) (w : World) (hb : ∀ i, isByte (b i)) : Calls Try.prog 25 #[.agg (wordsA b)] w fun e w' => e = .returned (.tuple #[.agg #[.int .u64 (be b 8), .int .u64 (be (fun i => b (8 + i)) 8)], .bool true]) ∧ Below w.heap.size w w' := by
  go_enter Try.func25, Try.ntmps25
  go_wp2_with fail
  have n0 := (Blk.new w 54 (byA 16 b)).alloc (.cells #[.int .u64 0, .int .u64 0] 56)
  have n1 : Blk ((w.alloc (.cells (byA 16 b) 54)).alloc (.cells #[.int .u64 0, .int .u64 0] 56)) (w.heap.size + 1) 56 #[.int .u64 0, .int .u64 0] := by
    have h := Blk.new (w.alloc (.cells (byA 16 b) 54)) 56 #[.int .u64 0, .int .u64 0]
    simpa only [World.size_alloc] using h
  have nB : Below w.heap.size w ((w.alloc (.cells (byA 16 b) 54)).alloc (.cells #[.int .u64 0, .int .u64 0] 56)) := by go_grown
  unfold wordsA
  generalize ((w.alloc (.cells (byA 16 b) 54)).alloc (.cells #[.int .u64 0, .int .u64 0] 56)) = W2 at *
  have hcell : ∀ i, i < 16 → W2.cell? ⟨w.heap.size, 0 + i, none⟩ = some (.int .u8 (b i)) := fun i hi => by
    rw [Nat.zero_add, n0.cell i, byA_get _ hi]
  have HC := Lib.hid hcell
  clear hcell
  have e0 : (fun i => b (0 + i)) = b := by funext i; rw [Nat.zero_add]
  refine (get_any b w.heap.size 0 16 16 0 8 W2 hb HC.out (by decide) (by decide) (by decide) (by decide) (by decide)).mono ?_
  rintro e w' ⟨rfl, rfl⟩
  rw [e0]
  go_wp2_with fail
  refine (get_any b w.heap.size 0 16 16 8 8 W2 hb HC.out (by decide) (by decide) (by decide) (by decide) (by decide)).mono ?_
  rintro e w' ⟨rfl, rfl⟩
  have y0 := n1.cell 0
  have y1 := n1.cell 1
  have h0 := n1.frozen 0
  have h1 := n1.frozen 1
  simp only [List.getElem?_toArray, List.getElem?_cons_zero, List.getElem?_cons_succ] at y0 y1
  go_wp2_with fail
  have R := (n1.put 0 (.int .u64 (be b 8))).put 1 (.int .u64 (be (fun i => b (8 + i)) 8))
  have RB : Below w.heap.size w ((W2.setCell ⟨w.heap.size + 1, 0, none⟩ (.int .u64 (be b 8))).setCell ⟨w.heap.size + 1, 1, none⟩ (.int .u64 (be (fun i => b (8 + i)) 8))) := (nB.setCell (p := ⟨w.heap.size + 1, 0, none⟩) (by simp) _).setCell (p := ⟨w.heap.size + 1, 1, none⟩) (by simp) _
  generalize ((W2.setCell ⟨w.heap.size + 1, 0, none⟩ (.int .u64 (be b 8))).setCell ⟨w.heap.size + 1, 1, none⟩ (.int .u64 (be (fun i => b (8 + i)) 8))) = W7 at R RB ⊢
  clear y0 y1 h0 h1
  have z0 := R.cell 0
  have z1 := R.cell 1
  simp only [List.setIfInBounds_toArray, List.set_cons_zero, List.set_cons_succ, List.getElem?_toArray, List.getElem?_cons_zero, List.getElem?_cons_succ] at z0 z1
  refine bodyPost_ret (by simp [results, Try.results25, go_sem, z0, z1]) rfl ⟨rfl, RB⟩
theorem awake_any (w : World) : Calls Try.prog 31 #[] w fun e w' => e = .returned (.bool true) ∧ Below w.heap.size w w' := by
  go_enter Try.func31, Try.ntmps31
  go_wp2_with fail
  have n0 := Blk.new w 5 #[.int .u8 1, .int .u8 2]
  have nB : Below w.heap.size w (w.alloc (.cells #[.int .u8 1, .int .u8 2] 5)) := by go_grown
  generalize (w.alloc (.cells #[.int .u8 1, .int .u8 2] 5)) = W2 at *
  have hb : ∀ i, isByte ((fun i : Nat => if i = 0 then (1 : Int) else if i = 1 then 2 else 0) i) := fun i => by
    dsimp only
    unfold isByte
    split
    · omega
    · split <;> omega
  have hc : ∀ i, i < 2 → W2.cell? ⟨w.heap.size, 0 + i, none⟩ = some (.int .u8 ((fun i : Nat => if i = 0 then (1 : Int) else if i = 1 then 2 else 0) i)) := fun i hi => by
    rw [Nat.zero_add, n0.cell i]
    have : i = 0 ∨ i = 1 := by omega
    rcases this with rfl | rfl <;> rfl
  refine (get_any _ w.heap.size 0 2 2 0 2 W2 hb hc (by decide) (by decide) (by decide) (by decide) (by decide)).mono ?_
  rintro e w' ⟨rfl, rfl⟩
  rw [show be (fun i => (fun i : Nat => if i = 0 then (1 : Int) else if i = 1 then 2 else 0) (0 + i)) 2 = 258 from by decide]
  clear hc hb
  go_wp2_with fail
  refine (of_any _ _).mono ?_
  rintro e W3 ⟨rfl, hW3⟩
  have B3 := below_of (w := w) nB hW3
  clear hW3 nB n0
  go_wp2_with fail
  refine (of_any _ _).mono ?_
  rintro e W4 ⟨rfl, hW4⟩
  have B4 := below_of (w := w) B3 hW4
  clear hW4 B3
  go_wp2_with fail
  refine (add_any _ _ _ _ _ U_zero (by unfold U; omega) U_zero U_one).mono ?_
  rintro e W5 ⟨rfl, hW5⟩
  have B5 := below_of (w := w) B4 hW5
  clear hW5 B4
  rw [show hi (wd 0 18446744073709551615 + wd 0 1) = 1 from by decide, show lo (wd 0 18446744073709551615 + wd 0 1) = 0 from by decide, show ov (wd 0 18446744073709551615 + wd 0 1) = false from by decide]
  go_wp2_with fail
  go_returns
  exact ⟨rfl, B5.alloc B5.size _⟩

theorem be_hi (b : Nat → Int) : wd (be b 8) (be (fun i => b (8 + i)) 8) = lowN b 16 := by
  simp only [be, lowN, wd, Int.reducePow, Nat.reduceSub, Nat.reduceAdd]
  omega
theorem be_lo (b : Nat → Int) : be (fun i => b (8 + i)) 8 = lowN b 8 := by
  simp only [be, lowN, Int.reducePow, Nat.reduceSub, Nat.reduceAdd]
  omega
/-- What the two halves of a number come to as sixteen bytes. -/
theorem put_halves (N : Int) (f : Nat → Int) (j : Nat) (hj : j < 16) : putV (putV f 0 8 (hi N) 8) 8 8 (lo N) 8 j = N % 340282366920938463463374607431768211456 / 256 ^ (15 - j) % 256 := by
  have key : ∀ (g : Nat → Int) (a : Nat) (x : Int), (∀ k, k < 8 → putV g a 8 x 8 (a + k) = x / 256 ^ (7 - k) % 256) ∧ ∀ k, (k < a ∨ a + 8 ≤ k) → putV g a 8 x 8 k = g k := by
    intro g a x
    have gen : ∀ m, m ≤ 8 → ∀ k, putV g a 8 x m k = if a + 8 - m ≤ k ∧ k < a + 8 then x / 256 ^ (a + 7 - k) % 256 else g k := by
      intro m
      induction m with
      | zero =>
        intro _ k
        rw [if_neg (by omega)]
        rfl
      | succ m ih =>
        intro hm k
        unfold putV upd'
        by_cases hk : k = a + 8 - 1 - m
        · rw [if_pos hk, if_pos (by omega)]
          have : a + 7 - k = m := by omega
          rw [this]
        · rw [if_neg hk, ih (by omega)]
          by_cases h2 : a + 8 - m ≤ k ∧ k < a + 8
          · rw [if_pos h2, if_pos (by omega)]
          · rw [if_neg h2, if_neg (by omega)]
    refine ⟨fun k hk => ?_, fun k hk => ?_⟩
    · rw [gen 8 (Nat.le_refl _), if_pos (by omega)]
      have : a + 7 - (a + k) = 7 - k := by omega
      rw [this]
    · rw [gen 8 (Nat.le_refl _), if_neg (by omega)]
  by_cases h : j < 8
  · rw [(key _ 8 _).2 j (.inl h)]
    have h1 := (key f 0 (hi N)).1 j h
    rw [Nat.zero_add] at h1
    rw [h1, hi_byte N (7 - j) (by omega)]
    have : 7 - j + 8 = 15 - j := by omega
    rw [this]
  · obtain ⟨k, rfl⟩ : ∃ k, j = 8 + k := ⟨j - 8, by omega⟩
    rw [(key _ 8 _).1 k (by omega), lo_byte N (7 - k) (by omega)]
    have : 7 - k = 15 - (8 + k) := by omega
    rw [this]

theorem put_first (x : Int) (W : World) (hx : U x) : Calls Try.prog 30 #[.slice (some ⟨W.heap.size, 0, none⟩) 16 16, .int .i64 0, .int .i64 8, .int .u64 x] (W.alloc (.cells (byA 16 (fun _ => 0)) 5)).drew fun e w' => ∃ h, e = .returned (.tuple #[.slice (some ⟨h, 0, none⟩) 16 16, .int .i64 0]) ∧ W.heap.size + 1 ≤ h ∧ Blk w' h 5 (byA 16 (putV (fun _ => 0) 0 8 x 8)) ∧ Below W.heap.size W w' := by
  have hB : Blk (W.alloc (.cells (byA 16 (fun _ => 0)) 5)).drew W.heap.size 5 (byA 16 (fun _ => 0)) := (Blk.new W _ _).drew
  have hc : ∀ i, i < 16 → (W.alloc (.cells (byA 16 (fun _ => 0)) 5)).drew.cell? ⟨W.heap.size, 0 + i, none⟩ = some (.int .u8 ((fun _ => 0) i)) := fun i hi => by
    rw [Nat.zero_add]
    exact (hB.cell i).trans (byA_get _ hi)
  refine (put_any (fun _ => 0) W.heap.size 0 16 16 0 8 x _ hx hc hB.lt (by decide) (by decide) (fun h => absurd h (by decide)) (by decide) (by decide)).mono ?_
  rintro e w' ⟨h, rfl, hh, hb, hw⟩
  refine ⟨h, rfl, by simpa using hh, hb, below_of ?_ hw⟩
  exact ((Below.refl _ _).alloc (Nat.le_refl _) _).drew

set_option maxRecDepth 100000 in
set_option maxHeartbeats 4000000 in
theorem numbers_any (x y : Nat → Int) (n : Int) (w : World) (hx : ∀ i, isByte (x i)) (hy : ∀ i, isByte (y i)) (hn : isByte n) :
    Calls Try.prog 6 #[.agg (byA 16 x), .agg (byA 16 y), .int .u8 n] w fun e w' => e = .returned (.bool true) ∧ Below w.heap.size w w' := by
  go_enter Try.func6, Try.ntmps6
  go_upto_region 2 with fail
  have nx := (Blk.new w 54 (byA 16 x)).alloc (.cells (byA 16 y) 54)
  have ny : Blk ((w.alloc (.cells (byA 16 x) 54)).alloc (.cells (byA 16 y) 54)) (w.heap.size + 1) 54 (byA 16 y) := by
    have h := Blk.new (w.alloc (.cells (byA 16 x) 54)) 54 (byA 16 y)
    simpa only [World.size_alloc] using h
  have nB : Below w.heap.size w ((w.alloc (.cells (byA 16 x) 54)).alloc (.cells (byA 16 y) 54)) := by go_grown
  generalize ((w.alloc (.cells (byA 16 x) 54)).alloc (.cells (byA 16 y) 54)) = W2 at *
  refine wp_region_lit ?_
  refine wpList_plain rfl fun K hK => ?_
  unfold Oper.wp execOp
  go_simp
  refine hK _ _ ?_
  clear hK K
  refine wpList_load_row rfl 54 (.tmp 3) rfl w.heap.size rfl 54 (byA 16 x) (0, 0) _ nx Try.underlying54 rfl (by rw [byA_size]; kernel_rfl) ?_
  simp only [Act.put, List.setIfInBounds_toArray, List.set_cons_zero, List.set_cons_succ]
  go_wp2_with fail
  refine (read_any x _ hx).mono ?_
  rintro e W3 ⟨rfl, hW3⟩
  rw [be_lo]
  have hxU := be8_U hx
  have hxL : U (lowN x 8) := by rw [← be_lo]; exact be8_U fun i => hx _
  have hyU := be8_U hy
  have hyL : U (lowN y 8) := by rw [← be_lo]; exact be8_U fun i => hy _
  have hX := be_hi x
  have hY := be_hi y
  rw [be_lo] at hX hY
  generalize hxh : be x 8 = xh at *
  generalize hyh : be y 8 = yh at *
  generalize hxl : lowN x 8 = xl at *
  generalize hyl : lowN y 8 = yl at *
  go_upto_region 3 with fail
  have l_nx_na := Nat.lt_of_lt_of_le nx.lt hW3.size
  have l_ny_na := Nat.lt_of_lt_of_le ny.lt hW3.size
  replace nx := (nx.step hW3).alloc (.cells #[.int .u64 xh, .int .u64 xl] 56)
  replace ny := (ny.step hW3).alloc (.cells #[.int .u64 xh, .int .u64 xl] 56)
  have na := Blk.new W3 56 #[.int .u64 xh, .int .u64 xl]
  have zB := below_of nB hW3
  replace nB := zB.alloc zB.size (.cells #[.int .u64 xh, .int .u64 xl] 56)
  have k_na := zB.size
  clear hW3 zB
  generalize W3.alloc (.cells #[.int .u64 xh, .int .u64 xl] 56) = W4 at *
  generalize hh_na : W3.heap.size = ga at *
  clear hh_na
  refine wp_region_lit ?_
  refine wpList_plain rfl fun K hK => ?_
  unfold Oper.wp execOp
  go_simp
  refine hK _ _ ?_
  clear hK K
  refine wpList_load_row rfl 54 (.tmp 4) rfl (w.heap.size+1) rfl 54 (byA 16 y) (0, 0) _ ny Try.underlying54 rfl (by rw [byA_size]; kernel_rfl) ?_
  simp only [Act.put, List.setIfInBounds_toArray, List.set_cons_zero, List.set_cons_succ]
  go_wp2_with fail
  refine (read_any y _ hy).mono ?_
  rintro e W5 ⟨rfl, hW5⟩
  rw [be_lo, hyh, hyl]
  go_upto_region 4 with fail
  have l_nx_nb := Nat.lt_of_lt_of_le nx.lt hW5.size
  have l_ny_nb := Nat.lt_of_lt_of_le ny.lt hW5.size
  have l_na_nb := Nat.lt_of_lt_of_le na.lt hW5.size
  replace nx := (nx.step hW5).alloc (.cells #[.int .u64 yh, .int .u64 yl] 56)
  replace ny := (ny.step hW5).alloc (.cells #[.int .u64 yh, .int .u64 yl] 56)
  replace na := (na.step hW5).alloc (.cells #[.int .u64 yh, .int .u64 yl] 56)
  have nb := Blk.new W5 56 #[.int .u64 yh, .int .u64 yl]
  have zB := below_of nB hW5
  replace nB := zB.alloc zB.size (.cells #[.int .u64 yh, .int .u64 yl] 56)
  have k_nb := zB.size
  clear hW5 zB
  generalize W5.alloc (.cells #[.int .u64 yh, .int .u64 yl] 56) = W6 at *
  generalize hh_nb : W5.heap.size = gb at *
  clear hh_nb
  have p0 := na.cell 0
  have p1 := na.cell 1
  have pf0 := na.frozen 0
  have pf1 := na.frozen 1
  simp only [List.getElem?_toArray, List.getElem?_cons_zero, List.getElem?_cons_succ] at p0 p1
  have q0 := nb.cell 0
  have q1 := nb.cell 1
  have qf0 := nb.frozen 0
  have qf1 := nb.frozen 1
  simp only [List.getElem?_toArray, List.getElem?_cons_zero, List.getElem?_cons_succ] at q0 q1
  go_wp2_with fail
  refine (add_any _ _ _ _ _ hxU hxL hyU hyL).mono ?_
  rintro e W7 ⟨rfl, hW7⟩
  clear p0 pf0 p1 pf1
  clear q0 qf0 q1 qf1
  rw [hX, hY]
  have hNx := lowN_bound hx 16
  have hNy := lowN_bound hy 16
  go_upto_region 5 with fail
  have l_nx_ns := Nat.lt_of_lt_of_le nx.lt hW7.size
  have l_ny_ns := Nat.lt_of_lt_of_le ny.lt hW7.size
  have l_na_ns := Nat.lt_of_lt_of_le na.lt hW7.size
  have l_nb_ns := Nat.lt_of_lt_of_le nb.lt hW7.size
  replace nx := (nx.step hW7).alloc (.cells #[.int .u64 (hi (lowN x 16 + lowN y 16)), .int .u64 (lo (lowN x 16 + lowN y 16))] 56)
  replace ny := (ny.step hW7).alloc (.cells #[.int .u64 (hi (lowN x 16 + lowN y 16)), .int .u64 (lo (lowN x 16 + lowN y 16))] 56)
  replace na := (na.step hW7).alloc (.cells #[.int .u64 (hi (lowN x 16 + lowN y 16)), .int .u64 (lo (lowN x 16 + lowN y 16))] 56)
  replace nb := (nb.step hW7).alloc (.cells #[.int .u64 (hi (lowN x 16 + lowN y 16)), .int .u64 (lo (lowN x 16 + lowN y 16))] 56)
  have ns := Blk.new W7 56 #[.int .u64 (hi (lowN x 16 + lowN y 16)), .int .u64 (lo (lowN x 16 + lowN y 16))]
  have zB := below_of nB hW7
  replace nB := zB.alloc zB.size (.cells #[.int .u64 (hi (lowN x 16 + lowN y 16)), .int .u64 (lo (lowN x 16 + lowN y 16))] 56)
  have k_ns := zB.size
  clear hW7 zB
  generalize W7.alloc (.cells #[.int .u64 (hi (lowN x 16 + lowN y 16)), .int .u64 (lo (lowN x 16 + lowN y 16))] 56) = W8 at *
  generalize hh_ns : W7.heap.size = gs at *
  clear hh_ns
  have p0 := na.cell 0
  have p1 := na.cell 1
  have pf0 := na.frozen 0
  have pf1 := na.frozen 1
  simp only [List.getElem?_toArray, List.getElem?_cons_zero, List.getElem?_cons_succ] at p0 p1
  have hnU : U n := by unfold isByte at hn; unfold U; omega
  have hnw : IntKind.u64.wrap n = n := by rw [IntKind.wrap_u64]; unfold isByte at hn; omega
  go_wp2_with fail
  refine (mul_any _ _ _ hxL hnU).mono ?_
  rintro e W9 ⟨rfl, hW9⟩
  clear p0 pf0 p1 pf1
  go_upto_region 6 with fail
  have l_nx_np := Nat.lt_of_lt_of_le nx.lt hW9.size
  have l_ny_np := Nat.lt_of_lt_of_le ny.lt hW9.size
  have l_na_np := Nat.lt_of_lt_of_le na.lt hW9.size
  have l_nb_np := Nat.lt_of_lt_of_le nb.lt hW9.size
  have l_ns_np := Nat.lt_of_lt_of_le ns.lt hW9.size
  replace nx := (nx.step hW9).alloc (.cells #[.int .u64 (hi (xl * n)), .int .u64 (lo (xl * n))] 56)
  replace ny := (ny.step hW9).alloc (.cells #[.int .u64 (hi (xl * n)), .int .u64 (lo (xl * n))] 56)
  replace na := (na.step hW9).alloc (.cells #[.int .u64 (hi (xl * n)), .int .u64 (lo (xl * n))] 56)
  replace nb := (nb.step hW9).alloc (.cells #[.int .u64 (hi (xl * n)), .int .u64 (lo (xl * n))] 56)
  replace ns := (ns.step hW9).alloc (.cells #[.int .u64 (hi (xl * n)), .int .u64 (lo (xl * n))] 56)
  have np := Blk.new W9 56 #[.int .u64 (hi (xl * n)), .int .u64 (lo (xl * n))]
  have zB := below_of nB hW9
  replace nB := zB.alloc zB.size (.cells #[.int .u64 (hi (xl * n)), .int .u64 (lo (xl * n))] 56)
  have k_np := zB.size
  clear hW9 zB
  generalize W9.alloc (.cells #[.int .u64 (hi (xl * n)), .int .u64 (lo (xl * n))] 56) = W10 at *
  generalize hh_np : W9.heap.size = gp at *
  clear hh_np
  go_upto_region 8 with fail
  rw [show (#[.int .u8 0, .int .u8 0, .int .u8 0, .int .u8 0, .int .u8 0, .int .u8 0, .int .u8 0, .int .u8 0, .int .u8 0, .int .u8 0, .int .u8 0, .int .u8 0, .int .u8 0, .int .u8 0, .int .u8 0, .int .u8 0] : Array Value) = byA 16 (fun _ => 0) from by kernel_rfl]
  replace nx := nx.alloc (.cells (byA 16 fun _ => 0) 54)
  replace ny := ny.alloc (.cells (byA 16 fun _ => 0) 54)
  have l_ns_nz := ns.lt
  have l_np_nz := np.lt
  have l_nx_nz := nx.lt
  have l_ny_nz := ny.lt
  replace ns := ns.alloc (.cells (byA 16 fun _ => 0) 54)
  replace np := np.alloc (.cells (byA 16 fun _ => 0) 54)
  have nz := Blk.new W10 54 (byA 16 fun _ => 0)
  have k_nz := nB.size
  replace nB := nB.alloc nB.size (.cells (byA 16 fun _ => 0) 54)
  generalize W10.alloc (.cells (byA 16 fun _ => 0) 54) = W11 at *
  generalize W10.heap.size = gz at *
  clear na nb
  go_wp2_with fail
  go_loopw [16, 17, 18] (fun cv tv iv wr => ∃ k : Nat, k ≤ 16 ∧ iv = .int .i64 (15 - (k : Int)) ∧ cv = .int .i64 (cyN x y k) ∧ tv = .int .i64 (tmN x n k) ∧ Hid (Blk wr gz 54 (byA 16 fun j => if 16 - k ≤ j then zN x y j else 0)) ∧
      Hid (Blk wr w.heap.size 54 (byA 16 x)) ∧ Hid (Blk wr (w.heap.size + 1) 54 (byA 16 y)) ∧ Hid (Blk wr gs 56 #[.int .u64 (hi (lowN x 16 + lowN y 16)), .int .u64 (lo (lowN x 16 + lowN y 16))]) ∧ Hid (Blk wr gp 56 #[.int .u64 (hi (xl * n)), .int .u64 (lo (xl * n))]) ∧ Hid (Below w.heap.size w wr)) (fun _ _ iv _ => (intOf iv + 1).toNat)
  case atStart => 
    refine ⟨0, by omega, rfl, rfl, rfl, ?_, nx, ny, ns, np, nB⟩
    have e : byA 16 (fun j => if 16 - 0 ≤ j then zN x y j else 0) = byA 16 (fun _ => 0) := byA_congr fun i hi => by rw [if_neg (by omega)]
    rw [e]
    exact nz
  case round =>
    obtain ⟨k, hk, rfl, rfl, rfl, EZ, EX, EY, ES, EP, EB⟩ := hrel
    have hcb := cyN_bound hx hy k
    have htb := tmN_bound hx hn k
    by_cases hlt : k < 16
    · obtain ⟨m, hm⟩ : ∃ m : Nat, 15 - (k : Int) = (m : Int) := ⟨15 - k, by omega⟩
      have hmk : 15 - k = m := by omega
      have hm16 : m < 16 := by omega
      obtain ⟨bx0, bx1⟩ : 0 ≤ x m ∧ x m < 256 := hx m
      obtain ⟨by0, by1⟩ : 0 ≤ y m ∧ y m < 256 := hy m
      obtain ⟨bc0, bc1⟩ := hcb
      have c1 := (EX.out.cell m).trans (byA_get _ hm16)
      have c2 := (EY.out.cell m).trans (byA_get _ hm16)
      rw [hm]
      have hm0 : (0 : Int) ≤ (m : Int) := by omega
      have hmi : (m : Int) < 16 := by omega
      have l1 := EX.out.lt
      have l2 := EY.out.lt
      clear nx ny ns np nz nB
      go_wp2_with fail
      refine wp_region_calls 11 (by kernel_rfl) (by kernel_rfl) ?_
      simp only [List.take_succ_cons, List.take_zero, List.drop_succ_cons, List.drop_zero]
      refine walk1_open fun K hK => ?_
      repeat
        apply walk1_value (by rfl)
        · intro W hcl hsz; go_simp; rfl
        simp only [Act.put, List.setIfInBounds_toArray, List.set_cons_zero, List.set_cons_succ]
      refine walk1_nil (hK _ ?_); clear hK K
      intro W2 hW2
      replace EZ := Lib.hid (EZ.out.step hW2)
      replace EX := Lib.hid (EX.out.step hW2)
      replace EY := Lib.hid (EY.out.step hW2)
      replace ES := Lib.hid (ES.out.step hW2)
      replace EP := Lib.hid (EP.out.step hW2)
      replace EB := Lib.hid (below_of EB.out hW2)
      clear hW2 c1 c2 l1 l2
      have z1 := (EZ.out.cell m).trans (byA_get _ hm16)
      have z2 := EZ.out.frozen m
      have hw0 : IntKind.i64.wrap (cyN x y k + IntKind.i64.wrap (IntKind.i64.wrap (x m) + IntKind.i64.wrap (y m))) = cyN x y k + (x m + y m) := by
        simp only [IntKind.wrap_i64]; omega
      rw [hw0]
      have hzm : (cyN x y k + (x m + y m)) % 256 = zN x y m := by
        unfold zN
        rw [show 15 - m = k from by omega]
      obtain ⟨c', hc'⟩ : ∃ c', c' = cyN x y (k + 1) := ⟨_, rfl⟩
      have hcs : (cyN x y k + (x m + y m)) / 256 = c' := by
        rw [hc']
        show _ = (cyN x y k + (x (15 - k) + y (15 - k))) / 256
        rw [hmk]
      go_upto_region 13 with fail
      rw [hzm]
      have hput : (byA 16 fun j => if 16 - k ≤ j then zN x y j else 0).setIfInBounds m (.int .u8 (zN x y m)) = byA 16 fun j => if 16 - (k + 1) ≤ j then zN x y j else 0 := by
        rw [byA_put]
        refine byA_congr fun j hj => ?_
        unfold upd'
        dsimp only
        by_cases h1 : j = m
        · rw [if_pos h1, if_pos (by omega), h1]
        · rw [if_neg h1]
          by_cases h2 : 16 - k ≤ j
          · rw [if_pos h2, if_pos (by omega)]
          · rw [if_neg h2, if_neg (by omega)]
      have FZ := Lib.hid (hput ▸ EZ.out.put m (.int .u8 (zN x y m)))
      have FX := Lib.hid (EX.out.far (p := ⟨gz, m, none⟩) (show w.heap.size ≠ gz by omega) (.int .u8 (zN x y m)))
      have FY := Lib.hid (EY.out.far (p := ⟨gz, m, none⟩) (show w.heap.size + 1 ≠ gz by omega) (.int .u8 (zN x y m)))
      have FS := Lib.hid (ES.out.far (p := ⟨gz, m, none⟩) (show gs ≠ gz by omega) (.int .u8 (zN x y m)))
      have FP := Lib.hid (EP.out.far (p := ⟨gz, m, none⟩) (show gp ≠ gz by omega) (.int .u8 (zN x y m)))
      have FB := Lib.hid (EB.out.setCell (p := ⟨gz, m, none⟩) k_nz (.int .u8 (zN x y m)))
      generalize W2.setCell ⟨gz, m, none⟩ (.int .u8 (zN x y m)) = W3 at *
      clear EZ EX EY ES EP EB z1 z2 hput hw0 hzm
      by_cases h8 : 8 ≤ m
      · have h8i : (8 : Int) ≤ (m : Int) := by omega
        have hk8 : k < 8 := by omega
        obtain ⟨bt0, bt1⟩ := htb
        obtain ⟨bn0, bn1⟩ : 0 ≤ n ∧ n < 256 := id hn
        have hp0 : 0 ≤ x m * n := Int.mul_nonneg bx0 bn0
        have hp1 : x m * n ≤ 65025 := Int.mul_le_mul (show x m ≤ 255 by omega) (show n ≤ 255 by omega) bn0 (by omega)
        have hmk' : 15 - (m : Int) = (k : Int) := by omega
        have hbit : lo (xl * n) / 2 ^ (8 * k) % 256 = (tmN x n k + x m * n) % 256 := by
          have h1 := (mul_digit hx hn).2 k hk8
          rw [hxl, hmk] at h1
          rw [h1]
          unfold dN
          rw [show 15 - m = k from by omega]
        obtain ⟨t', ht'⟩ : ∃ t', t' = tmN x n (k + 1) := ⟨_, rfl⟩
        have hts : (tmN x n k + x m * n) / 256 = t' := by
          rw [ht']
          show _ = if k < 8 then (tmN x n k + x (15 - k) * n) / 256 else _
          rw [if_pos hk8, hmk]
        have c1 := (FX.out.cell m).trans (byA_get _ hm16)
        have p0 := FP.out.cell 0
        have p1 := FP.out.cell 1
        simp only [List.getElem?_toArray, List.getElem?_cons_zero, List.getElem?_cons_succ] at p0 p1
        have hwn : IntKind.i64.wrap n = n := by rw [IntKind.wrap_i64]; omega
        have hwd : IntKind.u64.wrap ((tmN x n k + x m * n) % 256) = (tmN x n k + x m * n) % 256 := by rw [IntKind.wrap_u64]; omega
        go_wp2_with (go_at_call 29; refine (bits_any _ (8 * k) _ (U_lo _) (by omega)).mono ?_; rintro e w' ⟨rfl, rfl⟩; rw [hbit])
        refine ⟨⟨k + 1, by omega, by rw [show (m : Int) - 1 = 15 - ((k + 1 : Nat) : Int) from by omega], rfl, by rw [hts, ht'], FZ, FX, FY, FS, FP, FB⟩, by first | (simp [intOf]; done) | (simp [intOf]; omega)⟩
      · have h8i : ¬ (8 : Int) ≤ (m : Int) := by omega
        have ht' : tmN x n k = tmN x n (k + 1) := by
          show _ = if k < 8 then (tmN x n k + x (15 - k) * n) / 256 else tmN x n k
          rw [if_neg (by omega)]
        go_wp2_with fail
        refine ⟨⟨k + 1, by omega, by rw [show (m : Int) - 1 = 15 - ((k + 1 : Nat) : Int) from by omega], by first | rfl | exact congrArg _ (hcs.trans hc'), by rw [← ht'], FZ, FX, FY, FS, FP, FB⟩, by first | (simp [intOf]; done) | (simp [intOf]; omega)⟩
    · obtain rfl : k = 16 := by omega
      have hm1 : 15 - ((16 : Nat) : Int) = -1 := by decide
      rw [hm1]
      clear nx ny ns np nz nB EX EY
      have s0 := ES.out.cell 0
      have s1 := ES.out.cell 1
      simp only [List.getElem?_toArray, List.getElem?_cons_zero, List.getElem?_cons_succ] at s0 s1
      go_upto_region 20 with fail
      have l1 := ES.out.lt
      have hmk : ∀ W, (Instr.makeSlice 59 (.int .i64 16) (.int .i64 16)).run Try.prog W = .ok (.slice (some ⟨W.heap.size, 0, none⟩) 16 16) (W.alloc (.cells (byA 16 (fun _ => 0)) 5)) := make_bytes 16 (by decide)
      go_cut [20, 21] from 91 to 97 (fun s e wx => ∃ h, s = .slice (some ⟨h, 0, none⟩) 16 16 ∧ e = .int .i64 0 ∧ wr.heap.size + 1 ≤ h ∧ Blk wx h 5 (byA 16 (putV (fun _ => 0) 0 8 (hi (lowN x 16 + lowN y 16)) 8)) ∧ Below wr.heap.size wr wx)
      case first =>
        go_region_with (go_at_call 30; refine (put_first _ _ (U_hi _)).mono ?_; rintro e w' ⟨h, rfl, hh, hb, hw⟩)
        all_goals
          go_wp2_with fail
          go_meet
          exact ⟨_, rfl, rfl, by assumption, by assumption, by assumption⟩
      case rest =>
        obtain ⟨h, rfl, rfl, hh, hb, hw⟩ := hcut
        replace ES := ES.out.step hw
        replace EP := EP.out.step hw
        replace EZ := EZ.out.step hw
        replace EB := below_of EB.out hw
        clear hw l1 s0 s1 hmk
        have s0 := ES.cell 0
        have s1 := ES.cell 1
        have sf0 := ES.frozen 0
        have sf1 := ES.frozen 1
        simp only [List.getElem?_toArray, List.getElem?_cons_zero, List.getElem?_cons_succ] at s0 s1
        go_wp2_with fail
        have hc : ∀ i, i < 16 → wc.cell? ⟨h, 0 + i, none⟩ = some (.int .u8 (putV (fun _ => 0) 0 8 (hi (lowN x 16 + lowN y 16)) 8 i)) := fun i hi => by
          rw [Nat.zero_add]
          exact (hb.cell i).trans (byA_get _ hi)
        refine (put_any _ h 0 16 16 8 8 (lo (lowN x 16 + lowN y 16)) _ (U_lo _) hc hb.lt (by decide) (by decide) (fun h => absurd h (by decide)) (by decide) (by decide)).mono ?_
        rintro e w' ⟨g5, rfl, hh5, hb5, hw5⟩
        have hpb : byA 16 (putV (putV (fun _ => 0) 0 8 (hi (lowN x 16 + lowN y 16)) 8) 8 8 (lo (lowN x 16 + lowN y 16)) 8) = byA 16 (zN x y) := byA_congr fun j hj => by
          rw [put_halves _ _ _ hj, sum_hi _ (by omega)]
          rw [show 15 - (15 - j) = j from by omega]
        rw [hpb] at hb5
        clear hc hb sf0 sf1 s0 s1
        replace ES := ES.step hw5
        replace EP := EP.step hw5
        replace EZ := EZ.step hw5
        replace EB := below_of EB hw5
        clear hw5 hpb
        go_upto_region 23 with fail
        have hez : byA 16 (fun j => if 16 - 16 ≤ j then zN x y j else 0) = byA 16 (zN x y) := byA_congr fun j hj => by rw [if_pos (by omega)]
        rw [hez] at EZ
        have hov := sum_ov hx hy
        rw [hov]
        have hhi := (mul_digit hx hn).1
        rw [hxl] at hhi
        rw [hhi] at EP
        have ht16 : tmN x n 16 = tmN x n 8 := by simp [tmN]
        rw [ht16]
        obtain ⟨t0, t1⟩ := tmN_bound hx hn 8
        have htw : IntKind.u64.wrap (tmN x n 8) = tmN x n 8 := by rw [IntKind.wrap_u64]; omega
        have lp := EP.lt
        have lz := EZ.lt
        have l5 := hb5.lt
        have s0 := EP.cell 0
        have s1 := EP.cell 1
        have sf0 := EP.frozen 0
        have sf1 := EP.frozen 1
        simp only [List.getElem?_toArray, List.getElem?_cons_zero, List.getElem?_cons_succ] at s0 s1
        have hstr : ∀ (W : World) (g : Nat), (∀ b o, b < w'.heap.size → W.cell? ⟨b, o, none⟩ = w'.cell? ⟨b, o, none⟩) → Blk w' g 5 (byA 16 (zN x y)) ∨ Blk w' g 54 (byA 16 (zN x y)) → (convert 59 9 (.slice (some ⟨g, 0, none⟩) 16 16)).run Try.prog W = .ok (.string (strOfNums ((List.range 16).map (zN x y)))) W := fun W g hcl hg => by
          refine run_convert_bytes_arg W 59 5 Try.underlying59 Try.underlying5 g 0 16 16 ((List.range 16).map (zN x y)) (by simp) (fun i hi => ?_) 9 Try.underlying9
          rw [Nat.zero_add]
          have e : ((List.range 16).map (zN x y)).getD i 0 = zN x y i := by
            rw [List.getD_eq_getElem?_getD, List.getElem?_map, List.getElem?_range hi]
            rfl
          rw [e]
          rcases hg with hg | hg
          · exact (hcl g i hg.lt).trans ((hg.cell i).trans (byA_get _ hi))
          · exact (hcl g i hg.lt).trans ((hg.cell i).trans (byA_get _ hi))
        refine wp_region_calls 31 (by kernel_rfl) (by kernel_rfl) ?_
        simp only [List.take_succ_cons, List.take_zero, List.drop_succ_cons, List.drop_zero]
        refine walk1_open fun K hK => ?_
        apply walk1_call (by rfl)
        · intro W hsz; go_simp; first | exact ⟨rfl, rfl⟩ | rfl
        · intro W hlW; exact awake_any _
        simp only [Act.put, List.setIfInBounds_toArray, List.set_cons_zero, List.set_cons_succ]
        iterate 12
          apply walk1_value (by rfl)
          · intro W hcl hsz; go_simp; rfl
          simp only [Act.put, List.setIfInBounds_toArray, List.set_cons_zero, List.set_cons_succ]
        refine walk1_value (v := .string (strOfNums ((List.range 16).map (zN x y)))) (by rfl) (fun W hcl hsz => ?_) ?_
        · have hc1 := hstr W g5 hcl (.inl hb5)
          clear hcl
          go_simp
        simp only [Act.put, List.setIfInBounds_toArray, List.set_cons_zero, List.set_cons_succ]
        apply walk1_value (by rfl)
        · intro W hcl hsz; go_simp; rfl
        simp only [Act.put, List.setIfInBounds_toArray, List.set_cons_zero, List.set_cons_succ]
        refine walk1_value (v := .string (strOfNums ((List.range 16).map (zN x y)))) (by rfl) (fun W hcl hsz => ?_) ?_
        · have hc1 := hstr W gz hcl (.inr EZ)
          clear hcl
          go_simp
        simp only [Act.put, List.setIfInBounds_toArray, List.set_cons_zero, List.set_cons_succ]
        refine walk1_value (v := .bool true) (by rfl) (fun W hcl hsz => ?_) ?_
        · clear hcl
          go_simp
        simp only [Act.put, List.setIfInBounds_toArray, List.set_cons_zero, List.set_cons_succ]
        iterate 5
          apply walk1_value (by rfl)
          · intro W hcl hsz; go_simp; rfl
          simp only [Act.put, List.setIfInBounds_toArray, List.set_cons_zero, List.set_cons_succ]
        refine walk1_value (v := .bool true) (by rfl) (fun W hcl hsz => ?_) ?_
        · clear hcl
          go_simp
        simp only [Act.put, List.setIfInBounds_toArray, List.set_cons_zero, List.set_cons_succ]
        iterate 6
          apply walk1_value (by rfl)
          · intro W hcl hsz; go_simp; rfl
          simp only [Act.put, List.setIfInBounds_toArray, List.set_cons_zero, List.set_cons_succ]
        refine walk1_value (v := .bool true) (by rfl) (fun W hcl hsz => ?_) ?_
        · clear hcl
          go_simp
        simp only [Act.put, List.setIfInBounds_toArray, List.set_cons_zero, List.set_cons_succ]
        iterate 1
          apply walk1_value (by rfl)
          · intro W hcl hsz; go_simp; rfl
          simp only [Act.put, List.setIfInBounds_toArray, List.set_cons_zero, List.set_cons_succ]
        refine walk1_nil (hK _ ?_); clear hK K
        intro W9 hW9
        replace EB := below_of EB hW9
        clear hW9 EP EZ lp lz l5 hb5 sf0 sf1 s0 s1 hstr
        go_wp2_with fail
        go_returns
        exact ⟨rfl, EB⟩
end Go.Proofs.Ytbcpfgcpekfgiaa
