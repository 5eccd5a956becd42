/- Part of the proof. -/
import Derived.Handy
import Derived.Test.YtiaoaoebghnpkaaKB8
import Derived.Test.YtiaoaoebghnpkaaKB26
import Derived.Test.YtiaoaoebghnpkaaKB27
/- double.New: what it computes, by what the functions that it calls compute. -/
namespace Go.Proofs.Ytiaoaoebghnpkaa.P
open Go.RowKit
set_option linter.unusedVariables false


def double_Newd.f (m0 : Int) (m1 : Bool) (m2 m3 m4 m5 : Int) : Option (Int × Int × Int × Bool × Int) :=
  (double_Check.f 3 m0 m1 m2 m3 m4 m5).bind fun c => if c = 0 then (double_sides.f m0 m1 m2 m3 m4 m5 0 0 0 false).bind fun l => some (l.2.1, l.2.2.2.2.1, 0, false, 0) else some (0, 0, 0, false, c)

set_option maxRecDepth 100000 in
set_option maxHeartbeats 8000000 in
theorem double_Newd.calls (m0 : Int) (m1 : Bool) (m2 m3 m4 m5 : Int) (r0 r1 r2 : Int) (r3 : Bool) (r4 : Int) (w : World) (h : double_Newd.f m0 m1 m2 m3 m4 m5 = some (r0, r1, r2, r3, r4)) :
    Calls Try.prog 116 #[.agg #[.int .i64 m0, .bool m1, .int .u64 m2, .int .u64 m3, .int .u64 m4, .int .u64 m5]] w fun e w' => e = .returned (.tuple #[.agg #[.int .u64 r0, .int .u64 r1, .int .u64 r2, .bool r3], .int .i64 r4]) ∧ Below w.heap.size w w' := by
  unfold double_Newd.f at h
  obtain ⟨c, hc, h⟩ := Option.bind_eq_some_iff.1 h
  have HC := Lib.hid hc
  clear hc
  have n0 := Blk.new w 49 #[.int .i64 m0, .bool m1, .int .u64 m2, .int .u64 m3, .int .u64 m4, .int .u64 m5]
  have n1 := Blk.new (w.alloc (.cells #[.int .i64 m0, .bool m1, .int .u64 m2, .int .u64 m3, .int .u64 m4, .int .u64 m5] 49)) 51 #[.int .u64 0, .int .u64 0, .int .u64 0, .bool false]
  simp only [World.size_alloc] at n1
  have N0 := Lib.hid (n0.alloc (.cells #[.int .u64 0, .int .u64 0, .int .u64 0, .bool false] 51))
  have N1 := Lib.hid n1
  clear n0 n1
  go_enter Try.func116, Try.ntmps116
  go_wp2_with fail
  refine (double_Check.calls 3 _ _ _ _ _ _ _ _ HC.out).mono ?_
  rintro e W1 ⟨rfl, hW1⟩
  have hB1 : Below w.heap.size w W1 := below_of (by go_grown) hW1
  have b0 := N0.out.step hW1
  have b1 := N1.out.step hW1
  have c0 := b0.cell 0
  have c1 := b0.cell 1
  have c2 := b0.cell 2
  have c3 := b0.cell 3
  have c4 := b0.cell 4
  have c5 := b0.cell 5
  simp only [List.getElem?_toArray, List.getElem?_cons_zero, List.getElem?_cons_succ] at c0 c1 c2 c3 c4 c5
  have B1 := Lib.hid b1
  have HB1 := Lib.hid hB1
  clear b0 b1 hB1 hW1 N0 N1
  by_cases hc0 : c = 0
  · subst hc0
    rw [if_pos rfl] at h
    obtain ⟨⟨l0, l1, l2, l3, l4, l5⟩, hsd, h⟩ := Option.bind_eq_some_iff.1 h
    simp only [Option.some.injEq, Prod.mk.injEq] at h
    obtain ⟨rfl, rfl, rfl, rfl, rfl⟩ := h
    have HSD := Lib.hid hsd
    clear hsd
    go_wp2_with fail
    refine (double_sides.calls _ _ _ _ _ _ _ _ _ _ _ _ _ _ _ _ _ HSD.out).mono ?_
    rintro e W3 ⟨rfl, hW3⟩
    have B1' := B1.out.step hW3
    have HB3 := below_of HB1.out hW3
    have hlt := B1'.lt
    clear c0 c1 c2 c3 c4 c5 hW3 B1 HB1
    go_upto_region 5 with fail
    have B3 := Blk.new W3 156 #[.int .u64 l0, .int .u64 l1, .int .u64 l2, .int .u64 l3, .int .u64 l4, .int .u64 l5]
    have G1 := B1'.alloc (.cells #[.int .u64 l0, .int .u64 l1, .int .u64 l2, .int .u64 l3, .int .u64 l4, .int .u64 l5] 156)
    have GB := HB3.alloc HB3.size (.cells #[.int .u64 l0, .int .u64 l1, .int .u64 l2, .int .u64 l3, .int .u64 l4, .int .u64 l5] 156)
    have hne : w.heap.size + 1 ≠ W3.heap.size := by omega
    generalize W3.heap.size = g3 at B3 hne ⊢
    generalize W3.alloc (.cells #[.int .u64 l0, .int .u64 l1, .int .u64 l2, .int .u64 l3, .int .u64 l4, .int .u64 l5] 156) = W6 at B3 G1 GB ⊢
    clear B1' HB3
    have x1 := B3.cell 1
    have x4 := B3.cell 4
    simp only [List.getElem?_toArray, List.getElem?_cons_zero, List.getElem?_cons_succ] at x1 x4
    have y0 := G1.cell 0
    have y1 := G1.cell 1
    have y2 := G1.cell 2
    have y3 := G1.cell 3
    have h0 := G1.frozen 0
    have h1 := G1.frozen 1
    have h2 := G1.frozen 2
    have h3 := G1.frozen 3
    simp only [List.getElem?_toArray, List.getElem?_cons_zero, List.getElem?_cons_succ] at y0 y1 y2 y3
    have HG1 := Lib.hid G1
    have HGB := Lib.hid GB
    clear G1 GB B3
    go_wp2_with fail
    have R2 : Blk ((((W6.setCell ⟨w.heap.size + 1, 0, none⟩ (.int .u64 l1)).setCell ⟨w.heap.size + 1, 1, none⟩ (.int .u64 l4)).setCell ⟨w.heap.size + 1, 2, none⟩ (.int .u64 0)).setCell ⟨w.heap.size + 1, 3, none⟩ (.bool false)) (w.heap.size + 1) 51 #[.int .u64 l1, .int .u64 l4, .int .u64 0, .bool false] := ((((HG1.out.put 0 _).put 1 _).put 2 _).put 3 _)
    have RB : Below w.heap.size w ((((W6.setCell ⟨w.heap.size + 1, 0, none⟩ (.int .u64 l1)).setCell ⟨w.heap.size + 1, 1, none⟩ (.int .u64 l4)).setCell ⟨w.heap.size + 1, 2, none⟩ (.int .u64 0)).setCell ⟨w.heap.size + 1, 3, none⟩ (.bool false)) := ((((HGB.out.setCell (show w.heap.size ≤ w.heap.size + 1 by omega) _).setCell (show w.heap.size ≤ w.heap.size + 1 by omega) _).setCell (show w.heap.size ≤ w.heap.size + 1 by omega) _).setCell (show w.heap.size ≤ w.heap.size + 1 by omega) _)
    generalize ((((W6.setCell ⟨w.heap.size + 1, 0, none⟩ (.int .u64 l1)).setCell ⟨w.heap.size + 1, 1, none⟩ (.int .u64 l4)).setCell ⟨w.heap.size + 1, 2, none⟩ (.int .u64 0)).setCell ⟨w.heap.size + 1, 3, none⟩ (.bool false)) = W7 at R2 RB ⊢
    clear h0 h1 h2 h3 y0 y1 y2 y3
    refine bodyPost_ret (Go.Proofs.YtiaoaoebghnpkaaW.PrintWords.results_list (rs := [.cell 2 51, .tmp 3]) rfl (by simp) (.cell (w.heap.size + 1) 51 #[.int .u64 l1, .int .u64 l4, .int .u64 0, .bool false] (0, 0) _ rfl R2 Try.underlying51 rfl (by kernel_rfl) (.tmp .nil))) rfl ?_
    exact ⟨rfl, RB⟩
  · rw [if_neg hc0] at h
    simp only [Option.some.injEq, Prod.mk.injEq] at h
    obtain ⟨rfl, rfl, rfl, rfl, rfl⟩ := h
    have hc1 : (c != 0) = true := bne_iff_ne.mpr hc0
    have hc2 : (c == 0) = false := beq_eq_false_iff_ne.mpr hc0
    clear c0 c1 c2 c3 c4 c5
    have y0 := B1.out.cell 0
    have y1 := B1.out.cell 1
    have y2 := B1.out.cell 2
    have y3 := B1.out.cell 3
    have h0 := B1.out.frozen 0
    have h1 := B1.out.frozen 1
    have h2 := B1.out.frozen 2
    have h3 := B1.out.frozen 3
    simp only [List.getElem?_toArray, List.getElem?_cons_zero, List.getElem?_cons_succ] at y0 y1 y2 y3
    go_wp2_with fail
    have R2 : Blk ((((W1.setCell ⟨w.heap.size + 1, 0, none⟩ (.int .u64 0)).setCell ⟨w.heap.size + 1, 1, none⟩ (.int .u64 0)).setCell ⟨w.heap.size + 1, 2, none⟩ (.int .u64 0)).setCell ⟨w.heap.size + 1, 3, none⟩ (.bool false)) (w.heap.size + 1) 51 #[.int .u64 0, .int .u64 0, .int .u64 0, .bool false] := ((((B1.out.put 0 _).put 1 _).put 2 _).put 3 _)
    have RB : Below w.heap.size w ((((W1.setCell ⟨w.heap.size + 1, 0, none⟩ (.int .u64 0)).setCell ⟨w.heap.size + 1, 1, none⟩ (.int .u64 0)).setCell ⟨w.heap.size + 1, 2, none⟩ (.int .u64 0)).setCell ⟨w.heap.size + 1, 3, none⟩ (.bool false)) := ((((HB1.out.setCell (show w.heap.size ≤ w.heap.size + 1 by omega) _).setCell (show w.heap.size ≤ w.heap.size + 1 by omega) _).setCell (show w.heap.size ≤ w.heap.size + 1 by omega) _).setCell (show w.heap.size ≤ w.heap.size + 1 by omega) _)
    generalize ((((W1.setCell ⟨w.heap.size + 1, 0, none⟩ (.int .u64 0)).setCell ⟨w.heap.size + 1, 1, none⟩ (.int .u64 0)).setCell ⟨w.heap.size + 1, 2, none⟩ (.int .u64 0)).setCell ⟨w.heap.size + 1, 3, none⟩ (.bool false)) = W7 at R2 RB ⊢
    clear h0 h1 h2 h3 y0 y1 y2 y3
    refine bodyPost_ret (Go.Proofs.YtiaoaoebghnpkaaW.PrintWords.results_list (rs := [.cell 2 51, .tmp 3]) rfl (by simp) (.cell (w.heap.size + 1) 51 #[.int .u64 0, .int .u64 0, .int .u64 0, .bool false] (0, 0) _ rfl R2 Try.underlying51 rfl (by kernel_rfl) (.tmp .nil))) rfl ?_
    exact ⟨rfl, RB⟩
end Go.Proofs.Ytiaoaoebghnpkaa.P
