/- Part of the proof. -/
import Derived.Handy
import Derived.Test.YtiaoaoebghnpkaaKB8
import Derived.Test.YtiaoaoebghnpkaaKB25
import Derived.Test.YtiaoaoebghnpkaaKB26
import Derived.Test.YtiaoaoebghnpkaaKB39
import Derived.Test.YtiaoaoebghnpkaaKB40
/- meter's functions: what they compute, by what single's and double's compute. -/
namespace Go.Proofs.Ytiaoaoebghnpkaa.P
open Go.RowKit
set_option maxRecDepth 100000 in
set_option maxHeartbeats 4000000 in
theorem of_two (m0 : Int) (m1 : Bool) (m2 m3 m4 m5 : Int) (w : World) (h : m0 = 2) :
    Calls Try.prog 66 #[.agg #[.int .i64 m0, .bool m1, .int .u64 m2, .int .u64 m3, .int .u64 m4, .int .u64 m5]] w fun e w' => e = .returned (.iface 127 (.agg #[])) ∧ Below w.heap.size w w' := by
  have hb : (m0 == 2) = true := beq_iff_eq.mpr h
  have n0 := Blk.new w 49 #[.int .i64 m0, .bool m1, .int .u64 m2, .int .u64 m3, .int .u64 m4, .int .u64 m5]
  have c0 := n0.cell 0
  simp only [List.getElem?_toArray, List.getElem?_cons_zero] at c0
  go_enter Try.func66, Try.ntmps66
  go_wp2_with fail
  go_returns
  exact ⟨rfl, (Below.refl _ _).alloc (Nat.le_refl _) _⟩
set_option maxRecDepth 100000 in
set_option maxHeartbeats 4000000 in
theorem of_one (m0 : Int) (m1 : Bool) (m2 m3 m4 m5 : Int) (w : World) (h : m0 ≠ 2) :
    Calls Try.prog 66 #[.agg #[.int .i64 m0, .bool m1, .int .u64 m2, .int .u64 m3, .int .u64 m4, .int .u64 m5]] w fun e w' => e = .returned (.iface 128 (.agg #[])) ∧ Below w.heap.size w w' := by
  have hb : (m0 == 2) = false := beq_eq_false_iff_ne.mpr h
  have n0 := Blk.new w 49 #[.int .i64 m0, .bool m1, .int .u64 m2, .int .u64 m3, .int .u64 m4, .int .u64 m5]
  have c0 := n0.cell 0
  simp only [List.getElem?_toArray, List.getElem?_cons_zero] at c0
  go_enter Try.func66, Try.ntmps66
  go_wp2_with fail
  go_returns
  exact ⟨rfl, (Below.refl _ _).alloc (Nat.le_refl _) _⟩
set_option maxRecDepth 100000 in
set_option maxHeartbeats 4000000 in
theorem one_fresh (m0 : Int) (m1 : Bool) (m2 m3 m4 m5 : Int) (r0 r1 r2 : Int) (r3 : Bool) (r4 : Int) (w : World) (h : single_New.f 5 m0 m1 m2 m3 m4 m5 = some (r0, r1, r2, r3, r4)) :
    Calls Try.prog 126 #[.agg #[], .agg #[.int .i64 m0, .bool m1, .int .u64 m2, .int .u64 m3, .int .u64 m4, .int .u64 m5]] w fun e w' => e = .returned (.tuple #[.agg #[.int .u64 r0, .int .u64 r1, .int .u64 r2, .bool r3], .int .i64 r4]) ∧ Below w.heap.size w w' := by
  have H := Lib.hid h
  clear h
  have nz : Blk (((w.alloc (.cells #[] 128)).alloc (.cells #[.int .i64 m0, .bool m1, .int .u64 m2, .int .u64 m3, .int .u64 m4, .int .u64 m5] 49)).alloc (.cells #[.int .u64 0, .int .u64 0, .int .u64 0, .bool false] 51)) (w.heap.size + 1 + 1) 51 #[.int .u64 0, .int .u64 0, .int .u64 0, .bool false] := by
    have h := (Blk.new ((w.alloc (.cells #[] 128)).alloc (.cells #[.int .i64 m0, .bool m1, .int .u64 m2, .int .u64 m3, .int .u64 m4, .int .u64 m5] 49)) 51 #[.int .u64 0, .int .u64 0, .int .u64 0, .bool false])
    simpa only [World.size_alloc] using h
  have NZ := Lib.hid nz
  clear nz
  go_enter Try.func126, Try.ntmps126
  go_wp2_with fail
  refine (single_New.calls 5 m0 m1 m2 m3 m4 m5 _ _ _ _ _ _ H.out).mono ?_
  rintro e W1 ⟨rfl, hW1⟩
  have hB := below_of (w := w) (by go_grown) hW1
  have bz := NZ.out.step hW1
  have y0 := bz.cell 0
  have y1 := bz.cell 1
  have y2 := bz.cell 2
  have y3 := bz.cell 3
  have h0 := bz.frozen 0
  have h1 := bz.frozen 1
  have h2 := bz.frozen 2
  have h3 := bz.frozen 3
  simp only [List.getElem?_toArray, List.getElem?_cons_zero, List.getElem?_cons_succ] at y0 y1 y2 y3
  have HG := Lib.hid bz
  have HB := Lib.hid hB
  clear bz hB hW1
  go_wp2_with fail
  have R2 : Blk ((((W1.setCell ⟨w.heap.size + 1 + 1, 0, none⟩ (.int .u64 r0)).setCell ⟨w.heap.size + 1 + 1, 1, none⟩ (.int .u64 r1)).setCell ⟨w.heap.size + 1 + 1, 2, none⟩ (.int .u64 r2)).setCell ⟨w.heap.size + 1 + 1, 3, none⟩ (.bool r3)) (w.heap.size + 1 + 1) 51 #[.int .u64 r0, .int .u64 r1, .int .u64 r2, .bool r3] := ((((HG.out.put 0 _).put 1 _).put 2 _).put 3 _)
  have RB : Below w.heap.size w ((((W1.setCell ⟨w.heap.size + 1 + 1, 0, none⟩ (.int .u64 r0)).setCell ⟨w.heap.size + 1 + 1, 1, none⟩ (.int .u64 r1)).setCell ⟨w.heap.size + 1 + 1, 2, none⟩ (.int .u64 r2)).setCell ⟨w.heap.size + 1 + 1, 3, none⟩ (.bool r3)) := ((((HB.out.setCell (show w.heap.size ≤ w.heap.size + 1 + 1 by omega) _).setCell (show w.heap.size ≤ w.heap.size + 1 + 1 by omega) _).setCell (show w.heap.size ≤ w.heap.size + 1 + 1 by omega) _).setCell (show w.heap.size ≤ w.heap.size + 1 + 1 by omega) _)
  generalize ((((W1.setCell ⟨w.heap.size + 1 + 1, 0, none⟩ (.int .u64 r0)).setCell ⟨w.heap.size + 1 + 1, 1, none⟩ (.int .u64 r1)).setCell ⟨w.heap.size + 1 + 1, 2, none⟩ (.int .u64 r2)).setCell ⟨w.heap.size + 1 + 1, 3, none⟩ (.bool r3)) = W7 at R2 RB ⊢
  clear y0 y1 y2 y3 h0 h1 h2 h3
  refine bodyPost_ret (Go.Proofs.YtiaoaoebghnpkaaW.PrintWords.results_list (rs := [.cell 4 51, .tmp 5]) rfl (by simp) (.cell (w.heap.size + 1 + 1) 51 #[.int .u64 r0, .int .u64 r1, .int .u64 r2, .bool r3] (0, 0) _ rfl R2 Try.underlying51 rfl (by kernel_rfl) (.tmp .nil))) rfl ?_
  exact ⟨rfl, RB⟩
set_option maxRecDepth 100000 in
set_option maxHeartbeats 4000000 in
theorem two_fresh (m0 : Int) (m1 : Bool) (m2 m3 m4 m5 : Int) (r0 r1 r2 : Int) (r3 : Bool) (r4 : Int) (w : World) (h : double_Newd.f m0 m1 m2 m3 m4 m5 = some (r0, r1, r2, r3, r4)) :
    Calls Try.prog 113 #[.agg #[], .agg #[.int .i64 m0, .bool m1, .int .u64 m2, .int .u64 m3, .int .u64 m4, .int .u64 m5]] w fun e w' => e = .returned (.tuple #[.agg #[.int .u64 r0, .int .u64 r1, .int .u64 r2, .bool r3], .int .i64 r4]) ∧ Below w.heap.size w w' := by
  have H := Lib.hid h
  clear h
  have nz : Blk (((w.alloc (.cells #[] 127)).alloc (.cells #[.int .i64 m0, .bool m1, .int .u64 m2, .int .u64 m3, .int .u64 m4, .int .u64 m5] 49)).alloc (.cells #[.int .u64 0, .int .u64 0, .int .u64 0, .bool false] 51)) (w.heap.size + 1 + 1) 51 #[.int .u64 0, .int .u64 0, .int .u64 0, .bool false] := by
    have h := (Blk.new ((w.alloc (.cells #[] 127)).alloc (.cells #[.int .i64 m0, .bool m1, .int .u64 m2, .int .u64 m3, .int .u64 m4, .int .u64 m5] 49)) 51 #[.int .u64 0, .int .u64 0, .int .u64 0, .bool false])
    simpa only [World.size_alloc] using h
  have NZ := Lib.hid nz
  clear nz
  go_enter Try.func113, Try.ntmps113
  go_wp2_with fail
  refine (double_Newd.calls m0 m1 m2 m3 m4 m5 _ _ _ _ _ _ H.out).mono ?_
  rintro e W1 ⟨rfl, hW1⟩
  have hB := below_of (w := w) (by go_grown) hW1
  have bz := NZ.out.step hW1
  have y0 := bz.cell 0
  have y1 := bz.cell 1
  have y2 := bz.cell 2
  have y3 := bz.cell 3
  have h0 := bz.frozen 0
  have h1 := bz.frozen 1
  have h2 := bz.frozen 2
  have h3 := bz.frozen 3
  simp only [List.getElem?_toArray, List.getElem?_cons_zero, List.getElem?_cons_succ] at y0 y1 y2 y3
  have HG := Lib.hid bz
  have HB := Lib.hid hB
  clear bz hB hW1
  go_wp2_with fail
  have R2 : Blk ((((W1.setCell ⟨w.heap.size + 1 + 1, 0, none⟩ (.int .u64 r0)).setCell ⟨w.heap.size + 1 + 1, 1, none⟩ (.int .u64 r1)).setCell ⟨w.heap.size + 1 + 1, 2, none⟩ (.int .u64 r2)).setCell ⟨w.heap.size + 1 + 1, 3, none⟩ (.bool r3)) (w.heap.size + 1 + 1) 51 #[.int .u64 r0, .int .u64 r1, .int .u64 r2, .bool r3] := ((((HG.out.put 0 _).put 1 _).put 2 _).put 3 _)
  have RB : Below w.heap.size w ((((W1.setCell ⟨w.heap.size + 1 + 1, 0, none⟩ (.int .u64 r0)).setCell ⟨w.heap.size + 1 + 1, 1, none⟩ (.int .u64 r1)).setCell ⟨w.heap.size + 1 + 1, 2, none⟩ (.int .u64 r2)).setCell ⟨w.heap.size + 1 + 1, 3, none⟩ (.bool r3)) := ((((HB.out.setCell (show w.heap.size ≤ w.heap.size + 1 + 1 by omega) _).setCell (show w.heap.size ≤ w.heap.size + 1 + 1 by omega) _).setCell (show w.heap.size ≤ w.heap.size + 1 + 1 by omega) _).setCell (show w.heap.size ≤ w.heap.size + 1 + 1 by omega) _)
  generalize ((((W1.setCell ⟨w.heap.size + 1 + 1, 0, none⟩ (.int .u64 r0)).setCell ⟨w.heap.size + 1 + 1, 1, none⟩ (.int .u64 r1)).setCell ⟨w.heap.size + 1 + 1, 2, none⟩ (.int .u64 r2)).setCell ⟨w.heap.size + 1 + 1, 3, none⟩ (.bool r3)) = W7 at R2 RB ⊢
  clear y0 y1 y2 y3 h0 h1 h2 h3
  refine bodyPost_ret (Go.Proofs.YtiaoaoebghnpkaaW.PrintWords.results_list (rs := [.cell 4 51, .tmp 5]) rfl (by simp) (.cell (w.heap.size + 1 + 1) 51 #[.int .u64 r0, .int .u64 r1, .int .u64 r2, .bool r3] (0, 0) _ rfl R2 Try.underlying51 rfl (by kernel_rfl) (.tmp .nil))) rfl ?_
  exact ⟨rfl, RB⟩
set_option maxRecDepth 100000 in
set_option maxHeartbeats 4000000 in
theorem one_step (m0 : Int) (m1 : Bool) (m2 m3 m4 m5 : Int) (s0 s1 s2 : Int) (s3 : Bool) (t size pre : Int) (r0 r1 r2 : Int) (r3 : Bool) (r4 : Int) (w : World) (h : single_Step.f 5 m0 m1 m2 m3 m4 m5 s0 s1 s2 s3 t size pre = some (r0, r1, r2, r3, r4)) :
    Calls Try.prog 127 #[.agg #[], .agg #[.int .i64 m0, .bool m1, .int .u64 m2, .int .u64 m3, .int .u64 m4, .int .u64 m5], .agg #[.int .u64 s0, .int .u64 s1, .int .u64 s2, .bool s3], .int .u64 t, .int .i64 size, .int .i64 pre] w fun e w' => e = .returned (.tuple #[.agg #[.int .u64 r0, .int .u64 r1, .int .u64 r2, .bool r3], .int .i64 r4]) ∧ Below w.heap.size w w' := by
  have H := Lib.hid h
  clear h
  have nz : Blk ((((w.alloc (.cells #[] 128)).alloc (.cells #[.int .i64 m0, .bool m1, .int .u64 m2, .int .u64 m3, .int .u64 m4, .int .u64 m5] 49)).alloc (.cells #[.int .u64 s0, .int .u64 s1, .int .u64 s2, .bool s3] 51)).alloc (.cells #[.int .u64 0, .int .u64 0, .int .u64 0, .bool false] 51)) (w.heap.size + 1 + 1 + 1) 51 #[.int .u64 0, .int .u64 0, .int .u64 0, .bool false] := by
    have h := (Blk.new (((w.alloc (.cells #[] 128)).alloc (.cells #[.int .i64 m0, .bool m1, .int .u64 m2, .int .u64 m3, .int .u64 m4, .int .u64 m5] 49)).alloc (.cells #[.int .u64 s0, .int .u64 s1, .int .u64 s2, .bool s3] 51)) 51 #[.int .u64 0, .int .u64 0, .int .u64 0, .bool false])
    simpa only [World.size_alloc] using h
  have NZ := Lib.hid nz
  clear nz
  go_enter Try.func127, Try.ntmps127
  go_wp2_with fail
  refine (single_Step.calls 5 m0 m1 m2 m3 m4 m5 s0 s1 s2 s3 t size pre _ _ _ _ _ _ H.out).mono ?_
  rintro e W1 ⟨rfl, hW1⟩
  have hB := below_of (w := w) (by go_grown) hW1
  have bz := NZ.out.step hW1
  have y0 := bz.cell 0
  have y1 := bz.cell 1
  have y2 := bz.cell 2
  have y3 := bz.cell 3
  have h0 := bz.frozen 0
  have h1 := bz.frozen 1
  have h2 := bz.frozen 2
  have h3 := bz.frozen 3
  simp only [List.getElem?_toArray, List.getElem?_cons_zero, List.getElem?_cons_succ] at y0 y1 y2 y3
  have HG := Lib.hid bz
  have HB := Lib.hid hB
  clear bz hB hW1
  go_wp2_with fail
  have R2 : Blk ((((W1.setCell ⟨w.heap.size + 1 + 1 + 1, 0, none⟩ (.int .u64 r0)).setCell ⟨w.heap.size + 1 + 1 + 1, 1, none⟩ (.int .u64 r1)).setCell ⟨w.heap.size + 1 + 1 + 1, 2, none⟩ (.int .u64 r2)).setCell ⟨w.heap.size + 1 + 1 + 1, 3, none⟩ (.bool r3)) (w.heap.size + 1 + 1 + 1) 51 #[.int .u64 r0, .int .u64 r1, .int .u64 r2, .bool r3] := ((((HG.out.put 0 _).put 1 _).put 2 _).put 3 _)
  have RB : Below w.heap.size w ((((W1.setCell ⟨w.heap.size + 1 + 1 + 1, 0, none⟩ (.int .u64 r0)).setCell ⟨w.heap.size + 1 + 1 + 1, 1, none⟩ (.int .u64 r1)).setCell ⟨w.heap.size + 1 + 1 + 1, 2, none⟩ (.int .u64 r2)).setCell ⟨w.heap.size + 1 + 1 + 1, 3, none⟩ (.bool r3)) := ((((HB.out.setCell (show w.heap.size ≤ w.heap.size + 1 + 1 + 1 by omega) _).setCell (show w.heap.size ≤ w.heap.size + 1 + 1 + 1 by omega) _).setCell (show w.heap.size ≤ w.heap.size + 1 + 1 + 1 by omega) _).setCell (show w.heap.size ≤ w.heap.size + 1 + 1 + 1 by omega) _)
  generalize ((((W1.setCell ⟨w.heap.size + 1 + 1 + 1, 0, none⟩ (.int .u64 r0)).setCell ⟨w.heap.size + 1 + 1 + 1, 1, none⟩ (.int .u64 r1)).setCell ⟨w.heap.size + 1 + 1 + 1, 2, none⟩ (.int .u64 r2)).setCell ⟨w.heap.size + 1 + 1 + 1, 3, none⟩ (.bool r3)) = W7 at R2 RB ⊢
  clear y0 y1 y2 y3 h0 h1 h2 h3
  refine bodyPost_ret (Go.Proofs.YtiaoaoebghnpkaaW.PrintWords.results_list (rs := [.cell 12 51, .tmp 13]) rfl (by simp) (.cell (w.heap.size + 1 + 1 + 1) 51 #[.int .u64 r0, .int .u64 r1, .int .u64 r2, .bool r3] (0, 0) _ rfl R2 Try.underlying51 rfl (by kernel_rfl) (.tmp .nil))) rfl ?_
  exact ⟨rfl, RB⟩
set_option maxRecDepth 100000 in
set_option maxHeartbeats 4000000 in
theorem two_step (m0 : Int) (m1 : Bool) (m2 m3 m4 m5 : Int) (s0 s1 s2 : Int) (s3 : Bool) (t size pre : Int) (r0 r1 r2 : Int) (r3 : Bool) (r4 : Int) (w : World) (h : double_Stepd.f m0 m1 m2 m3 m4 m5 s0 s1 s2 s3 t size pre = some (r0, r1, r2, r3, r4)) :
    Calls Try.prog 114 #[.agg #[], .agg #[.int .i64 m0, .bool m1, .int .u64 m2, .int .u64 m3, .int .u64 m4, .int .u64 m5], .agg #[.int .u64 s0, .int .u64 s1, .int .u64 s2, .bool s3], .int .u64 t, .int .i64 size, .int .i64 pre] w fun e w' => e = .returned (.tuple #[.agg #[.int .u64 r0, .int .u64 r1, .int .u64 r2, .bool r3], .int .i64 r4]) ∧ Below w.heap.size w w' := by
  have H := Lib.hid h
  clear h
  have nz : Blk ((((w.alloc (.cells #[] 127)).alloc (.cells #[.int .i64 m0, .bool m1, .int .u64 m2, .int .u64 m3, .int .u64 m4, .int .u64 m5] 49)).alloc (.cells #[.int .u64 s0, .int .u64 s1, .int .u64 s2, .bool s3] 51)).alloc (.cells #[.int .u64 0, .int .u64 0, .int .u64 0, .bool false] 51)) (w.heap.size + 1 + 1 + 1) 51 #[.int .u64 0, .int .u64 0, .int .u64 0, .bool false] := by
    have h := (Blk.new (((w.alloc (.cells #[] 127)).alloc (.cells #[.int .i64 m0, .bool m1, .int .u64 m2, .int .u64 m3, .int .u64 m4, .int .u64 m5] 49)).alloc (.cells #[.int .u64 s0, .int .u64 s1, .int .u64 s2, .bool s3] 51)) 51 #[.int .u64 0, .int .u64 0, .int .u64 0, .bool false])
    simpa only [World.size_alloc] using h
  have NZ := Lib.hid nz
  clear nz
  go_enter Try.func114, Try.ntmps114
  go_wp2_with fail
  refine (double_Stepd.calls m0 m1 m2 m3 m4 m5 s0 s1 s2 s3 t size pre _ _ _ _ _ _ H.out).mono ?_
  rintro e W1 ⟨rfl, hW1⟩
  have hB := below_of (w := w) (by go_grown) hW1
  have bz := NZ.out.step hW1
  have y0 := bz.cell 0
  have y1 := bz.cell 1
  have y2 := bz.cell 2
  have y3 := bz.cell 3
  have h0 := bz.frozen 0
  have h1 := bz.frozen 1
  have h2 := bz.frozen 2
  have h3 := bz.frozen 3
  simp only [List.getElem?_toArray, List.getElem?_cons_zero, List.getElem?_cons_succ] at y0 y1 y2 y3
  have HG := Lib.hid bz
  have HB := Lib.hid hB
  clear bz hB hW1
  go_wp2_with fail
  have R2 : Blk ((((W1.setCell ⟨w.heap.size + 1 + 1 + 1, 0, none⟩ (.int .u64 r0)).setCell ⟨w.heap.size + 1 + 1 + 1, 1, none⟩ (.int .u64 r1)).setCell ⟨w.heap.size + 1 + 1 + 1, 2, none⟩ (.int .u64 r2)).setCell ⟨w.heap.size + 1 + 1 + 1, 3, none⟩ (.bool r3)) (w.heap.size + 1 + 1 + 1) 51 #[.int .u64 r0, .int .u64 r1, .int .u64 r2, .bool r3] := ((((HG.out.put 0 _).put 1 _).put 2 _).put 3 _)
  have RB : Below w.heap.size w ((((W1.setCell ⟨w.heap.size + 1 + 1 + 1, 0, none⟩ (.int .u64 r0)).setCell ⟨w.heap.size + 1 + 1 + 1, 1, none⟩ (.int .u64 r1)).setCell ⟨w.heap.size + 1 + 1 + 1, 2, none⟩ (.int .u64 r2)).setCell ⟨w.heap.size + 1 + 1 + 1, 3, none⟩ (.bool r3)) := ((((HB.out.setCell (show w.heap.size ≤ w.heap.size + 1 + 1 + 1 by omega) _).setCell (show w.heap.size ≤ w.heap.size + 1 + 1 + 1 by omega) _).setCell (show w.heap.size ≤ w.heap.size + 1 + 1 + 1 by omega) _).setCell (show w.heap.size ≤ w.heap.size + 1 + 1 + 1 by omega) _)
  generalize ((((W1.setCell ⟨w.heap.size + 1 + 1 + 1, 0, none⟩ (.int .u64 r0)).setCell ⟨w.heap.size + 1 + 1 + 1, 1, none⟩ (.int .u64 r1)).setCell ⟨w.heap.size + 1 + 1 + 1, 2, none⟩ (.int .u64 r2)).setCell ⟨w.heap.size + 1 + 1 + 1, 3, none⟩ (.bool r3)) = W7 at R2 RB ⊢
  clear y0 y1 y2 y3 h0 h1 h2 h3
  refine bodyPost_ret (Go.Proofs.YtiaoaoebghnpkaaW.PrintWords.results_list (rs := [.cell 12 51, .tmp 13]) rfl (by simp) (.cell (w.heap.size + 1 + 1 + 1) 51 #[.int .u64 r0, .int .u64 r1, .int .u64 r2, .bool r3] (0, 0) _ rfl R2 Try.underlying51 rfl (by kernel_rfl) (.tmp .nil))) rfl ?_
  exact ⟨rfl, RB⟩

def meter_New.f (m0 : Int) (m1 : Bool) (m2 m3 m4 m5 : Int) : Option (Int × Int × Int × Bool × Int) := if m0 = 2 then double_Newd.f m0 m1 m2 m3 m4 m5 else single_New.f 5 m0 m1 m2 m3 m4 m5

set_option maxRecDepth 100000 in
set_option maxHeartbeats 4000000 in
theorem meter_New.calls (m0 : Int) (m1 : Bool) (m2 m3 m4 m5 : Int) (r0 r1 r2 : Int) (r3 : Bool) (r4 : Int) (w : World) (h : meter_New.f m0 m1 m2 m3 m4 m5 = some (r0, r1, r2, r3, r4)) :
    Calls Try.prog 63 #[.agg #[.int .i64 m0, .bool m1, .int .u64 m2, .int .u64 m3, .int .u64 m4, .int .u64 m5]] w fun e w' => e = .returned (.tuple #[.agg #[.int .u64 r0, .int .u64 r1, .int .u64 r2, .bool r3], .int .i64 r4]) ∧ Below w.heap.size w w' := by
  unfold meter_New.f at h
  have nm : Blk ((w.alloc (.cells #[.int .i64 m0, .bool m1, .int .u64 m2, .int .u64 m3, .int .u64 m4, .int .u64 m5] 49)).alloc (.cells #[.int .u64 0, .int .u64 0, .int .u64 0, .bool false] 51)) (w.heap.size) 49 #[.int .i64 m0, .bool m1, .int .u64 m2, .int .u64 m3, .int .u64 m4, .int .u64 m5] := by
    have h := ((Blk.new w 49 #[.int .i64 m0, .bool m1, .int .u64 m2, .int .u64 m3, .int .u64 m4, .int .u64 m5]).alloc (.cells #[.int .u64 0, .int .u64 0, .int .u64 0, .bool false] 51))
    simpa only [World.size_alloc] using h
  have NM := Lib.hid nm
  clear nm
  have nz : Blk ((w.alloc (.cells #[.int .i64 m0, .bool m1, .int .u64 m2, .int .u64 m3, .int .u64 m4, .int .u64 m5] 49)).alloc (.cells #[.int .u64 0, .int .u64 0, .int .u64 0, .bool false] 51)) (w.heap.size + 1) 51 #[.int .u64 0, .int .u64 0, .int .u64 0, .bool false] := by
    have h := (Blk.new (w.alloc (.cells #[.int .i64 m0, .bool m1, .int .u64 m2, .int .u64 m3, .int .u64 m4, .int .u64 m5] 49)) 51 #[.int .u64 0, .int .u64 0, .int .u64 0, .bool false])
    simpa only [World.size_alloc] using h
  have NZ := Lib.hid nz
  clear nz
  by_cases hk : m0 = 2
  · rw [if_pos hk] at h
    have H := Lib.hid h
    have HK := Lib.hid hk
    clear h hk
    have c0 := NM.out.cell 0
    have c1 := NM.out.cell 1
    have c2 := NM.out.cell 2
    have c3 := NM.out.cell 3
    have c4 := NM.out.cell 4
    have c5 := NM.out.cell 5
    simp only [List.getElem?_toArray, List.getElem?_cons_zero, List.getElem?_cons_succ] at c0 c1 c2 c3 c4 c5
    go_enter Try.func63, Try.ntmps63
    go_wp2_with fail
    refine wp_region_calls 6 (by kernel_rfl) (by kernel_rfl) ?_
    simp only [List.take_succ_cons, List.take_zero, List.drop_succ_cons, List.drop_zero]
    refine walk1_open fun K hK => ?_
    repeat
      apply walk1_value (by rfl)
      · intro W hcl hsz; go_simp; rfl
      simp only [Act.put, List.setIfInBounds_toArray, List.set_cons_zero, List.set_cons_succ]
    apply walk1_call (by rfl)
    · intro W hsz; go_simp; first | exact ⟨rfl, rfl⟩ | rfl
    · intro W hlW; exact of_two _ _ _ _ _ _ _ HK.out
    simp only [Act.put, List.setIfInBounds_toArray, List.set_cons_zero, List.set_cons_succ]
    repeat
      apply walk1_value (by rfl)
      · intro W hcl hsz; go_simp; rfl
      simp only [Act.put, List.setIfInBounds_toArray, List.set_cons_zero, List.set_cons_succ]
    refine walk1_call (v := .tuple #[.agg #[.int .u64 r0, .int .u64 r1, .int .u64 r2, .bool r3], .int .i64 r4]) (f := 113) (args := #[.agg #[], .agg #[.int .i64 m0, .bool m1, .int .u64 m2, .int .u64 m3, .int .u64 m4, .int .u64 m5]]) (by rfl) (fun W hsz => ?_) (fun W hW => ?_) ?_
    · kernel_rfl
    · exact two_fresh _ _ _ _ _ _  _ _ _ _ _ W H.out
    simp only [Act.put, List.setIfInBounds_toArray, List.set_cons_zero, List.set_cons_succ]
    repeat
      apply walk1_value (by rfl)
      · intro W hcl hsz; go_simp; rfl
      simp only [Act.put, List.setIfInBounds_toArray, List.set_cons_zero, List.set_cons_succ]
    refine walk1_nil (hK _ ?_); clear hK K
    intro W1 hW1
    have hB := below_of (w := w) (by go_grown) hW1
    have bz := NZ.out.step hW1
    have y0 := bz.cell 0
    have y1 := bz.cell 1
    have y2 := bz.cell 2
    have y3 := bz.cell 3
    have h0 := bz.frozen 0
    have h1 := bz.frozen 1
    have h2 := bz.frozen 2
    have h3 := bz.frozen 3
    simp only [List.getElem?_toArray, List.getElem?_cons_zero, List.getElem?_cons_succ] at y0 y1 y2 y3
    have HG := Lib.hid bz
    have HB := Lib.hid hB
    clear bz hB hW1
    clear c0 c1 c2 c3 c4 c5
    go_wp2_with fail
    have R2 : Blk ((((W1.setCell ⟨w.heap.size + 1, 0, none⟩ (.int .u64 r0)).setCell ⟨w.heap.size + 1, 1, none⟩ (.int .u64 r1)).setCell ⟨w.heap.size + 1, 2, none⟩ (.int .u64 r2)).setCell ⟨w.heap.size + 1, 3, none⟩ (.bool r3)) (w.heap.size + 1) 51 #[.int .u64 r0, .int .u64 r1, .int .u64 r2, .bool r3] := ((((HG.out.put 0 _).put 1 _).put 2 _).put 3 _)
    have RB : Below w.heap.size w ((((W1.setCell ⟨w.heap.size + 1, 0, none⟩ (.int .u64 r0)).setCell ⟨w.heap.size + 1, 1, none⟩ (.int .u64 r1)).setCell ⟨w.heap.size + 1, 2, none⟩ (.int .u64 r2)).setCell ⟨w.heap.size + 1, 3, none⟩ (.bool r3)) := ((((HB.out.setCell (show w.heap.size ≤ w.heap.size + 1 by omega) _).setCell (show w.heap.size ≤ w.heap.size + 1 by omega) _).setCell (show w.heap.size ≤ w.heap.size + 1 by omega) _).setCell (show w.heap.size ≤ w.heap.size + 1 by omega) _)
    generalize ((((W1.setCell ⟨w.heap.size + 1, 0, none⟩ (.int .u64 r0)).setCell ⟨w.heap.size + 1, 1, none⟩ (.int .u64 r1)).setCell ⟨w.heap.size + 1, 2, none⟩ (.int .u64 r2)).setCell ⟨w.heap.size + 1, 3, none⟩ (.bool r3)) = W7 at R2 RB ⊢
    clear y0 y1 y2 y3 h0 h1 h2 h3
    refine bodyPost_ret (Go.Proofs.YtiaoaoebghnpkaaW.PrintWords.results_list (rs := [.cell 2 51, .tmp 3]) rfl (by simp) (.cell (w.heap.size + 1) 51 #[.int .u64 r0, .int .u64 r1, .int .u64 r2, .bool r3] (0, 0) _ rfl R2 Try.underlying51 rfl (by kernel_rfl) (.tmp .nil))) rfl ?_
    exact ⟨rfl, RB⟩
  · rw [if_neg hk] at h
    have H := Lib.hid h
    have HK := Lib.hid hk
    clear h hk
    have c0 := NM.out.cell 0
    have c1 := NM.out.cell 1
    have c2 := NM.out.cell 2
    have c3 := NM.out.cell 3
    have c4 := NM.out.cell 4
    have c5 := NM.out.cell 5
    simp only [List.getElem?_toArray, List.getElem?_cons_zero, List.getElem?_cons_succ] at c0 c1 c2 c3 c4 c5
    go_enter Try.func63, Try.ntmps63
    go_wp2_with fail
    refine wp_region_calls 6 (by kernel_rfl) (by kernel_rfl) ?_
    simp only [List.take_succ_cons, List.take_zero, List.drop_succ_cons, List.drop_zero]
    refine walk1_open fun K hK => ?_
    repeat
      apply walk1_value (by rfl)
      · intro W hcl hsz; go_simp; rfl
      simp only [Act.put, List.setIfInBounds_toArray, List.set_cons_zero, List.set_cons_succ]
    apply walk1_call (by rfl)
    · intro W hsz; go_simp; first | exact ⟨rfl, rfl⟩ | rfl
    · intro W hlW; exact of_one _ _ _ _ _ _ _ HK.out
    simp only [Act.put, List.setIfInBounds_toArray, List.set_cons_zero, List.set_cons_succ]
    repeat
      apply walk1_value (by rfl)
      · intro W hcl hsz; go_simp; rfl
      simp only [Act.put, List.setIfInBounds_toArray, List.set_cons_zero, List.set_cons_succ]
    refine walk1_call (v := .tuple #[.agg #[.int .u64 r0, .int .u64 r1, .int .u64 r2, .bool r3], .int .i64 r4]) (f := 126) (args := #[.agg #[], .agg #[.int .i64 m0, .bool m1, .int .u64 m2, .int .u64 m3, .int .u64 m4, .int .u64 m5]]) (by rfl) (fun W hsz => ?_) (fun W hW => ?_) ?_
    · kernel_rfl
    · exact one_fresh _ _ _ _ _ _  _ _ _ _ _ W H.out
    simp only [Act.put, List.setIfInBounds_toArray, List.set_cons_zero, List.set_cons_succ]
    repeat
      apply walk1_value (by rfl)
      · intro W hcl hsz; go_simp; rfl
      simp only [Act.put, List.setIfInBounds_toArray, List.set_cons_zero, List.set_cons_succ]
    refine walk1_nil (hK _ ?_); clear hK K
    intro W1 hW1
    have hB := below_of (w := w) (by go_grown) hW1
    have bz := NZ.out.step hW1
    have y0 := bz.cell 0
    have y1 := bz.cell 1
    have y2 := bz.cell 2
    have y3 := bz.cell 3
    have h0 := bz.frozen 0
    have h1 := bz.frozen 1
    have h2 := bz.frozen 2
    have h3 := bz.frozen 3
    simp only [List.getElem?_toArray, List.getElem?_cons_zero, List.getElem?_cons_succ] at y0 y1 y2 y3
    have HG := Lib.hid bz
    have HB := Lib.hid hB
    clear bz hB hW1
    clear c0 c1 c2 c3 c4 c5
    go_wp2_with fail
    have R2 : Blk ((((W1.setCell ⟨w.heap.size + 1, 0, none⟩ (.int .u64 r0)).setCell ⟨w.heap.size + 1, 1, none⟩ (.int .u64 r1)).setCell ⟨w.heap.size + 1, 2, none⟩ (.int .u64 r2)).setCell ⟨w.heap.size + 1, 3, none⟩ (.bool r3)) (w.heap.size + 1) 51 #[.int .u64 r0, .int .u64 r1, .int .u64 r2, .bool r3] := ((((HG.out.put 0 _).put 1 _).put 2 _).put 3 _)
    have RB : Below w.heap.size w ((((W1.setCell ⟨w.heap.size + 1, 0, none⟩ (.int .u64 r0)).setCell ⟨w.heap.size + 1, 1, none⟩ (.int .u64 r1)).setCell ⟨w.heap.size + 1, 2, none⟩ (.int .u64 r2)).setCell ⟨w.heap.size + 1, 3, none⟩ (.bool r3)) := ((((HB.out.setCell (show w.heap.size ≤ w.heap.size + 1 by omega) _).setCell (show w.heap.size ≤ w.heap.size + 1 by omega) _).setCell (show w.heap.size ≤ w.heap.size + 1 by omega) _).setCell (show w.heap.size ≤ w.heap.size + 1 by omega) _)
    generalize ((((W1.setCell ⟨w.heap.size + 1, 0, none⟩ (.int .u64 r0)).setCell ⟨w.heap.size + 1, 1, none⟩ (.int .u64 r1)).setCell ⟨w.heap.size + 1, 2, none⟩ (.int .u64 r2)).setCell ⟨w.heap.size + 1, 3, none⟩ (.bool r3)) = W7 at R2 RB ⊢
    clear y0 y1 y2 y3 h0 h1 h2 h3
    refine bodyPost_ret (Go.Proofs.YtiaoaoebghnpkaaW.PrintWords.results_list (rs := [.cell 2 51, .tmp 3]) rfl (by simp) (.cell (w.heap.size + 1) 51 #[.int .u64 r0, .int .u64 r1, .int .u64 r2, .bool r3] (0, 0) _ rfl R2 Try.underlying51 rfl (by kernel_rfl) (.tmp .nil))) rfl ?_
    exact ⟨rfl, RB⟩

def meter_Step.f (m0 : Int) (m1 : Bool) (m2 m3 m4 m5 : Int) (s0 s1 s2 : Int) (s3 : Bool) (t size pre : Int) : Option (Int × Int × Int × Bool × Int) := if m0 = 2 then double_Stepd.f m0 m1 m2 m3 m4 m5 s0 s1 s2 s3 t size pre else single_Step.f 5 m0 m1 m2 m3 m4 m5 s0 s1 s2 s3 t size pre

set_option maxRecDepth 100000 in
set_option maxHeartbeats 4000000 in
theorem meter_Step.calls (m0 : Int) (m1 : Bool) (m2 m3 m4 m5 : Int) (s0 s1 s2 : Int) (s3 : Bool) (t size pre : Int) (r0 r1 r2 : Int) (r3 : Bool) (r4 : Int) (w : World) (h : meter_Step.f m0 m1 m2 m3 m4 m5 s0 s1 s2 s3 t size pre = some (r0, r1, r2, r3, r4)) :
    Calls Try.prog 35 #[.agg #[.int .i64 m0, .bool m1, .int .u64 m2, .int .u64 m3, .int .u64 m4, .int .u64 m5], .agg #[.int .u64 s0, .int .u64 s1, .int .u64 s2, .bool s3], .int .u64 t, .int .i64 size, .int .i64 pre] w fun e w' => e = .returned (.tuple #[.agg #[.int .u64 r0, .int .u64 r1, .int .u64 r2, .bool r3], .int .i64 r4]) ∧ Below w.heap.size w w' := by
  unfold meter_Step.f at h
  have nm : Blk (((w.alloc (.cells #[.int .i64 m0, .bool m1, .int .u64 m2, .int .u64 m3, .int .u64 m4, .int .u64 m5] 49)).alloc (.cells #[.int .u64 s0, .int .u64 s1, .int .u64 s2, .bool s3] 51)).alloc (.cells #[.int .u64 0, .int .u64 0, .int .u64 0, .bool false] 51)) (w.heap.size) 49 #[.int .i64 m0, .bool m1, .int .u64 m2, .int .u64 m3, .int .u64 m4, .int .u64 m5] := by
    have h := (((Blk.new w 49 #[.int .i64 m0, .bool m1, .int .u64 m2, .int .u64 m3, .int .u64 m4, .int .u64 m5]).alloc (.cells #[.int .u64 s0, .int .u64 s1, .int .u64 s2, .bool s3] 51)).alloc (.cells #[.int .u64 0, .int .u64 0, .int .u64 0, .bool false] 51))
    simpa only [World.size_alloc] using h
  have NM := Lib.hid nm
  clear nm
  have ns : Blk (((w.alloc (.cells #[.int .i64 m0, .bool m1, .int .u64 m2, .int .u64 m3, .int .u64 m4, .int .u64 m5] 49)).alloc (.cells #[.int .u64 s0, .int .u64 s1, .int .u64 s2, .bool s3] 51)).alloc (.cells #[.int .u64 0, .int .u64 0, .int .u64 0, .bool false] 51)) (w.heap.size + 1) 51 #[.int .u64 s0, .int .u64 s1, .int .u64 s2, .bool s3] := by
    have h := ((Blk.new (w.alloc (.cells #[.int .i64 m0, .bool m1, .int .u64 m2, .int .u64 m3, .int .u64 m4, .int .u64 m5] 49)) 51 #[.int .u64 s0, .int .u64 s1, .int .u64 s2, .bool s3]).alloc (.cells #[.int .u64 0, .int .u64 0, .int .u64 0, .bool false] 51))
    simpa only [World.size_alloc] using h
  have NS := Lib.hid ns
  clear ns
  have nz : Blk (((w.alloc (.cells #[.int .i64 m0, .bool m1, .int .u64 m2, .int .u64 m3, .int .u64 m4, .int .u64 m5] 49)).alloc (.cells #[.int .u64 s0, .int .u64 s1, .int .u64 s2, .bool s3] 51)).alloc (.cells #[.int .u64 0, .int .u64 0, .int .u64 0, .bool false] 51)) (w.heap.size + 1 + 1) 51 #[.int .u64 0, .int .u64 0, .int .u64 0, .bool false] := by
    have h := (Blk.new ((w.alloc (.cells #[.int .i64 m0, .bool m1, .int .u64 m2, .int .u64 m3, .int .u64 m4, .int .u64 m5] 49)).alloc (.cells #[.int .u64 s0, .int .u64 s1, .int .u64 s2, .bool s3] 51)) 51 #[.int .u64 0, .int .u64 0, .int .u64 0, .bool false])
    simpa only [World.size_alloc] using h
  have NZ := Lib.hid nz
  clear nz
  by_cases hk : m0 = 2
  · rw [if_pos hk] at h
    have H := Lib.hid h
    have HK := Lib.hid hk
    clear h hk
    have c0 := NM.out.cell 0
    have c1 := NM.out.cell 1
    have c2 := NM.out.cell 2
    have c3 := NM.out.cell 3
    have c4 := NM.out.cell 4
    have c5 := NM.out.cell 5
    simp only [List.getElem?_toArray, List.getElem?_cons_zero, List.getElem?_cons_succ] at c0 c1 c2 c3 c4 c5
    have d0 := NS.out.cell 0
    have d1 := NS.out.cell 1
    have d2 := NS.out.cell 2
    have d3 := NS.out.cell 3
    simp only [List.getElem?_toArray, List.getElem?_cons_zero, List.getElem?_cons_succ] at d0 d1 d2 d3
    go_enter Try.func35, Try.ntmps35
    go_wp2_with fail
    refine wp_region_calls 10 (by kernel_rfl) (by kernel_rfl) ?_
    simp only [List.take_succ_cons, List.take_zero, List.drop_succ_cons, List.drop_zero]
    refine walk1_open fun K hK => ?_
    repeat
      apply walk1_value (by rfl)
      · intro W hcl hsz; go_simp; rfl
      simp only [Act.put, List.setIfInBounds_toArray, List.set_cons_zero, List.set_cons_succ]
    apply walk1_call (by rfl)
    · intro W hsz; go_simp; first | exact ⟨rfl, rfl⟩ | rfl
    · intro W hlW; exact of_two _ _ _ _ _ _ _ HK.out
    simp only [Act.put, List.setIfInBounds_toArray, List.set_cons_zero, List.set_cons_succ]
    repeat
      apply walk1_value (by rfl)
      · intro W hcl hsz; go_simp; rfl
      simp only [Act.put, List.setIfInBounds_toArray, List.set_cons_zero, List.set_cons_succ]
    refine walk1_call (v := .tuple #[.agg #[.int .u64 r0, .int .u64 r1, .int .u64 r2, .bool r3], .int .i64 r4]) (f := 114) (args := #[.agg #[], .agg #[.int .i64 m0, .bool m1, .int .u64 m2, .int .u64 m3, .int .u64 m4, .int .u64 m5], .agg #[.int .u64 s0, .int .u64 s1, .int .u64 s2, .bool s3], .int .u64 t, .int .i64 size, .int .i64 pre]) (by rfl) (fun W hsz => ?_) (fun W hW => ?_) ?_
    · kernel_rfl
    · exact two_step _ _ _ _ _ _ _ _ _ _ _ _ _  _ _ _ _ _ W H.out
    simp only [Act.put, List.setIfInBounds_toArray, List.set_cons_zero, List.set_cons_succ]
    repeat
      apply walk1_value (by rfl)
      · intro W hcl hsz; go_simp; rfl
      simp only [Act.put, List.setIfInBounds_toArray, List.set_cons_zero, List.set_cons_succ]
    refine walk1_nil (hK _ ?_); clear hK K
    intro W1 hW1
    have hB := below_of (w := w) (by go_grown) hW1
    have bz := NZ.out.step hW1
    have y0 := bz.cell 0
    have y1 := bz.cell 1
    have y2 := bz.cell 2
    have y3 := bz.cell 3
    have h0 := bz.frozen 0
    have h1 := bz.frozen 1
    have h2 := bz.frozen 2
    have h3 := bz.frozen 3
    simp only [List.getElem?_toArray, List.getElem?_cons_zero, List.getElem?_cons_succ] at y0 y1 y2 y3
    have HG := Lib.hid bz
    have HB := Lib.hid hB
    clear bz hB hW1
    clear c0 c1 c2 c3 c4 c5 d0 d1 d2 d3
    go_wp2_with fail
    have R2 : Blk ((((W1.setCell ⟨w.heap.size + 1 + 1, 0, none⟩ (.int .u64 r0)).setCell ⟨w.heap.size + 1 + 1, 1, none⟩ (.int .u64 r1)).setCell ⟨w.heap.size + 1 + 1, 2, none⟩ (.int .u64 r2)).setCell ⟨w.heap.size + 1 + 1, 3, none⟩ (.bool r3)) (w.heap.size + 1 + 1) 51 #[.int .u64 r0, .int .u64 r1, .int .u64 r2, .bool r3] := ((((HG.out.put 0 _).put 1 _).put 2 _).put 3 _)
    have RB : Below w.heap.size w ((((W1.setCell ⟨w.heap.size + 1 + 1, 0, none⟩ (.int .u64 r0)).setCell ⟨w.heap.size + 1 + 1, 1, none⟩ (.int .u64 r1)).setCell ⟨w.heap.size + 1 + 1, 2, none⟩ (.int .u64 r2)).setCell ⟨w.heap.size + 1 + 1, 3, none⟩ (.bool r3)) := ((((HB.out.setCell (show w.heap.size ≤ w.heap.size + 1 + 1 by omega) _).setCell (show w.heap.size ≤ w.heap.size + 1 + 1 by omega) _).setCell (show w.heap.size ≤ w.heap.size + 1 + 1 by omega) _).setCell (show w.heap.size ≤ w.heap.size + 1 + 1 by omega) _)
    generalize ((((W1.setCell ⟨w.heap.size + 1 + 1, 0, none⟩ (.int .u64 r0)).setCell ⟨w.heap.size + 1 + 1, 1, none⟩ (.int .u64 r1)).setCell ⟨w.heap.size + 1 + 1, 2, none⟩ (.int .u64 r2)).setCell ⟨w.heap.size + 1 + 1, 3, none⟩ (.bool r3)) = W7 at R2 RB ⊢
    clear y0 y1 y2 y3 h0 h1 h2 h3
    refine bodyPost_ret (Go.Proofs.YtiaoaoebghnpkaaW.PrintWords.results_list (rs := [.cell 10 51, .tmp 11]) rfl (by simp) (.cell (w.heap.size + 1 + 1) 51 #[.int .u64 r0, .int .u64 r1, .int .u64 r2, .bool r3] (0, 0) _ rfl R2 Try.underlying51 rfl (by kernel_rfl) (.tmp .nil))) rfl ?_
    exact ⟨rfl, RB⟩
  · rw [if_neg hk] at h
    have H := Lib.hid h
    have HK := Lib.hid hk
    clear h hk
    have c0 := NM.out.cell 0
    have c1 := NM.out.cell 1
    have c2 := NM.out.cell 2
    have c3 := NM.out.cell 3
    have c4 := NM.out.cell 4
    have c5 := NM.out.cell 5
    simp only [List.getElem?_toArray, List.getElem?_cons_zero, List.getElem?_cons_succ] at c0 c1 c2 c3 c4 c5
    have d0 := NS.out.cell 0
    have d1 := NS.out.cell 1
    have d2 := NS.out.cell 2
    have d3 := NS.out.cell 3
    simp only [List.getElem?_toArray, List.getElem?_cons_zero, List.getElem?_cons_succ] at d0 d1 d2 d3
    go_enter Try.func35, Try.ntmps35
    go_wp2_with fail
    refine wp_region_calls 10 (by kernel_rfl) (by kernel_rfl) ?_
    simp only [List.take_succ_cons, List.take_zero, List.drop_succ_cons, List.drop_zero]
    refine walk1_open fun K hK => ?_
    repeat
      apply walk1_value (by rfl)
      · intro W hcl hsz; go_simp; rfl
      simp only [Act.put, List.setIfInBounds_toArray, List.set_cons_zero, List.set_cons_succ]
    apply walk1_call (by rfl)
    · intro W hsz; go_simp; first | exact ⟨rfl, rfl⟩ | rfl
    · intro W hlW; exact of_one _ _ _ _ _ _ _ HK.out
    simp only [Act.put, List.setIfInBounds_toArray, List.set_cons_zero, List.set_cons_succ]
    repeat
      apply walk1_value (by rfl)
      · intro W hcl hsz; go_simp; rfl
      simp only [Act.put, List.setIfInBounds_toArray, List.set_cons_zero, List.set_cons_succ]
    refine walk1_call (v := .tuple #[.agg #[.int .u64 r0, .int .u64 r1, .int .u64 r2, .bool r3], .int .i64 r4]) (f := 127) (args := #[.agg #[], .agg #[.int .i64 m0, .bool m1, .int .u64 m2, .int .u64 m3, .int .u64 m4, .int .u64 m5], .agg #[.int .u64 s0, .int .u64 s1, .int .u64 s2, .bool s3], .int .u64 t, .int .i64 size, .int .i64 pre]) (by rfl) (fun W hsz => ?_) (fun W hW => ?_) ?_
    · kernel_rfl
    · exact one_step _ _ _ _ _ _ _ _ _ _ _ _ _  _ _ _ _ _ W H.out
    simp only [Act.put, List.setIfInBounds_toArray, List.set_cons_zero, List.set_cons_succ]
    repeat
      apply walk1_value (by rfl)
      · intro W hcl hsz; go_simp; rfl
      simp only [Act.put, List.setIfInBounds_toArray, List.set_cons_zero, List.set_cons_succ]
    refine walk1_nil (hK _ ?_); clear hK K
    intro W1 hW1
    have hB := below_of (w := w) (by go_grown) hW1
    have bz := NZ.out.step hW1
    have y0 := bz.cell 0
    have y1 := bz.cell 1
    have y2 := bz.cell 2
    have y3 := bz.cell 3
    have h0 := bz.frozen 0
    have h1 := bz.frozen 1
    have h2 := bz.frozen 2
    have h3 := bz.frozen 3
    simp only [List.getElem?_toArray, List.getElem?_cons_zero, List.getElem?_cons_succ] at y0 y1 y2 y3
    have HG := Lib.hid bz
    have HB := Lib.hid hB
    clear bz hB hW1
    clear c0 c1 c2 c3 c4 c5 d0 d1 d2 d3
    go_wp2_with fail
    have R2 : Blk ((((W1.setCell ⟨w.heap.size + 1 + 1, 0, none⟩ (.int .u64 r0)).setCell ⟨w.heap.size + 1 + 1, 1, none⟩ (.int .u64 r1)).setCell ⟨w.heap.size + 1 + 1, 2, none⟩ (.int .u64 r2)).setCell ⟨w.heap.size + 1 + 1, 3, none⟩ (.bool r3)) (w.heap.size + 1 + 1) 51 #[.int .u64 r0, .int .u64 r1, .int .u64 r2, .bool r3] := ((((HG.out.put 0 _).put 1 _).put 2 _).put 3 _)
    have RB : Below w.heap.size w ((((W1.setCell ⟨w.heap.size + 1 + 1, 0, none⟩ (.int .u64 r0)).setCell ⟨w.heap.size + 1 + 1, 1, none⟩ (.int .u64 r1)).setCell ⟨w.heap.size + 1 + 1, 2, none⟩ (.int .u64 r2)).setCell ⟨w.heap.size + 1 + 1, 3, none⟩ (.bool r3)) := ((((HB.out.setCell (show w.heap.size ≤ w.heap.size + 1 + 1 by omega) _).setCell (show w.heap.size ≤ w.heap.size + 1 + 1 by omega) _).setCell (show w.heap.size ≤ w.heap.size + 1 + 1 by omega) _).setCell (show w.heap.size ≤ w.heap.size + 1 + 1 by omega) _)
    generalize ((((W1.setCell ⟨w.heap.size + 1 + 1, 0, none⟩ (.int .u64 r0)).setCell ⟨w.heap.size + 1 + 1, 1, none⟩ (.int .u64 r1)).setCell ⟨w.heap.size + 1 + 1, 2, none⟩ (.int .u64 r2)).setCell ⟨w.heap.size + 1 + 1, 3, none⟩ (.bool r3)) = W7 at R2 RB ⊢
    clear y0 y1 y2 y3 h0 h1 h2 h3
    refine bodyPost_ret (Go.Proofs.YtiaoaoebghnpkaaW.PrintWords.results_list (rs := [.cell 10 51, .tmp 11]) rfl (by simp) (.cell (w.heap.size + 1 + 1) 51 #[.int .u64 r0, .int .u64 r1, .int .u64 r2, .bool r3] (0, 0) _ rfl R2 Try.underlying51 rfl (by kernel_rfl) (.tmp .nil))) rfl ?_
    exact ⟨rfl, RB⟩
end Go.Proofs.Ytiaoaoebghnpkaa.P
