/- Part of the proof. -/
import Derived.Handy
import Derived.Test.YtiaoaoebghnpkaaKB8
import Derived.Test.YtiaoaoebghnpkaaKB26
import Derived.Test.YtiaoaoebghnpkaaKB27
/- double.Step: what it computes, by what the functions that it calls compute. -/
namespace Go.Proofs.Ytiaoaoebghnpkaa.P
open Go.RowKit
set_option linter.unusedVariables false

def double_Stepd.f (m0 : Int) (m1 : Bool) (m2 m3 m4 m5 s0 s1 s2 : Int) (s3 : Bool) (t size pre : Int) : Option (Int × Int × Int × Bool × Int) :=
  (double_Check.f 3 m0 m1 m2 m3 m4 m5).bind fun c => if c = 0 ∧ 0 ≤ size then
    (ratchet_Step.f s2 s3 t).bind fun q => (double_sides.f m0 m1 m2 m3 m4 m5 s0 s1 s2 s3).bind fun l =>
    (double_side_grow.f l.1 l.2.1 l.2.2.1 q.2).bind fun g => (double_side_grow.f l.2.2.2.1 l.2.2.2.2.1 l.2.2.2.2.2 q.2).bind fun h =>
    (double_paint.f 3 m0 m1 m2 m3 m4 m5 g.1 g.2.1 g.2.2 h.1 h.2.1 h.2.2 size pre).bind fun z => some (z.1, z.2.2.2.1, q.1, true, z.2.2.2.2.2.2)
    else some (s0, s1, s2, s3, 2)

set_option maxRecDepth 100000 in
set_option maxHeartbeats 8000000 in
theorem double_Stepd.calls (m0 : Int) (m1 : Bool) (m2 m3 m4 m5 s0 s1 s2 : Int) (s3 : Bool) (t size pre : Int) (r0 r1 r2 : Int) (r3 : Bool) (r4 : Int) (w : World) (h : double_Stepd.f m0 m1 m2 m3 m4 m5 s0 s1 s2 s3 t size pre = some (r0, r1, r2, r3, r4)) :
    Calls Try.prog 117 #[.agg #[.int .i64 m0, .bool m1, .int .u64 m2, .int .u64 m3, .int .u64 m4, .int .u64 m5], .agg #[.int .u64 s0, .int .u64 s1, .int .u64 s2, .bool s3], .int .u64 t, .int .i64 size, .int .i64 pre] w fun e w' => e = .returned (.tuple #[.agg #[.int .u64 r0, .int .u64 r1, .int .u64 r2, .bool r3], .int .i64 r4]) ∧ Below w.heap.size w w' := by
  unfold double_Stepd.f at h
  obtain ⟨c, hc, h⟩ := Option.bind_eq_some_iff.1 h
  have HC := Lib.hid hc
  clear hc
  by_cases hcs : c = 0 ∧ 0 ≤ size
  · obtain ⟨rfl, hs⟩ := hcs
    rw [if_pos ⟨rfl, hs⟩] at h
    obtain ⟨⟨now, dt⟩, hq, h⟩ := Option.bind_eq_some_iff.1 h
    obtain ⟨⟨l0, l1, l2, l3, l4, l5⟩, hsd, h⟩ := Option.bind_eq_some_iff.1 h
    obtain ⟨⟨g0, g1, g2⟩, hg, h⟩ := Option.bind_eq_some_iff.1 h
    obtain ⟨⟨k0, k1, k2⟩, hk, h⟩ := Option.bind_eq_some_iff.1 h
    obtain ⟨⟨z0, z1, z2, z3, z4, z5, z6⟩, hz, h⟩ := Option.bind_eq_some_iff.1 h
    simp only [Option.some.injEq, Prod.mk.injEq] at h
    obtain ⟨rfl, rfl, rfl, rfl, rfl⟩ := h
    dsimp only at hg hk hz
    have HQ := Lib.hid hq
    have HSD := Lib.hid hsd
    have HG := Lib.hid hg
    have HK := Lib.hid hk
    have HZ := Lib.hid hz
    clear hq hsd hg hk hz
    have hs' : ¬ size < 0 := by omega
    have i0 : ∀ (f g : Value) (w : World), (Instr.index 159 (.agg #[f, g]) (.int .i64 0)).run Try.prog w = .ok f w := fun _ _ _ => by kernel_rfl
    have i1 : ∀ (f g : Value) (w : World), (Instr.index 159 (.agg #[f, g]) (.int .i64 1)).run Try.prog w = .ok g w := fun _ _ _ => by kernel_rfl
    go_enter Try.func117, Try.ntmps117
    go_wp2_with fail
    refine (double_Check.calls 3 _ _ _ _ _ _ _ _ HC.out).mono ?_
    rintro e W1 ⟨rfl, hW1⟩
    have hB1 : Below w.heap.size w W1 := below_of (by go_grown) hW1
    have n0 := Blk.new w 49 #[.int .i64 m0, .bool m1, .int .u64 m2, .int .u64 m3, .int .u64 m4, .int .u64 m5]
    have n1 := Blk.new (w.alloc (.cells #[.int .i64 m0, .bool m1, .int .u64 m2, .int .u64 m3, .int .u64 m4, .int .u64 m5] 49)) 51 #[.int .u64 s0, .int .u64 s1, .int .u64 s2, .bool s3]
    have n2 := Blk.new ((w.alloc (.cells #[.int .i64 m0, .bool m1, .int .u64 m2, .int .u64 m3, .int .u64 m4, .int .u64 m5] 49)).alloc (.cells #[.int .u64 s0, .int .u64 s1, .int .u64 s2, .bool s3] 51)) 51 #[.int .u64 0, .int .u64 0, .int .u64 0, .bool false]
    have b0 := ((n0.alloc (.cells #[.int .u64 s0, .int .u64 s1, .int .u64 s2, .bool s3] 51)).alloc (.cells #[.int .u64 0, .int .u64 0, .int .u64 0, .bool false] 51)).step hW1
    have b1 := (n1.alloc (.cells #[.int .u64 0, .int .u64 0, .int .u64 0, .bool false] 51)).step hW1
    have b2 := n2.step hW1
    clear n0 n1 n2
    simp only [World.size_alloc] at b1 b2
    have c00 := b0.cell 0
    have c01 := b0.cell 1
    have c02 := b0.cell 2
    have c03 := b0.cell 3
    have c04 := b0.cell 4
    have c05 := b0.cell 5
    have c10 := b1.cell 0
    have c11 := b1.cell 1
    have c12 := b1.cell 2
    have c13 := b1.cell 3
    simp only [List.getElem?_toArray, List.getElem?_cons_zero, List.getElem?_cons_succ] at c00 c01 c02 c03 c04 c05 c10 c11 c12 c13
    have B0 := Lib.hid b0
    have B1 := Lib.hid b1
    have B2 := Lib.hid b2
    have HB1 := Lib.hid hB1
    clear b0 b1 b2 hB1 hW1
    go_wp2_with fail
    refine (ratchet_Step.calls _ _ _ _ _ _ HQ.out).mono ?_
    rintro e W2 ⟨rfl, hW2⟩
    have B0' := Lib.hid (B0.out.step hW2)
    have B1' := Lib.hid (B1.out.step hW2)
    have B2' := Lib.hid (B2.out.step hW2)
    have HB2 := Lib.hid (below_of HB1.out hW2)
    clear c00 c01 c02 c03 c04 c05 c10 c11 c12 c13 hW2 B0 B1 B2 HB1
    have B0 := B0'
    have B1 := B1'
    have B2 := B2'
    clear B0' B1' B2'
    have c00 := B0.out.cell 0
    have c01 := B0.out.cell 1
    have c02 := B0.out.cell 2
    have c03 := B0.out.cell 3
    have c04 := B0.out.cell 4
    have c05 := B0.out.cell 5
    have c10 := B1.out.cell 0
    have c11 := B1.out.cell 1
    have c12 := B1.out.cell 2
    have c13 := B1.out.cell 3
    simp only [List.getElem?_toArray, List.getElem?_cons_zero, List.getElem?_cons_succ] at c00 c01 c02 c03 c04 c05 c10 c11 c12 c13
    go_wp2_with fail
    refine (double_sides.calls _ _ _ _ _ _ _ _ _ _ _ _ _ _ _ _ _ HSD.out).mono ?_
    rintro e W3 ⟨rfl, hW3⟩
    have B0' := Lib.hid (B0.out.step hW3)
    have B2' := Lib.hid (B2.out.step hW3)
    have HB3 := Lib.hid (below_of HB2.out hW3)
    clear c00 c01 c02 c03 c04 c05 c10 c11 c12 c13 hW3 B0 B1 B2 HB2
    have B0 := B0'
    have B2 := B2'
    clear B0' B2'
    go_wp2_with fail
    have B3 := Lib.hid (Blk.new W3 156 #[.int .u64 l0, .int .u64 l1, .int .u64 l2, .int .u64 l3, .int .u64 l4, .int .u64 l5])
    have B0' := Lib.hid (B0.out.alloc (.cells #[.int .u64 l0, .int .u64 l1, .int .u64 l2, .int .u64 l3, .int .u64 l4, .int .u64 l5] 156))
    have B2' := Lib.hid (B2.out.alloc (.cells #[.int .u64 l0, .int .u64 l1, .int .u64 l2, .int .u64 l3, .int .u64 l4, .int .u64 l5] 156))
    have HB4 := Lib.hid (HB3.out.alloc HB3.out.size (.cells #[.int .u64 l0, .int .u64 l1, .int .u64 l2, .int .u64 l3, .int .u64 l4, .int .u64 l5] 156))
    have hg4 : w.heap.size + 3 ≤ W3.heap.size := by have := B2.out.lt; omega
    clear B0 B2 HB3
    generalize W3.heap.size = g3 at B3 hg4 ⊢
    generalize W3.alloc (.cells #[.int .u64 l0, .int .u64 l1, .int .u64 l2, .int .u64 l3, .int .u64 l4, .int .u64 l5] 156) = W4 at B3 B0' B2' HB4 ⊢
    go_loopw [45] (fun iv wr => Hid (Blk wr w.heap.size 49 #[.int .i64 m0, .bool m1, .int .u64 m2, .int .u64 m3, .int .u64 m4, .int .u64 m5]) ∧ Hid (Blk wr (w.heap.size + 1 + 1) 51 #[.int .u64 0, .int .u64 0, .int .u64 0, .bool false]) ∧ Hid (Below w.heap.size w wr) ∧
      ((iv = .int .i64 0 ∧ Hid (Blk wr g3 156 #[.int .u64 l0, .int .u64 l1, .int .u64 l2, .int .u64 l3, .int .u64 l4, .int .u64 l5])) ∨
       (iv = .int .i64 1 ∧ Hid (Blk wr g3 156 #[.int .u64 g0, .int .u64 g1, .int .u64 g2, .int .u64 l3, .int .u64 l4, .int .u64 l5])) ∨
       (iv = .int .i64 2 ∧ Hid (Blk wr g3 156 #[.int .u64 g0, .int .u64 g1, .int .u64 g2, .int .u64 k0, .int .u64 k1, .int .u64 k2])))) (fun iv _ => (2 - intOf iv).toNat)
    case atStart => exact ⟨B0', B2', HB4, .inl ⟨rfl, B3⟩⟩
    case round =>
      obtain ⟨D0, D2, DB, hcase⟩ := hrel
      rcases hcase with ⟨rfl, D3⟩ | ⟨rfl, D3⟩ | ⟨rfl, D3⟩
      · go_wp2_with fail
        refine (double_side_grow.calls _ _ _ _ _ _ _ _ HG.out).mono ?_
        rintro e W5 ⟨rfl, hW5⟩
        have D0' := Lib.hid (D0.out.step hW5)
        have D2' := Lib.hid (D2.out.step hW5)
        have D3' := Lib.hid (D3.out.step hW5)
        have DB' := Lib.hid (below_of DB.out hW5)
        clear D0 D2 D3 DB hW5
        have d0 := D3'.out.cell 0
        have d1 := D3'.out.cell 1
        have d2 := D3'.out.cell 2
        have f0 := D3'.out.frozen 0
        have f1 := D3'.out.frozen 1
        have f2 := D3'.out.frozen 2
        simp only [List.getElem?_toArray, List.getElem?_cons_zero, List.getElem?_cons_succ] at d0 d1 d2
        go_wp2_with fail
        go_roundw
        case rel =>
          exact ⟨((D0'.out.far (show w.heap.size ≠ g3 by omega) _).far (show w.heap.size ≠ g3 by omega) _).far (show w.heap.size ≠ g3 by omega) _, ((D2'.out.far (show w.heap.size + 1 + 1 ≠ g3 by omega) _).far (show w.heap.size + 1 + 1 ≠ g3 by omega) _).far (show w.heap.size + 1 + 1 ≠ g3 by omega) _, ((DB'.out.setCell (show w.heap.size ≤ g3 by omega) _).setCell (show w.heap.size ≤ g3 by omega) _).setCell (show w.heap.size ≤ g3 by omega) _, .inr (.inl ⟨rfl, ((D3'.out.put 0 _).put 1 _).put 2 _⟩)⟩
        case measure => simp [intOf]
      · go_wp2_with fail
        refine (double_side_grow.calls _ _ _ _ _ _ _ _ HK.out).mono ?_
        rintro e W5 ⟨rfl, hW5⟩
        have D0' := Lib.hid (D0.out.step hW5)
        have D2' := Lib.hid (D2.out.step hW5)
        have D3' := Lib.hid (D3.out.step hW5)
        have DB' := Lib.hid (below_of DB.out hW5)
        clear D0 D2 D3 DB hW5
        have d0 := D3'.out.cell 3
        have d1 := D3'.out.cell 4
        have d2 := D3'.out.cell 5
        have f0 := D3'.out.frozen 3
        have f1 := D3'.out.frozen 4
        have f2 := D3'.out.frozen 5
        simp only [List.getElem?_toArray, List.getElem?_cons_zero, List.getElem?_cons_succ] at d0 d1 d2
        go_wp2_with fail
        go_roundw
        case rel =>
          exact ⟨((D0'.out.far (show w.heap.size ≠ g3 by omega) _).far (show w.heap.size ≠ g3 by omega) _).far (show w.heap.size ≠ g3 by omega) _, ((D2'.out.far (show w.heap.size + 1 + 1 ≠ g3 by omega) _).far (show w.heap.size + 1 + 1 ≠ g3 by omega) _).far (show w.heap.size + 1 + 1 ≠ g3 by omega) _, ((DB'.out.setCell (show w.heap.size ≤ g3 by omega) _).setCell (show w.heap.size ≤ g3 by omega) _).setCell (show w.heap.size ≤ g3 by omega) _, .inr (.inr ⟨rfl, ((D3'.out.put 3 _).put 4 _).put 5 _⟩)⟩
        case measure => simp [intOf]
      · have c00 := D0.out.cell 0
        have c01 := D0.out.cell 1
        have c02 := D0.out.cell 2
        have c03 := D0.out.cell 3
        have c04 := D0.out.cell 4
        have c05 := D0.out.cell 5
        have d0 := D3.out.cell 0
        have d1 := D3.out.cell 1
        have d2 := D3.out.cell 2
        have d3 := D3.out.cell 3
        have d4 := D3.out.cell 4
        have d5 := D3.out.cell 5
        simp only [List.getElem?_toArray, List.getElem?_cons_zero, List.getElem?_cons_succ] at c00 c01 c02 c03 c04 c05 d0 d1 d2 d3 d4 d5
        go_wp2_with fail
        refine (double_paint.calls 3 _ _ _ _ _ _ _ _ _ _ _ _ _ _ _ _ _ _ _ _ _ _ HZ.out).mono ?_
        rintro e W5 ⟨rfl, hW5⟩
        have D2' := Lib.hid (D2.out.step hW5)
        have D3' := Lib.hid (D3.out.step hW5)
        have DB' := Lib.hid (below_of DB.out hW5)
        clear c00 c01 c02 c03 c04 c05 d0 d1 d2 d3 d4 d5
        clear D0 D2 D3 DB hW5
        have hne : w.heap.size + 1 + 1 ≠ g3 := by omega
        have d0 := D3'.out.cell 0
        have d1 := D3'.out.cell 1
        have d2 := D3'.out.cell 2
        have d3 := D3'.out.cell 3
        have d4 := D3'.out.cell 4
        have d5 := D3'.out.cell 5
        have f0 := D3'.out.frozen 0
        have f1 := D3'.out.frozen 1
        have f2 := D3'.out.frozen 2
        have f3 := D3'.out.frozen 3
        have f4 := D3'.out.frozen 4
        have f5 := D3'.out.frozen 5
        simp only [List.getElem?_toArray, List.getElem?_cons_zero, List.getElem?_cons_succ] at d0 d1 d2 d3 d4 d5
        go_upto_region 11 with fail
        have G3 : Blk ((((((W5.setCell ⟨g3, 0, none⟩ (.int .u64 z0)).setCell ⟨g3, 1, none⟩ (.int .u64 z1)).setCell ⟨g3, 2, none⟩ (.int .u64 z2)).setCell ⟨g3, 3, none⟩ (.int .u64 z3)).setCell ⟨g3, 4, none⟩ (.int .u64 z4)).setCell ⟨g3, 5, none⟩ (.int .u64 z5)) g3 156 #[.int .u64 z0, .int .u64 z1, .int .u64 z2, .int .u64 z3, .int .u64 z4, .int .u64 z5] := ((((((D3'.out.put 0 _).put 1 _).put 2 _).put 3 _).put 4 _).put 5 _)
        have G2 : Blk ((((((W5.setCell ⟨g3, 0, none⟩ (.int .u64 z0)).setCell ⟨g3, 1, none⟩ (.int .u64 z1)).setCell ⟨g3, 2, none⟩ (.int .u64 z2)).setCell ⟨g3, 3, none⟩ (.int .u64 z3)).setCell ⟨g3, 4, none⟩ (.int .u64 z4)).setCell ⟨g3, 5, none⟩ (.int .u64 z5)) (w.heap.size + 1 + 1) 51 #[.int .u64 0, .int .u64 0, .int .u64 0, .bool false] := ((((((D2'.out.far hne _).far hne _).far hne _).far hne _).far hne _).far hne _)
        have GB : Below w.heap.size w ((((((W5.setCell ⟨g3, 0, none⟩ (.int .u64 z0)).setCell ⟨g3, 1, none⟩ (.int .u64 z1)).setCell ⟨g3, 2, none⟩ (.int .u64 z2)).setCell ⟨g3, 3, none⟩ (.int .u64 z3)).setCell ⟨g3, 4, none⟩ (.int .u64 z4)).setCell ⟨g3, 5, none⟩ (.int .u64 z5)) := ((((((DB'.out.setCell (show w.heap.size ≤ g3 by omega) _).setCell (show w.heap.size ≤ g3 by omega) _).setCell (show w.heap.size ≤ g3 by omega) _).setCell (show w.heap.size ≤ g3 by omega) _).setCell (show w.heap.size ≤ g3 by omega) _).setCell (show w.heap.size ≤ g3 by omega) _)
        generalize ((((((W5.setCell ⟨g3, 0, none⟩ (.int .u64 z0)).setCell ⟨g3, 1, none⟩ (.int .u64 z1)).setCell ⟨g3, 2, none⟩ (.int .u64 z2)).setCell ⟨g3, 3, none⟩ (.int .u64 z3)).setCell ⟨g3, 4, none⟩ (.int .u64 z4)).setCell ⟨g3, 5, none⟩ (.int .u64 z5)) = W6 at G2 G3 GB ⊢
        clear D2' D3' DB' d0 d1 d2 d3 d4 d5 f0 f1 f2 f3 f4 f5
        have x0 := G3.cell 0
        have x3 := G3.cell 3
        simp only [List.getElem?_toArray, List.getElem?_cons_zero, List.getElem?_cons_succ] at x0 x3
        have y0 := G2.cell 0
        have y1 := G2.cell 1
        have y2 := G2.cell 2
        have y3 := G2.cell 3
        have h0 := G2.frozen 0
        have h1 := G2.frozen 1
        have h2 := G2.frozen 2
        have h3 := G2.frozen 3
        simp only [List.getElem?_toArray, List.getElem?_cons_zero, List.getElem?_cons_succ] at y0 y1 y2 y3
        have HG2 := Lib.hid G2
        have HGB := Lib.hid GB
        clear G2 G3 GB
        go_wp2_with fail
        have R2 : Blk ((((W6.setCell ⟨w.heap.size + 1 + 1, 0, none⟩ (.int .u64 z0)).setCell ⟨w.heap.size + 1 + 1, 1, none⟩ (.int .u64 z3)).setCell ⟨w.heap.size + 1 + 1, 2, none⟩ (.int .u64 now)).setCell ⟨w.heap.size + 1 + 1, 3, none⟩ (.bool true)) (w.heap.size + 1 + 1) 51 #[.int .u64 z0, .int .u64 z3, .int .u64 now, .bool true] := ((((HG2.out.put 0 _).put 1 _).put 2 _).put 3 _)
        have RB : Below w.heap.size w ((((W6.setCell ⟨w.heap.size + 1 + 1, 0, none⟩ (.int .u64 z0)).setCell ⟨w.heap.size + 1 + 1, 1, none⟩ (.int .u64 z3)).setCell ⟨w.heap.size + 1 + 1, 2, none⟩ (.int .u64 now)).setCell ⟨w.heap.size + 1 + 1, 3, none⟩ (.bool true)) := ((((HGB.out.setCell (show w.heap.size ≤ w.heap.size + 1 + 1 by omega) _).setCell (show w.heap.size ≤ w.heap.size + 1 + 1 by omega) _).setCell (show w.heap.size ≤ w.heap.size + 1 + 1 by omega) _).setCell (show w.heap.size ≤ w.heap.size + 1 + 1 by omega) _)
        generalize ((((W6.setCell ⟨w.heap.size + 1 + 1, 0, none⟩ (.int .u64 z0)).setCell ⟨w.heap.size + 1 + 1, 1, none⟩ (.int .u64 z3)).setCell ⟨w.heap.size + 1 + 1, 2, none⟩ (.int .u64 now)).setCell ⟨w.heap.size + 1 + 1, 3, none⟩ (.bool true)) = W7 at R2 RB ⊢
        clear h0 h1 h2 h3 y0 y1 y2 y3
        refine bodyPost_ret (Go.Proofs.YtiaoaoebghnpkaaW.PrintWords.results_list (rs := [.cell 10 51, .tmp 11]) rfl (by simp) (.cell (w.heap.size + 1 + 1) 51 #[.int .u64 z0, .int .u64 z3, .int .u64 now, .bool true] (0, 0) _ rfl R2 Try.underlying51 rfl (by kernel_rfl) (.tmp .nil))) rfl ?_
        exact ⟨rfl, RB⟩
  · rw [if_neg hcs] at h
    simp only [Option.some.injEq, Prod.mk.injEq] at h
    obtain ⟨rfl, rfl, rfl, rfl, rfl⟩ := h
    go_enter Try.func117, Try.ntmps117
    go_wp2_with fail
    refine (double_Check.calls 3 _ _ _ _ _ _ _ _ HC.out).mono ?_
    rintro e W1 ⟨rfl, hW1⟩
    have hB1 : Below w.heap.size w W1 := below_of (by go_grown) hW1
    have n1 := Blk.new (w.alloc (.cells #[.int .i64 m0, .bool m1, .int .u64 m2, .int .u64 m3, .int .u64 m4, .int .u64 m5] 49)) 51 #[.int .u64 s0, .int .u64 s1, .int .u64 s2, .bool s3]
    have n2 := Blk.new ((w.alloc (.cells #[.int .i64 m0, .bool m1, .int .u64 m2, .int .u64 m3, .int .u64 m4, .int .u64 m5] 49)).alloc (.cells #[.int .u64 s0, .int .u64 s1, .int .u64 s2, .bool s3] 51)) 51 #[.int .u64 0, .int .u64 0, .int .u64 0, .bool false]
    have b1 := (n1.alloc (.cells #[.int .u64 0, .int .u64 0, .int .u64 0, .bool false] 51)).step hW1
    have b2 := n2.step hW1
    clear n1 n2
    simp only [World.size_alloc] at b1 b2
    have c0 := b1.cell 0
    have c1 := b1.cell 1
    have c2 := b1.cell 2
    have c3 := b1.cell 3
    simp only [List.getElem?_toArray, List.getElem?_cons_zero, List.getElem?_cons_succ] at c0 c1 c2 c3
    have y0 := b2.cell 0
    have y1 := b2.cell 1
    have y2 := b2.cell 2
    have y3 := b2.cell 3
    have h0 := b2.frozen 0
    have h1 := b2.frozen 1
    have h2 := b2.frozen 2
    have h3 := b2.frozen 3
    simp only [List.getElem?_toArray, List.getElem?_cons_zero, List.getElem?_cons_succ] at y0 y1 y2 y3
    have HG2 := Lib.hid b2
    have HGB := Lib.hid hB1
    clear b1 b2 hB1 hW1
    by_cases hc0 : c = 0
    · subst hc0
      have hs : size < 0 := by omega
      have hs1 : decide (size < 0) = true := decide_eq_true hs
      clear hcs
      go_wp2_with fail
      have R2 : Blk ((((W1.setCell ⟨w.heap.size + 1 + 1, 0, none⟩ (.int .u64 s0)).setCell ⟨w.heap.size + 1 + 1, 1, none⟩ (.int .u64 s1)).setCell ⟨w.heap.size + 1 + 1, 2, none⟩ (.int .u64 s2)).setCell ⟨w.heap.size + 1 + 1, 3, none⟩ (.bool s3)) (w.heap.size + 1 + 1) 51 #[.int .u64 s0, .int .u64 s1, .int .u64 s2, .bool s3] := ((((HG2.out.put 0 _).put 1 _).put 2 _).put 3 _)
      have RB : Below w.heap.size w ((((W1.setCell ⟨w.heap.size + 1 + 1, 0, none⟩ (.int .u64 s0)).setCell ⟨w.heap.size + 1 + 1, 1, none⟩ (.int .u64 s1)).setCell ⟨w.heap.size + 1 + 1, 2, none⟩ (.int .u64 s2)).setCell ⟨w.heap.size + 1 + 1, 3, none⟩ (.bool s3)) := ((((HGB.out.setCell (show w.heap.size ≤ w.heap.size + 1 + 1 by omega) _).setCell (show w.heap.size ≤ w.heap.size + 1 + 1 by omega) _).setCell (show w.heap.size ≤ w.heap.size + 1 + 1 by omega) _).setCell (show w.heap.size ≤ w.heap.size + 1 + 1 by omega) _)
      generalize ((((W1.setCell ⟨w.heap.size + 1 + 1, 0, none⟩ (.int .u64 s0)).setCell ⟨w.heap.size + 1 + 1, 1, none⟩ (.int .u64 s1)).setCell ⟨w.heap.size + 1 + 1, 2, none⟩ (.int .u64 s2)).setCell ⟨w.heap.size + 1 + 1, 3, none⟩ (.bool s3)) = W7 at R2 RB ⊢
      clear h0 h1 h2 h3 y0 y1 y2 y3
      refine bodyPost_ret (Go.Proofs.YtiaoaoebghnpkaaW.PrintWords.results_list (rs := [.cell 10 51, .tmp 11]) rfl (by simp) (.cell (w.heap.size + 1 + 1) 51 #[.int .u64 s0, .int .u64 s1, .int .u64 s2, .bool s3] (0, 0) _ rfl R2 Try.underlying51 rfl (by kernel_rfl) (.tmp .nil))) rfl ?_
      exact ⟨rfl, RB⟩
    · have hc1 : (c != 0) = true := bne_iff_ne.mpr hc0
      have hc2 : (c == 0) = false := beq_eq_false_iff_ne.mpr hc0
      clear hcs
      go_wp2_with fail
      have R2 : Blk ((((W1.setCell ⟨w.heap.size + 1 + 1, 0, none⟩ (.int .u64 s0)).setCell ⟨w.heap.size + 1 + 1, 1, none⟩ (.int .u64 s1)).setCell ⟨w.heap.size + 1 + 1, 2, none⟩ (.int .u64 s2)).setCell ⟨w.heap.size + 1 + 1, 3, none⟩ (.bool s3)) (w.heap.size + 1 + 1) 51 #[.int .u64 s0, .int .u64 s1, .int .u64 s2, .bool s3] := ((((HG2.out.put 0 _).put 1 _).put 2 _).put 3 _)
      have RB : Below w.heap.size w ((((W1.setCell ⟨w.heap.size + 1 + 1, 0, none⟩ (.int .u64 s0)).setCell ⟨w.heap.size + 1 + 1, 1, none⟩ (.int .u64 s1)).setCell ⟨w.heap.size + 1 + 1, 2, none⟩ (.int .u64 s2)).setCell ⟨w.heap.size + 1 + 1, 3, none⟩ (.bool s3)) := ((((HGB.out.setCell (show w.heap.size ≤ w.heap.size + 1 + 1 by omega) _).setCell (show w.heap.size ≤ w.heap.size + 1 + 1 by omega) _).setCell (show w.heap.size ≤ w.heap.size + 1 + 1 by omega) _).setCell (show w.heap.size ≤ w.heap.size + 1 + 1 by omega) _)
      generalize ((((W1.setCell ⟨w.heap.size + 1 + 1, 0, none⟩ (.int .u64 s0)).setCell ⟨w.heap.size + 1 + 1, 1, none⟩ (.int .u64 s1)).setCell ⟨w.heap.size + 1 + 1, 2, none⟩ (.int .u64 s2)).setCell ⟨w.heap.size + 1 + 1, 3, none⟩ (.bool s3)) = W7 at R2 RB ⊢
      clear h0 h1 h2 h3 y0 y1 y2 y3
      refine bodyPost_ret (Go.Proofs.YtiaoaoebghnpkaaW.PrintWords.results_list (rs := [.cell 10 51, .tmp 11]) rfl (by simp) (.cell (w.heap.size + 1 + 1) 51 #[.int .u64 s0, .int .u64 s1, .int .u64 s2, .bool s3] (0, 0) _ rfl R2 Try.underlying51 rfl (by kernel_rfl) (.tmp .nil))) rfl ?_
      exact ⟨rfl, RB⟩
end Go.Proofs.Ytiaoaoebghnpkaa.P
