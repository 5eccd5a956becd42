/- Part of the proof. -/
import Derived.Handy
import Derived.Lib.Hide
import Derived.Deep.DeepCutAuto
import Derived.Test.YtiaoaoebghnpkaaKA16
import Derived.Test.YtiaoaoebghnpkaaKA22
import Derived.Test.YtiaoaoebghnpkaaKA13
import Derived.Test.YtiaoaoebghnpkaaKA27
/- curve's queue: how much waits when a packet comes. -/
namespace Go.Proofs.Ytiaoaoebghnpkaa
open Go.RowKit Go.Shelf

theorem gAl {A B : World} {row : Option Nat} (h : A.grownBy B row) (o : Obj) : A.grownBy (B.alloc o) row :=
  ⟨h.os, h.tape, h.output, by have := h.size; simp; omega, fun k hk hr => (Below.heap_alloc B o k (Nat.lt_of_lt_of_le hk h.size)).trans (h.block k hk hr)⟩
theorem gSet {A B : World} {g : Nat} (h : A.grownBy B (some g)) (i : Nat) (v : Value) : A.grownBy (B.setCell ⟨g, i, none⟩ v) (some g) :=
  ⟨h.os, h.tape, h.output, by have := h.size; simp; omega, fun k hk hr => (Below.heap_setCell B ⟨g, i, none⟩ v k (fun e => hr (by rw [e]))).trans (h.block k hk hr)⟩
theorem gNew {A B : World} {row : Option Nat} (h : A.grownBy B row) {p : Addr} (hp : A.heap.size ≤ p.block) (v : Value) : A.grownBy (B.setCell p v) row :=
  ⟨h.os, h.tape, h.output, by have := h.size; simp; omega, fun k hk hr => (Below.heap_setCell B p v k (by omega)).trans (h.block k hk hr)⟩
theorem gBelow {A B C : World} {row : Option Nat} (h : A.grownBy B row) (hb : Below B.heap.size B C) : A.grownBy C row :=
  ⟨hb.os.trans h.os, hb.tape.trans h.tape, hb.output.trans h.output, Nat.le_trans h.size hb.size, fun k hk hr => (hb.block k (Nat.lt_of_lt_of_le hk h.size)).trans (h.block k hk hr)⟩
theorem gRefl (A : World) (row : Option Nat) : A.grownBy A row := ⟨rfl, rfl, rfl, Nat.le_refl _, fun _ _ _ => rfl⟩

def lessV (a b : Int) : Int := if a < b then 0 else a - b
theorem V_less {a b : Int} (ha : V a) (hb : V b) : V (lessV a b) := by unfold lessV V at *; split <;> omega
theorem cless_any (a b : Int) (w : World) (ha : V a) (hb : V b) : Calls Try.prog 69 #[.agg #[.int .u64 (hi a), .int .u64 (lo a)], .agg #[.int .u64 (hi b), .int .u64 (lo b)]] w fun e w' => e = .returned (.agg #[.int .u64 (hi (lessV a b)), .int .u64 (lo (lessV a b))]) ∧ Below w.heap.size w w' := by
  refine P.curve_less.calls _ _ _ _ _ _ w ?_
  unfold P.curve_less.f P.wide_Sub.f
  rw [if_pos ⟨U_lo _, U_lo _⟩]
  simp only [Option.bind_some]
  rw [wd_hi_lo ha, wd_hi_lo hb]
  unfold lessV
  by_cases h : a < b
  · rw [if_pos (decide_eq_true h), if_pos h]
    rfl
  · rw [if_neg (by simpa using h), if_neg h]

set_option maxRecDepth 100000 in
set_option maxHeartbeats 1000000 in
theorem come_any (g : Nat) (rate last : Int) (seen : Bool) (wt t s : Int) (w : World) (hr : U rate) (hl : U last) (hw : V wt) (ht : U t) (hs : U s)
    (hq : Blk w g 109 #[.int .u64 rate, .int .u64 last, .bool seen, .int .u64 (hi wt), .int .u64 (lo wt)]) :
    Calls Try.prog 68 #[.pointer (some ⟨g, 0, none⟩), .agg #[.int .u64 t, .int .i64 s]] w fun e w' => e = .returned (.agg #[.int .u64 (hi (lessV wt (rate * dtV last seen t) + s * 1000000000)), .int .u64 (lo (lessV wt (rate * dtV last seen t) + s * 1000000000))]) ∧
      Blk w' g 109 #[.int .u64 rate, .int .u64 (nowV last seen t), .bool true, .int .u64 (hi (lessV wt (rate * dtV last seen t) + s * 1000000000)), .int .u64 (lo (lessV wt (rate * dtV last seen t) + s * 1000000000))] ∧ w.grownBy w' (some g) := by
  obtain ⟨now, hnow⟩ : ∃ now, now = nowV last seen t := ⟨_, rfl⟩
  obtain ⟨dt, hdt⟩ : ∃ dt, dt = dtV last seen t := ⟨_, rfl⟩
  have ud : U dt := by rw [hdt]; exact U_dt hl ht
  rw [← hnow, ← hdt]
  have HN := Lib.hid hnow
  have HD := Lib.hid hdt
  clear hnow hdt
  have lq := hq.lt
  go_enter Try.func68, Try.ntmps68
  go_upto_region 1 with fail
  have bq := (hq.alloc (.cells #[.int .u64 t, .int .i64 s] 68)).alloc (.cells #[.int .u64 0, .int .u64 0] 42)
  have bx := (Blk.new w 68 #[.int .u64 t, .int .i64 s]).alloc (.cells #[.int .u64 0, .int .u64 0] 42)
  have br : Blk ((w.alloc (.cells #[.int .u64 t, .int .i64 s] 68)).alloc (.cells #[.int .u64 0, .int .u64 0] 42)) (w.heap.size + 1) 42 #[.int .u64 0, .int .u64 0] := by
    have h := Blk.new (w.alloc (.cells #[.int .u64 t, .int .i64 s] 68)) 42 #[.int .u64 0, .int .u64 0]
    simpa only [World.size_alloc] using h
  have G := gAl (gAl (gRefl w (some g)) (.cells #[.int .u64 t, .int .i64 s] 68)) (.cells #[.int .u64 0, .int .u64 0] 42)
  generalize ((w.alloc (.cells #[.int .u64 t, .int .i64 s] 68)).alloc (.cells #[.int .u64 0, .int .u64 0] 42)) = W2 at *
  clear hq
  have q0 := bq.cell 0
  have q1 := bq.cell 1
  have q2 := bq.cell 2
  have q3 := bq.cell 3
  have q4 := bq.cell 4
  have qf0 := bq.frozen 0
  have qf1 := bq.frozen 1
  have qf2 := bq.frozen 2
  have qf3 := bq.frozen 3
  have qf4 := bq.frozen 4
  simp only [List.getElem?_toArray, List.getElem?_cons_zero, List.getElem?_cons_succ] at q0 q1 q2 q3 q4
  have x0 := bx.cell 0
  have x1 := bx.cell 1
  have xf0 := bx.frozen 0
  have xf1 := bx.frozen 1
  simp only [List.getElem?_toArray, List.getElem?_cons_zero, List.getElem?_cons_succ] at x0 x1
  have lq2 := bq.lt
  have lx2 := bx.lt
  refine wp_region_text (by kernel_rfl) (by kernel_rfl) fun Q2 hQ2 => ?_
  refine drawn_calls 14 (by kernel_rfl) ?_
  simp only [List.take_succ_cons, List.take_zero, List.drop_succ_cons, List.drop_zero]
  refine walk1_open fun K hK => ?_
  repeat
    apply walk1_value (by rfl)
    · intro W hcl hsz; go_simp; rfl
    simp only [Act.put, List.setIfInBounds_toArray, List.set_cons_zero, List.set_cons_succ]
  apply walk1_call (by rfl)
  · intro W hsz; go_simp; first | exact ⟨rfl, rfl⟩ | rfl
  · intro W hlW; (refine (step_any _ _ _ _ hl ht).mono ?_; rintro e w' ⟨rfl, rfl⟩; exact ⟨rfl, Below.refl _ _⟩)
  simp only [Act.put, List.setIfInBounds_toArray, List.set_cons_zero, List.set_cons_succ]
  repeat
    apply walk1_value (by rfl)
    · intro W hcl hsz; go_simp; rfl
    simp only [Act.put, List.setIfInBounds_toArray, List.set_cons_zero, List.set_cons_succ]
  refine walk1_nil (hK _ ?_); clear hK K
  intro W3 hW3
  rw [← HN.out, ← HD.out]
  replace G := gBelow G hW3
  clear q0 qf0 q1 qf1 q2 qf2 q3 qf3 q4 qf4
  clear x0 xf0 x1 xf1
  replace bq := bq.step hW3
  replace bx := bx.step hW3
  replace br := br.step hW3
  clear hW3 lq2 lx2
  have q0 := bq.cell 0
  have q1 := bq.cell 1
  have q2 := bq.cell 2
  have q3 := bq.cell 3
  have q4 := bq.cell 4
  have qf0 := bq.frozen 0
  have qf1 := bq.frozen 1
  have qf2 := bq.frozen 2
  have qf3 := bq.frozen 3
  have qf4 := bq.frozen 4
  simp only [List.getElem?_toArray, List.getElem?_cons_zero, List.getElem?_cons_succ] at q0 q1 q2 q3 q4
  have lq2 := bq.lt
  go_upto_region 3 with fail
  have e1 : w.heap.size ≠ g := by omega
  have e2 : w.heap.size + 1 ≠ g := by omega
  replace bq := (bq.put 1 (.int .u64 now)).put 2 (.bool true)
  simp only [List.setIfInBounds_toArray, List.set_cons_zero, List.set_cons_succ] at bq
  replace bx := (bx.far (p := ⟨g, 1, none⟩) e1 (.int .u64 now)).far (p := ⟨g, 2, none⟩) e1 (.bool true)
  replace br := (br.far (p := ⟨g, 1, none⟩) e2 (.int .u64 now)).far (p := ⟨g, 2, none⟩) e2 (.bool true)
  replace G := gSet (gSet G 1 (.int .u64 now)) 2 (.bool true)
  clear q0 qf0 q1 qf1 q2 qf2 q3 qf3 q4 qf4
  generalize (W3.setCell ⟨g, 1, none⟩ (.int .u64 now)).setCell ⟨g, 2, none⟩ (.bool true) = W4 at *
  clear lq2
  have q0 := bq.cell 0
  have q1 := bq.cell 1
  have q2 := bq.cell 2
  have q3 := bq.cell 3
  have q4 := bq.cell 4
  have qf0 := bq.frozen 0
  have qf1 := bq.frozen 1
  have qf2 := bq.frozen 2
  have qf3 := bq.frozen 3
  have qf4 := bq.frozen 4
  simp only [List.getElem?_toArray, List.getElem?_cons_zero, List.getElem?_cons_succ] at q0 q1 q2 q3 q4
  have lq2 := bq.lt
  refine wp_region_text (by kernel_rfl) (by kernel_rfl) fun Q2 hQ2 => ?_
  refine drawn_calls 14 (by kernel_rfl) ?_
  simp only [List.take_succ_cons, List.take_zero, List.drop_succ_cons, List.drop_zero]
  refine walk1_open fun K hK => ?_
  repeat
    apply walk1_value (by rfl)
    · intro W hcl hsz; go_simp; rfl
    simp only [Act.put, List.setIfInBounds_toArray, List.set_cons_zero, List.set_cons_succ]
  apply walk1_call (by rfl)
  · intro W hsz; go_simp; first | exact ⟨rfl, rfl⟩ | rfl
  · intro W hlW; exact mul_any _ _ _ hr ud
  simp only [Act.put, List.setIfInBounds_toArray, List.set_cons_zero, List.set_cons_succ]
  apply walk1_call (by rfl)
  · intro W hsz; go_simp; first | exact ⟨rfl, rfl⟩ | rfl
  · intro W hlW; exact cless_any _ _ _ hw (V_mul hr ud)
  simp only [Act.put, List.setIfInBounds_toArray, List.set_cons_zero, List.set_cons_succ]
  repeat
    apply walk1_value (by rfl)
    · intro W hcl hsz; go_simp; rfl
    simp only [Act.put, List.setIfInBounds_toArray, List.set_cons_zero, List.set_cons_succ]
  refine walk1_nil (hK _ ?_); clear hK K
  intro W5 hW5
  obtain ⟨z, hz⟩ : ∃ z, z = lessV wt (rate * dt) := ⟨_, rfl⟩
  have vz : V z := by rw [hz]; exact V_less hw (V_mul hr ud)
  rw [← hz]
  have HZ := Lib.hid hz
  clear hz
  replace G := gBelow G hW5
  clear q0 qf0 q1 qf1 q2 qf2 q3 qf3 q4 qf4
  replace bq := bq.step hW5
  replace bx := bx.step hW5
  replace br := br.step hW5
  clear hW5 lq2
  have q0 := bq.cell 0
  have q1 := bq.cell 1
  have q2 := bq.cell 2
  have q3 := bq.cell 3
  have q4 := bq.cell 4
  have qf0 := bq.frozen 0
  have qf1 := bq.frozen 1
  have qf2 := bq.frozen 2
  have qf3 := bq.frozen 3
  have qf4 := bq.frozen 4
  simp only [List.getElem?_toArray, List.getElem?_cons_zero, List.getElem?_cons_succ] at q0 q1 q2 q3 q4
  have lq2 := bq.lt
  go_upto_region 4 with fail
  replace bq := (bq.put 3 (.int .u64 (hi z))).put 4 (.int .u64 (lo z))
  simp only [List.setIfInBounds_toArray, List.set_cons_zero, List.set_cons_succ] at bq
  replace bx := (bx.far (p := ⟨g, 3, none⟩) e1 (.int .u64 (hi z))).far (p := ⟨g, 4, none⟩) e1 (.int .u64 (lo z))
  replace br := (br.far (p := ⟨g, 3, none⟩) e2 (.int .u64 (hi z))).far (p := ⟨g, 4, none⟩) e2 (.int .u64 (lo z))
  replace G := gSet (gSet G 3 (.int .u64 (hi z))) 4 (.int .u64 (lo z))
  clear q0 qf0 q1 qf1 q2 qf2 q3 qf3 q4 qf4
  generalize (W5.setCell ⟨g, 3, none⟩ (.int .u64 (hi z))).setCell ⟨g, 4, none⟩ (.int .u64 (lo z)) = W6 at *
  clear lq2
  have q0 := bq.cell 0
  have q1 := bq.cell 1
  have q2 := bq.cell 2
  have q3 := bq.cell 3
  have q4 := bq.cell 4
  have qf0 := bq.frozen 0
  have qf1 := bq.frozen 1
  have qf2 := bq.frozen 2
  have qf3 := bq.frozen 3
  have qf4 := bq.frozen 4
  simp only [List.getElem?_toArray, List.getElem?_cons_zero, List.getElem?_cons_succ] at q0 q1 q2 q3 q4
  have x0 := bx.cell 0
  have x1 := bx.cell 1
  have xf0 := bx.frozen 0
  have xf1 := bx.frozen 1
  simp only [List.getElem?_toArray, List.getElem?_cons_zero, List.getElem?_cons_succ] at x0 x1
  have lq2 := bq.lt
  have lx2 := bx.lt
  have sw : IntKind.u64.wrap s = s := wrap_in hs
  have hsum : wd (hi z) (lo z) + wd (hi (s * 1000000000)) (lo (s * 1000000000)) = z + s * 1000000000 := by rw [wd_hi_lo vz, wd_hi_lo (V_mul hs (by unfold U; omega))]
  refine wp_region_text (by kernel_rfl) (by kernel_rfl) fun Q2 hQ2 => ?_
  refine drawn_calls 15 (by kernel_rfl) ?_
  simp only [List.take_succ_cons, List.take_zero, List.drop_succ_cons, List.drop_zero]
  refine walk1_open fun K hK => ?_
  repeat
    apply walk1_value (by rfl)
    · intro W hcl hsz; go_simp; rfl
    simp only [Act.put, List.setIfInBounds_toArray, List.set_cons_zero, List.set_cons_succ]
  apply walk1_call (by rfl)
  · intro W hsz; go_simp; first | exact ⟨rfl, rfl⟩ | rfl
  · intro W hlW; exact mul_any _ _ _ hs (show U 1000000000 by unfold U; omega)
  simp only [Act.put, List.setIfInBounds_toArray, List.set_cons_zero, List.set_cons_succ]
  apply walk1_call (by rfl)
  · intro W hsz; go_simp; first | exact ⟨rfl, rfl⟩ | rfl
  · intro W hlW; exact add_any _ _ _ _ _ (U_hi _) (U_lo _) (U_hi _) (U_lo _)
  simp only [Act.put, List.setIfInBounds_toArray, List.set_cons_zero, List.set_cons_succ]
  repeat
    apply walk1_value (by rfl)
    · intro W hcl hsz; go_simp; rfl
    simp only [Act.put, List.setIfInBounds_toArray, List.set_cons_zero, List.set_cons_succ]
  refine walk1_nil (hK _ ?_); clear hK K
  intro W7 hW7
  rw [hsum]
  obtain ⟨v, hv'⟩ : ∃ v, v = z + s * 1000000000 := ⟨_, rfl⟩
  rw [← hv']
  have HV := Lib.hid hv'
  clear hv'
  replace G := gBelow G hW7
  clear q0 qf0 q1 qf1 q2 qf2 q3 qf3 q4 qf4
  clear x0 xf0 x1 xf1
  replace bq := bq.step hW7
  replace br := br.step hW7
  clear hW7 lq2 lx2
  have q0 := bq.cell 0
  have q1 := bq.cell 1
  have q2 := bq.cell 2
  have q3 := bq.cell 3
  have q4 := bq.cell 4
  have qf0 := bq.frozen 0
  have qf1 := bq.frozen 1
  have qf2 := bq.frozen 2
  have qf3 := bq.frozen 3
  have qf4 := bq.frozen 4
  simp only [List.getElem?_toArray, List.getElem?_cons_zero, List.getElem?_cons_succ] at q0 q1 q2 q3 q4
  have lq2 := bq.lt
  go_upto_region 5 with fail
  replace bq := (bq.put 3 (.int .u64 (hi v))).put 4 (.int .u64 (lo v))
  simp only [List.setIfInBounds_toArray, List.set_cons_zero, List.set_cons_succ] at bq
  replace br := (br.far (p := ⟨g, 3, none⟩) e2 (.int .u64 (hi v))).far (p := ⟨g, 4, none⟩) e2 (.int .u64 (lo v))
  replace G := gSet (gSet G 3 (.int .u64 (hi v))) 4 (.int .u64 (lo v))
  clear q0 qf0 q1 qf1 q2 qf2 q3 qf3 q4 qf4
  generalize (W7.setCell ⟨g, 3, none⟩ (.int .u64 (hi v))).setCell ⟨g, 4, none⟩ (.int .u64 (lo v)) = W8 at *
  clear lq2
  have q0 := bq.cell 0
  have q1 := bq.cell 1
  have q2 := bq.cell 2
  have q3 := bq.cell 3
  have q4 := bq.cell 4
  have qf0 := bq.frozen 0
  have qf1 := bq.frozen 1
  have qf2 := bq.frozen 2
  have qf3 := bq.frozen 3
  have qf4 := bq.frozen 4
  simp only [List.getElem?_toArray, List.getElem?_cons_zero, List.getElem?_cons_succ] at q0 q1 q2 q3 q4
  have r0 := br.cell 0
  have r1 := br.cell 1
  have rf0 := br.frozen 0
  have rf1 := br.frozen 1
  simp only [List.getElem?_toArray, List.getElem?_cons_zero, List.getElem?_cons_succ] at r0 r1
  have lq2 := bq.lt
  have lr2 := br.lt
  go_wp2_with fail
  have R := (br.put 0 (.int .u64 (hi v))).put 1 (.int .u64 (lo v))
  replace bq := (bq.far (p := ⟨w.heap.size + 1, 0, none⟩) e2.symm (.int .u64 (hi v))).far (p := ⟨w.heap.size + 1, 1, none⟩) e2.symm (.int .u64 (lo v))
  replace G := gNew (gNew G (p := ⟨w.heap.size + 1, 0, none⟩) (by simp) (.int .u64 (hi v))) (p := ⟨w.heap.size + 1, 1, none⟩) (by simp) (.int .u64 (lo v))
  clear q0 qf0 q1 qf1 q2 qf2 q3 qf3 q4 qf4
  clear r0 rf0 r1 rf1
  generalize (W8.setCell ⟨w.heap.size + 1, 0, none⟩ (.int .u64 (hi v))).setCell ⟨w.heap.size + 1, 1, none⟩ (.int .u64 (lo v)) = W9 at *
  have y0 := R.cell 0
  have y1 := R.cell 1
  simp only [List.setIfInBounds_toArray, List.set_cons_zero, List.set_cons_succ, List.getElem?_toArray, List.getElem?_cons_zero, List.getElem?_cons_succ] at y0 y1
  refine bodyPost_ret (by simp [results, Try.results68, go_sem, y0, y1]; rfl) rfl ?_
  rw [← HZ.out, ← HV.out]
  exact ⟨rfl, bq, G⟩
end Go.Proofs.Ytiaoaoebghnpkaa
