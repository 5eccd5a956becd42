/- Part of the proof. -/
import Derived.Test.YtiaoaoebghnpkaaKA1
import Derived.Test.YtiaoaoebghnpkaaKA2
/- Helpers that make the printed proofs short: a boxed block, its cells and the marks 'Below' carried through an event. -/
namespace Go.Proofs.Ytiaoaoebghnpkaa.P
open Go.RowKit Go.Proofs.YtiaoaoebghnpkaaW.PrintWords Go.Proofs.YtiaoaoebghnpkaaW.PrintLast Go.Proofs.YtiaoaoebghnpkaaW.PrintMore
theorem zs {w0 W w' : World} {g : Nat} {o : Obj} (h : Aside0 (w0.heap[g]? = some o)) (hb : Below W.heap.size W w') (hw : w0.heap[g]? = some o → W.heap[g]? = some o := by (intro hq; (with_reducible repeat (first | refine blk_drewN ?_ _ | refine blk_drew ?_ | refine blk_alloc ?_ _)); exact hq)) : Aside0 (w'.heap[g]? = some o) := ⟨blk_below (hw h.out) hb⟩
theorem zsf {w0 W w' : World} {g : Nat} {o : Obj} (h : Aside0 (w0.heap[g]? = some o)) (hb : Below W.heap.size W w') (hw : w0.heap[g]? = some o → W.heap[g]? = some o := by (intro hq; (with_reducible repeat (first | refine blk_drewN ?_ _ | refine blk_drew ?_ | refine blk_alloc ?_ _ | refine blk_far ?_ (Aside0.out (by assumption)) _)); exact hq)) : Aside0 (w'.heap[g]? = some o) := ⟨blk_below (hw h.out) hb⟩
theorem zt {w w0 W w' : World} (h : Aside0 (Below w.heap.size w w0)) (hb : Below W.heap.size W w') (hw : Below w.heap.size w w0 → Below w.heap.size w W := by (intro hq; repeat (first | (with_reducible first | exact hq | apply below_alloc | apply pw_below_drewN | apply below_drew1 | refine below_set ?_ (Aside0.out (by assumption))) | exact hq))) : Aside0 (Below w.heap.size w w') := ⟨below_step (hw h.out) hb⟩
theorem zl {w0 W : World} {g g' : Nat} {o : Obj} (hg : g' = W.heap.size) (h : Aside0 (w0.heap[g]? = some o)) (hw : w0.heap[g]? = some o → W.heap[g]? = some o := by (intro hq; (with_reducible repeat (first | refine blk_drewN ?_ _ | refine blk_drew ?_ | refine blk_alloc ?_ _)); exact hq)) : Aside0 (g ≠ g') := ⟨by rw [hg]; exact Nat.ne_of_lt (blk_lt (hw h.out))⟩
theorem zg {w0 W : World} {g g' : Nat} {o : Obj} (hg : g' = W.heap.size) (h : Aside0 (w0.heap[g]? = some o)) (hw : w0.heap[g]? = some o → W.heap[g]? = some o := by (intro hq; (with_reducible repeat (first | refine blk_drewN ?_ _ | refine blk_drew ?_ | refine blk_alloc ?_ _)); exact hq)) : Aside0 (g' ≠ g) := ⟨by rw [hg]; exact Nat.ne_of_gt (blk_lt (hw h.out))⟩
theorem ze {w w0 W : World} {g' : Nat} (hg : g' = W.heap.size) (h : Aside0 (Below w.heap.size w w0)) (hw : Below w.heap.size w w0 → Below w.heap.size w W := by (intro hq; repeat (first | (with_reducible first | exact hq | apply below_alloc | apply pw_below_drewN | apply below_drew1 | refine below_set ?_ (Aside0.out (by assumption))) | exact hq))) : Aside0 (w.heap.size ≤ g') := ⟨by rw [hg]; exact below_size (hw h.out)⟩
section
variable {w : World} {g : Nat} {t : TypeId} {a b c d e f x y : Value}
theorem zc2 (h : Aside0 (w.heap[g]? = some (.cells #[a, b] t (0, 0)))) : w.cell? ⟨g, 0, none⟩ = some a ∧ w.cell? ⟨g, 1, none⟩ = some b := ⟨(blk_cell h.out 0).trans rfl, (blk_cell h.out 1).trans rfl⟩
variable {cs : Array Value}
theorem zf1 (h : Aside0 (w.heap[g]? = some (.cells cs t (0, 0)))) : w.frozen? ⟨g, 0, none⟩ = false := blk_frozen h.out 0
theorem zf2 (h : Aside0 (w.heap[g]? = some (.cells cs t (0, 0)))) : w.frozen? ⟨g, 0, none⟩ = false ∧ w.frozen? ⟨g, 1, none⟩ = false := ⟨zf1 h, blk_frozen h.out 1⟩
end
section
variable {P : Program} {ops : Array Oper} {o : Oper} {a : Act} {Q : Exit → Act → World → Prop} {rest : List Oper}
theorem zd {W : World} (N : Tmp) (_hN : o.dst = some N) (h : wpList P ops Q (o :: rest) a W) : wpList P ops Q (o :: rest) a W := h
theorem zb {W : World} (N : Tmp) (cs : Array Value) (t : TypeId) (h : ∀ g, g = W.heap.size → ∀ w1, w1.heap[g]? = some (.cells cs t (0, 0)) → Below W.heap.size W w1 → wpList P ops Q rest (a.put o.dst (.pointer (some ⟨g, 0, none⟩))) w1)
    (hd : o.dst = some N := by rfl) (hg : o.guard = none := by rfl) (hr : (execOp a.eval o).run P W = .ok (.value (.pointer (some ⟨W.heap.size, 0, none⟩))) (W.alloc (.cells cs t (0, 0))) := by first | (go_simp; done) | (go_simp; rfl)) : wpList P ops Q (o :: rest) a W := box_event hg (N := N) hd hr h
theorem zgo {oi : Oper} {w : World} (N : Option Tmp) {f : FuncId} {fn : Func} {as : Array Operand} {ts : Array TypeId} (hf : P.funcs[f]? = some fn) (args : Array Value)
    (h : Calls P f args w fun e w' => ∃ v, e = .returned v ∧ wpList P ops Q rest (a.put N v) w')
    (hd : oi.dst = N := by rfl) (hg : oi.guard = none := by rfl) (hname : (fn.name == "runtime.NumGoroutine") = false := by kernel_rfl) (hb : fn.body.isSome = true := by rfl)
    (hop : oi.op = .call { callee := .value (.func f), args := as, argTypes := ts } := by rfl) (hargs : as.map a.eval = args := by ((try simp only [List.map_toArray, List.map_cons, List.map_nil]); first | done | rfl | (simp only [List.length_drop, List.length_take]; rfl))) : wpList P ops Q (oi :: rest) a w :=
  goesL_ N hd hg hf hname hb args hop hargs h
end
theorem bp2 {w : World} {g : Nat} {t : TypeId} {a b a' b' : Value} (h : w.heap[g]? = some (.cells #[a, b] t (0, 0))) : ((w.setCell ⟨g, 0, none⟩ a').setCell ⟨g, 1, none⟩ b').heap[g]? = some (.cells #[a', b'] t (0, 0)) := blk_put (blk_put h 0 a' rfl) 1 b' rfl
theorem zw {w0 W : World} {g : Nat} {o : Obj} (h : Aside0 (w0.heap[g]? = some o)) (hw : w0.heap[g]? = some o → W.heap[g]? = some o := by (intro hq; (with_reducible repeat (first | refine blk_drewN ?_ _ | refine blk_drew ?_ | refine blk_alloc ?_ _ | refine blk_far ?_ (Aside0.out (by assumption)) _)); exact hq)) : W.heap[g]? = some o := hw h.out
theorem zw2 {w0 W : World} {g : Nat} {o o' : Obj} (h : Aside0 (w0.heap[g]? = some o)) (hw : w0.heap[g]? = some o → W.heap[g]? = some o' := by (intro hq; (with_reducible repeat (first | refine blk_drewN ?_ _ | refine blk_drew ?_ | refine blk_alloc ?_ _ | refine blk_far ?_ (Aside0.out (by assumption)) _)); apply bp2; (with_reducible repeat (first | refine blk_drewN ?_ _ | refine blk_drew ?_ | refine blk_alloc ?_ _ | refine blk_far ?_ (Aside0.out (by assumption)) _)); exact hq)) : W.heap[g]? = some o' := hw h.out
theorem zh {w w0 W : World} (h : Aside0 (Below w.heap.size w w0)) (hw : Below w.heap.size w w0 → Below w.heap.size w W := by (intro hq; repeat (first | (with_reducible first | exact hq | apply below_alloc | apply pw_below_drewN | apply below_drew1 | refine below_set ?_ (Aside0.out (by assumption))) | exact hq))) : Below w.heap.size w W := hw h.out
theorem zo {α : Type} {d : Kd α} {e base : Nat} {ok : Nat → Prop} {v : Value} {xs : List α} {w0 W : World} (h : Aside0 (d.R e w0 base ok v xs)) (hw : d.R e w0 base ok v xs → d.R e W base ok v xs := by (intro hq; (with_reducible repeat (first | apply Kd.R_alloc | apply Kd.R_drewN | apply Kd.R_drew)); exact hq)) : d.R e W base ok v xs := hw h.out
theorem zr {α : Type} {d : Kd α} {e base : Nat} {ok : Nat → Prop} {v : Value} {xs : List α} {w0 W w' : World} (h : Aside0 (d.R e w0 base ok v xs)) (hb : Below W.heap.size W w') (hw : d.R e w0 base ok v xs → d.R e W base ok v xs := by (intro hq; (with_reducible repeat (first | apply Kd.R_alloc | apply Kd.R_drewN | apply Kd.R_drew)); exact hq)) : Aside0 (d.R e w' base ok v xs) := ⟨Kd.R_below (hw h.out) hb⟩
end Go.Proofs.Ytiaoaoebghnpkaa.P
