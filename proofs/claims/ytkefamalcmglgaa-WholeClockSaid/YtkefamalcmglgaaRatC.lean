/- What goes over ratchet's moments: Back, Longest. -/
import Derived.Test.YtkefamalcmglgaaRatB
import Derived.Test.YtkefamalcmglgaaLoose
import Derived.Test.YtkefamalcmglgaaWWords
import Derived.Maps.AppendAt
namespace Go.Proofs.Ytkefamalcmglgaa
open Go.RowKit Go.Shelf
open Go.Proofs.YtkefamalcmglgaaW.PrintWords (own_base own_move own_weaken)
attribute [local go_sem] Oper.semAt_some

/-- Behind an append into a variable's own row: the variable, the row, and what lies elsewhere. -/
theorem appendT {W w1 : World} {n₀ base Bx : Nat} {T : Nat → Prop} {t e : TypeId} {size : Nat} {v v' : Value} {k m : Nat} {xs ys : List Value} {tmp : Obj} (hv : Blk W Bx t #[v]) (hrow : W.ownsRow base e size v k xs) (hb : Bx < base) (hn : n₀ ≤ Bx)
    (hT : ∀ g, T g → g < W.heap.size ∧ g ≠ Bx ∧ g < base) (hown' : w1.ownsRow base e size v' m ys) (hgrow : (W.alloc tmp).grownBy w1 v.ownBlock) :
    Blk w1 Bx t #[v] ∧ Blk (w1.setCell ⟨Bx, 0, none⟩ v') Bx t #[v'] ∧ (w1.setCell ⟨Bx, 0, none⟩ v').ownsRow base e size v' m ys ∧ Below n₀ W (w1.setCell ⟨Bx, 0, none⟩ v') ∧ FarT T W (w1.setCell ⟨Bx, 0, none⟩ v') := by
  have ge : ∀ j, v.ownBlock = some j → base ≤ j := own_base hrow
  have ge' : ∀ j, v'.ownBlock = some j → base ≤ j := own_base hown'
  have hlt := hv.lt
  have h1 : Blk w1 Bx t #[v] := (hgrow.block Bx (by simp; omega) (fun e => by have := ge Bx e.symm; omega)).trans (hv.alloc tmp)
  have h2 := h1.put 0 v'
  simp only [List.setIfInBounds_toArray, List.set_cons_zero] at h2
  refine ⟨h1, h2, own_move hown' (fun j hj => Below.heap_setCell w1 ⟨Bx, 0, none⟩ v' j (by have := ge' j hj; simp; omega)), ?_, ?_⟩
  · exact (((Below.refl n₀ W).alloc (by omega) tmp).grown hgrow (by simp; omega) (fun j hj => by have := ge j hj; omega)).setCell (p := ⟨Bx, 0, none⟩) hn v'
  · have f1 : FarT T W (W.alloc tmp) := FarT.alloc W tmp (fun g hg => (hT g hg).1)
    have f2 : FarT T (W.alloc tmp) w1 := FarT.grown hgrow (fun g hg => by have := (hT g hg).1; simp; omega) (fun g hg e => by have := ge g e.symm; have := (hT g hg).2.2; omega)
    exact (f1.trans f2).trans (FarT.set w1 (p := ⟨Bx, 0, none⟩) v' (fun hg => (hT Bx hg).2.1 rfl))

theorem Try.infoI64 : (Try.prog.info? 3).map (fun i => (i.zero, i.size, i.bytes)) = some (some (.int .i64 0), 1, 8) := by kernel_rfl

end Go.Proofs.Ytkefamalcmglgaa
