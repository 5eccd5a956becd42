/- Part of the proof. -/
import Derived.RangeFuncNested
import Derived.RangeFuncBound
import Derived.RangeFuncCalls
import Derived.RangeFuncLeaves
import Derived.RangeFuncBox
import Derived.WalkKit
import Derived.Below
/- A range over a function whose iterator turns memory of its own between two rounds; over the wide fence. No program is named here. -/
namespace Go.Proofs.Ytiaoaoebghnpkaa
open Go.RowKit

/-- J stands whatever turns the blocks of T alone (new blocks may be laid). -/
def StandsT {β : Type} (T : Nat → Prop) (J : β → World → Prop) : Prop :=
  ∀ s A B row, J s A → A.grownBy B row → (∀ r, row = some r → T r) → J s B
/-- The blocks of T lie as they lay. -/
def FarT (T : Nat → Prop) (A B : World) : Prop := A.heap.size ≤ B.heap.size ∧ ∀ g, T g → B.heap[g]? = A.heap[g]?
theorem FarT.refl (T : Nat → Prop) (A : World) : FarT T A A := ⟨Nat.le_refl _, fun _ _ => rfl⟩
theorem FarT.trans {T : Nat → Prop} {A B C : World} (h : FarT T A B) (k : FarT T B C) : FarT T A C := ⟨Nat.le_trans h.1 k.1, fun g hg => (k.2 g hg).trans (h.2 g hg)⟩
theorem FarT.below {T : Nat → Prop} {A B : World} (h : Below A.heap.size A B) (hT : ∀ g, T g → g < A.heap.size) : FarT T A B := ⟨h.size, fun g hg => h.block g (hT g hg)⟩
theorem FarT.grown {T : Nat → Prop} {A B : World} {row : Option Nat} (h : A.grownBy B row) (hT : ∀ g, T g → g < A.heap.size) (hr : ∀ g, T g → some g ≠ row) : FarT T A B := ⟨h.size, fun g hg => h.block g (hT g hg) (hr g hg)⟩
theorem FarT.lt {T : Nat → Prop} {A B : World} (h : FarT T A B) (hT : ∀ g, T g → g < A.heap.size) : ∀ g, T g → g < B.heap.size := fun g hg => Nat.lt_of_lt_of_le (hT g hg) h.1
theorem FarT.set {T : Nat → Prop} (A : World) {p : Addr} (v : Value) (hp : ¬ T p.block) : FarT T A (A.setCell p v) := ⟨by simp, fun g hg => Below.heap_setCell A p v g (fun e => hp (e ▸ hg))⟩
theorem FarT.alloc {T : Nat → Prop} (A : World) (o : Obj) (hT : ∀ g, T g → g < A.heap.size) : FarT T A (A.alloc o) := ⟨by simp, fun g hg => Below.heap_alloc A o g (hT g hg)⟩
theorem FarT.drew (T : Nat → Prop) (A : World) : FarT T A A.drew := ⟨Nat.le_refl _, fun _ _ => rfl⟩

theorem grown_put (W : World) (l : Nat) (o : Obj) : W.grownBy (W.putObj l o) (some l) := grownBy_putObj' W l o
theorem StandsT.put {β : Type} {T : Nat → Prop} {J : β → World → Prop} (h : StandsT T J) {s : β} {W : World} {l : Nat} (o : Obj) (hs : J s W) (hl : T l) : J s (W.putObj l o) :=
  h s W _ (some l) hs (grown_put W l o) (fun r e => by cases e; exact hl)
theorem StandsT.alloc {β : Type} {T : Nat → Prop} {J : β → World → Prop} (h : StandsT T J) {s : β} {W : World} (o : Obj) (hs : J s W) : J s (W.alloc o) :=
  h s W _ none hs (World.grownBy_alloc W o none) (fun r e => by cases e)
theorem StandsT.and {β : Type} {T : Nat → Prop} {J J' : β → World → Prop} (h : StandsT T J) (h' : StandsT T J') : StandsT T (fun s W => J s W ∧ J' s W) :=
  fun s A B row hs hg hr => ⟨h s A B row hs.1 hg hr, h' s A B row hs.2 hg hr⟩
theorem StandsT.mono {β : Type} {T T' : Nat → Prop} {J : β → World → Prop} (h : StandsT T J) (k : ∀ g, T' g → T g) : StandsT T' J :=
  fun s A B row hs hg hr => h s A B row hs hg (fun r e => k r (hr r e))

end Go.Proofs.Ytiaoaoebghnpkaa
