/- Plain numbers: words of 64 bits, wide numbers of 128 bits, their halves; small lemmas for closing walks. No program is named here. -/
import Derived.WalkKit
import Derived.Laws.Rows
import Derived.Laws.OwnMore
import Derived.Deep.Draws
namespace Go.Proofs.Ytbcpfgcpekfgiaa
open Go.RowKit

/-- A word of 64 bits. -/
def U (x : Int) : Prop := 0 ≤ x ∧ x < 18446744073709551616
/-- The number that two words make. -/
def wd (h l : Int) : Int := h * 18446744073709551616 + l
/-- The upper word of a number, the lower word. -/
def hi (n : Int) : Int := n / 18446744073709551616 % 18446744073709551616
def lo (n : Int) : Int := n % 18446744073709551616
/-- An int of 64 bits. -/
def I64 (n : Int) : Prop := -9223372036854775808 ≤ n ∧ n < 9223372036854775808
/-- Numbers of 128 bits. -/
def V (n : Int) : Prop := 0 ≤ n ∧ n < 340282366920938463463374607431768211456
def ov (n : Int) : Bool := decide (340282366920938463463374607431768211456 ≤ n)

theorem U_lo (n : Int) : U (lo n) := by unfold U lo; omega
theorem U_hi (n : Int) : U (hi n) := by unfold U hi; omega
theorem U_wrap (n : Int) : U (IntKind.u64.wrap n) := by rw [IntKind.wrap_u64]; unfold U; omega
theorem wrap_lo (n : Int) : IntKind.u64.wrap n = lo n := by rw [IntKind.wrap_u64]; rfl
theorem U_div {x : Int} (h : U x) : U (x / 4294967296) := by unfold U at *; omega
theorem U_zero : U 0 := by unfold U; omega
theorem U_one : U 1 := by unfold U; omega
theorem V_wd {h l : Int} (hh : U h) (hl : U l) : V (wd h l) := by unfold U at *; unfold V wd; omega
theorem wd_hi_lo {n : Int} (h : V n) : wd (hi n) (lo n) = n := by unfold V at h; unfold wd hi lo; omega
theorem hi_wd {h l : Int} (hh : U h) (hl : U l) : hi (wd h l) = h := by unfold U at *; unfold wd hi; omega
theorem lo_wd {h l : Int} (hl : U l) : lo (wd h l) = l := by unfold U at *; unfold wd lo; omega
theorem lo_of_U {n : Int} (h : U n) : lo n = n := by unfold U at h; unfold lo; omega
theorem hi_of_U {n : Int} (h : U n) : hi n = 0 := by unfold U at h; unfold hi; omega
theorem wd_zero (l : Int) : wd 0 l = l := by unfold wd; omega
theorem V_of_U {n : Int} (h : U n) : V n := by unfold U at h; unfold V; omega
theorem V_mul {a b : Int} (ha : U a) (hb : U b) : V (a * b) := by
  unfold U at *
  constructor
  · exact Int.mul_nonneg ha.1 hb.1
  · have h1 : a * b ≤ 18446744073709551615 * 18446744073709551615 := Int.mul_le_mul (by omega) (by omega) hb.1 (by omega)
    omega

/-- A product out of its four parts. -/
theorem mul_parts {a b : Int} (ha : U a) (hb : U b) :
    let p0 := IntKind.u64.wrap (a % 4294967296 * (b % 4294967296))
    let p1 := IntKind.u64.wrap (a / 4294967296 * (b % 4294967296))
    let p2 := IntKind.u64.wrap (a % 4294967296 * (b / 4294967296))
    let p3 := IntKind.u64.wrap (a / 4294967296 * (b / 4294967296))
    let s1 := wd p3 p0 + wd (p1 / 4294967296) (IntKind.u64.wrap (p1 * 4294967296))
    wd (hi s1) (lo s1) + wd (p2 / 4294967296) (IntKind.u64.wrap (p2 * 4294967296)) = a * b := by
  intro p0 p1 p2 p3 s1
  have hv := V_mul ha hb
  have e : a * b = (a / 4294967296 * (b / 4294967296)) * 18446744073709551616 + (a / 4294967296 * (b % 4294967296) + a % 4294967296 * (b / 4294967296)) * 4294967296 + a % 4294967296 * (b % 4294967296) := by
    have h1 : a = a / 4294967296 * 4294967296 + a % 4294967296 := by omega
    have h2 : b = b / 4294967296 * 4294967296 + b % 4294967296 := by omega
    generalize a / 4294967296 = x at *
    generalize a % 4294967296 = y at *
    generalize b / 4294967296 = z at *
    generalize b % 4294967296 = t at *
    subst h1 h2
    simp only [Int.add_mul, Int.mul_add]
    have e1 : x * 4294967296 * (z * 4294967296) = x * z * 18446744073709551616 := by rw [Int.mul_assoc, Int.mul_left_comm 4294967296 z, ← Int.mul_assoc]; omega
    have e2 : y * (z * 4294967296) = y * z * 4294967296 := by rw [← Int.mul_assoc]
    have e3 : x * 4294967296 * t = x * t * 4294967296 := by rw [Int.mul_assoc, Int.mul_comm 4294967296 t, ← Int.mul_assoc]
    rw [e1, e2, e3]
    omega
  have bd : ∀ x y : Int, 0 ≤ x → x ≤ 4294967295 → 0 ≤ y → y ≤ 4294967295 → 0 ≤ x * y ∧ x * y ≤ 18446744065119617025 := fun x y h1 h2 h3 h4 =>
    ⟨Int.mul_nonneg h1 h3, by have := Int.mul_le_mul h2 h4 h3 (by omega : (0 : Int) ≤ 4294967295); omega⟩
  unfold U at ha hb
  have b0 := bd (a % 4294967296) (b % 4294967296) (by omega) (by omega) (by omega) (by omega)
  have b1 := bd (a / 4294967296) (b % 4294967296) (by omega) (by omega) (by omega) (by omega)
  have b2 := bd (a % 4294967296) (b / 4294967296) (by omega) (by omega) (by omega) (by omega)
  have b3 := bd (a / 4294967296) (b / 4294967296) (by omega) (by omega) (by omega) (by omega)
  simp only [p0, p1, p2, p3, s1, IntKind.wrap_u64]
  unfold V at hv
  rw [e] at hv ⊢
  unfold wd hi lo
  generalize a / 4294967296 * (b / 4294967296) = q3 at *
  generalize a / 4294967296 * (b % 4294967296) = q1 at *
  generalize a % 4294967296 * (b / 4294967296) = q2 at *
  generalize a % 4294967296 * (b % 4294967296) = q0 at *
  clear e bd ha hb p0 p1 p2 p3 s1
  omega

theorem ret_int {k : IntKind} {a b : Int} (h : a = b) : Ending.returned (.int k a) = .returned (.int k b) := by rw [h]
theorem ret_bool {a b : Bool} (h : a = b) : Ending.returned (.bool a) = .returned (.bool b) := by rw [h]
theorem ret_wide {a b c d : Int} (h1 : a = c) (h2 : b = d) : Ending.returned (.agg #[.int .u64 a, .int .u64 b]) = .returned (.agg #[.int .u64 c, .int .u64 d]) := by rw [h1, h2]
theorem ret_wide_bool {a b c d : Int} {x y : Bool} (h1 : a = c) (h2 : b = d) (h3 : x = y) : Ending.returned (.tuple #[.agg #[.int .u64 a, .int .u64 b], .bool x]) = .returned (.tuple #[.agg #[.int .u64 c, .int .u64 d], .bool y]) := by rw [h1, h2, h3]
theorem ret_int_bool {k : IntKind} {a c : Int} {x y : Bool} (h1 : a = c) (h3 : x = y) : Ending.returned (.tuple #[.int k a, .bool x]) = .returned (.tuple #[.int k c, .bool y]) := by rw [h1, h3]
theorem ret_int_int {k k' : IntKind} {a b c d : Int} (h1 : a = c) (h3 : b = d) : Ending.returned (.tuple #[.int k a, .int k' b]) = .returned (.tuple #[.int k c, .int k' d]) := by rw [h1, h3]
theorem ret_int_wide {k : IntKind} {a b c d e f : Int} (h1 : a = d) (h2 : b = e) (h3 : c = f) : Ending.returned (.tuple #[.int k a, .agg #[.int .u64 b, .int .u64 c]]) = .returned (.tuple #[.int k d, .agg #[.int .u64 e, .int .u64 f]]) := by rw [h1, h2, h3]

/-- The world under a name of its own, with what is to be known of it. -/
theorem wp_gen {P : Program} {c : Code} {Q : Exit → Act → World → Prop} {a : Act} {w : World} (S : World → Prop) (hS : S w) (h : ∀ W, S W → c.wp P Q a W) : c.wp P Q a w := h w hS

/-- Behind a call that turns nothing that was there: the caller's cells and marks read as they did, and its blocks lie. -/
theorem bcell {W w1 : World} (hb : Below W.heap.size W w1) : (∀ b o, b < W.heap.size → w1.cell? ⟨b, o, none⟩ = W.cell? ⟨b, o, none⟩) ∧ (∀ b o, b < W.heap.size → w1.frozen? ⟨b, o, none⟩ = W.frozen? ⟨b, o, none⟩) ∧ W.heap.size ≤ w1.heap.size :=
  ⟨fun b o h => hb.cell (p := ⟨b, o, none⟩) h, fun b o h => hb.frozen (p := ⟨b, o, none⟩) h, hb.size⟩

/-- Block g is just the cells cs of element type t, none of them frozen. -/
def Blk (w : World) (g : Nat) (t : TypeId) (cs : Array Value) : Prop := w.heap[g]? = some (.cells cs t (0, 0))
section
variable {w w' : World} {g : Nat} {t : TypeId} {cs : Array Value}
theorem Blk.lt (h : Blk w g t cs) : g < w.heap.size := by
  rcases Nat.lt_or_ge g w.heap.size with hlt | hge
  · exact hlt
  · unfold Blk at h; rw [Array.getElem?_eq_none hge] at h; cases h
theorem Blk.cell (h : Blk w g t cs) (i : Nat) : w.cell? ⟨g, i, none⟩ = cs[i]? := cell_of_row w g i cs t (0, 0) h
theorem Blk.frozen (h : Blk w g t cs) (i : Nat) : w.frozen? ⟨g, i, none⟩ = false := frozen_of_row w g i cs t h
theorem Blk.new (w : World) (t : TypeId) (cs : Array Value) : Blk (w.alloc (.cells cs t)) w.heap.size t cs := heap_alloc_new w _
theorem Blk.drew (h : Blk w g t cs) : Blk w.drew g t cs := h
theorem Blk.alloc (h : Blk w g t cs) (o : Obj) : Blk (w.alloc o) g t cs := (Below.heap_alloc w o g h.lt).trans h
theorem Blk.put (h : Blk w g t cs) (i : Nat) (u : Value) : Blk (w.setCell ⟨g, i, none⟩ u) g t (cs.setIfInBounds i u) := by
  unfold Blk at h ⊢
  simp [World.setCell, Array.getElem?_modify, h]
theorem Blk.far (h : Blk w g t cs) {p : Addr} (hp : g ≠ p.block) (u : Value) : Blk (w.setCell p u) g t cs := (Below.heap_setCell w p u g hp).trans h
theorem Blk.below {B : Nat} (h : Blk w g t cs) (hb : Below B w w') (hg : g < B) : Blk w' g t cs := (hb.block g hg).trans h
theorem Blk.step (h : Blk w g t cs) (hb : Below w.heap.size w w') : Blk w' g t cs := h.below hb h.lt
theorem Blk.row (h : Blk w g t cs) (cs' : Array Value) : Blk (w.setRow g cs') g t cs' := by
  unfold Blk at h ⊢
  simp [World.setRow, Array.getElem?_modify, h]
theorem Blk.rowFar (h : Blk w g t cs) {k : Nat} (hk : g ≠ k) (cs' : Array Value) : Blk (w.setRow k cs') g t cs := (setRow_other w k g cs' hk).trans h
theorem below_row {B : Nat} {a : World} (h : Below B a w) (hg : B ≤ g) (cs' : Array Value) : Below B a (w.setRow g cs') :=
  ⟨h.os, h.tape, h.output, by rw [size_setRow]; exact h.size, fun k hk => by
    rw [← h.block k hk]
    exact setRow_other w g k cs' (by omega)⟩
end

theorem wpList_store_row {P : Program} {ops : Array Oper} {rest : List Oper} {o : Oper} {a : Act} {w : World} {Q : Exit → Act → World → Prop} (hgd : o.guard = none) (ty : TypeId) (x y : Operand) (ho : o.op = .store ty x y)
    (g : Nat) (cells : Array Value) (hx : a.eval x = .pointer (some ⟨g, 0, none⟩)) (hy : a.eval y = .agg cells)
    (t : TypeId) (old : Array Value) (hg : w.heap[g]? = some (.cells old t (0, 0))) (hi : (P.info? ty).map (·.size) = some cells.size)
    (hold : old.size = cells.size) (h1 : cells.all (·.oneCell') = true) (h : wpList P ops Q rest (a.put o.dst undef) (w.setRow g cells)) : wpList P ops Q (o :: rest) a w :=
  wpList_plain hgd fun _ hK => wp_store_row ty x y ho g cells hx hy t old hg hi hold h1 (hK _ _ h)

theorem below_of {w W0 W : World} (h0 : Below w.heap.size w W0) (h : Below W0.heap.size W0 W) : Below w.heap.size w W := h0.trans (h.mono h0.size)

end Go.Proofs.Ytbcpfgcpekfgiaa
