/- A range over a function whose iterator turns memory of its own between two rounds; over the wide fence. No program is named here. -/
import Derived.RangeFuncNested
import Derived.RangeFuncBound
import Derived.RangeFuncCalls
import Derived.RangeFuncLeaves
import Derived.RangeFuncBox
import Derived.WalkKit
import Derived.Below
namespace Go.Proofs.Ytbcpfgcpekfgiaa
open Go.RowKit

/-- J stands whatever turns the blocks of T alone (new blocks may be laid). -/
def StandsT {β : Type} (T : Nat → Prop) (J : β → World → Prop) : Prop :=
  ∀ s A B row, J s A → A.grownBy B row → (∀ r, row = some r → T r) → J s B
/-- The blocks of T lie as they lay. -/
def FarT (T : Nat → Prop) (A B : World) : Prop := A.heap.size ≤ B.heap.size ∧ ∀ g, T g → B.heap[g]? = A.heap[g]?
/-- T, and the two blocks that the loop lays for itself when it begins in a heap of B blocks. -/
def Tw (T : Nat → Prop) (B g : Nat) : Prop := T g ∨ g = B ∨ g = B + 1

theorem FarT.refl (T : Nat → Prop) (A : World) : FarT T A A := ⟨Nat.le_refl _, fun _ _ => rfl⟩
theorem FarT.trans {T : Nat → Prop} {A B C : World} (h : FarT T A B) (k : FarT T B C) : FarT T A C := ⟨Nat.le_trans h.1 k.1, fun g hg => (k.2 g hg).trans (h.2 g hg)⟩
theorem FarT.below {T : Nat → Prop} {A B : World} (h : Below A.heap.size A B) (hT : ∀ g, T g → g < A.heap.size) : FarT T A B := ⟨h.size, fun g hg => h.block g (hT g hg)⟩
theorem FarT.grown {T : Nat → Prop} {A B : World} {row : Option Nat} (h : A.grownBy B row) (hT : ∀ g, T g → g < A.heap.size) (hr : ∀ g, T g → some g ≠ row) : FarT T A B := ⟨h.size, fun g hg => h.block g (hT g hg) (hr g hg)⟩
theorem FarT.lt {T : Nat → Prop} {A B : World} (h : FarT T A B) (hT : ∀ g, T g → g < A.heap.size) : ∀ g, T g → g < B.heap.size := fun g hg => Nat.lt_of_lt_of_le (hT g hg) h.1
theorem FarT.set {T : Nat → Prop} (A : World) {p : Addr} (v : Value) (hp : ¬ T p.block) : FarT T A (A.setCell p v) := ⟨by simp, fun g hg => Below.heap_setCell A p v g (fun e => hp (e ▸ hg))⟩
theorem FarT.alloc {T : Nat → Prop} (A : World) (o : Obj) (hT : ∀ g, T g → g < A.heap.size) : FarT T A (A.alloc o) := ⟨by simp, fun g hg => Below.heap_alloc A o g (hT g hg)⟩
theorem FarT.drew (T : Nat → Prop) (A : World) : FarT T A A.drew := ⟨Nat.le_refl _, fun _ _ => rfl⟩

/-- An iterator that is called where the heap has m blocks: its blocks T turn by its own hand; a round keeps them, and whatever lay below n₀. -/
def SeqT {α : Type} (n : Nat) (P : Program) (g : Nat) (lb : Array Value) (encs : α → Array Value) (n₀ : Nat) (T : Nat → Prop) (S Sp G : List α → Prop) (m : Nat) (w : World) : Prop :=
  ∀ (l : Nat) (J Jx : List α → World → Prop) (W : World), Below w.heap.size w W → W.heap.size = m → StandsT T J → StandsT T Jx →
    (∀ pre x W1, J pre W1 → G (pre ++ [x]) → (∀ g, T g → g < W1.heap.size) → YieldAt Fence.wide (n - 1) P l (encs x) W1 fun e W' =>
      (e = .returned (.bool true) ∧ J (pre ++ [x]) W' ∧ Below n₀ W1 W' ∧ FarT T W1 W') ∨ (e = .returned (.bool false) ∧ Jx (pre ++ [x]) W')) →
    J [] W →
    CallsIn Fence.wide n P g (#[.func (.yield l) #[] #[]] ++ lb) W fun e W' => (∃ v, e = .returned v) ∧ ((∃ xs, S xs ∧ J xs W') ∨ (∃ pre, Sp pre ∧ Jx pre W'))

/-- How the body of a round may be left. -/
def roundT {α : Type} (n₀ : Nat) (T' : Nat → Prop) (I : List α → World → Prop) (Ix : Code → List α → World → Prop) (xs : List α) (W : World) : Exit → Act → World → Prop
  | .normal, _, W' => Below n₀ W W' ∧ FarT T' W W' ∧ I xs W'
  | .ret, _, W' => FarT T' W W' ∧ Ix .ret xs W'
  | .exit id, _, W' => FarT T' W W' ∧ Ix (.exit id) xs W'
  | .goto t, _, W' => FarT T' W W' ∧ Ix (.goto t) xs W'
  | .panic _, _, _ => False
  | .outgrown, _, _ => False

theorem grown_put (W : World) (l : Nat) (o : Obj) : W.grownBy (W.putObj l o) (some l) := grownBy_putObj' W l o
theorem StandsT.put {β : Type} {T : Nat → Prop} {J : β → World → Prop} (h : StandsT T J) {s : β} {W : World} {l : Nat} (o : Obj) (hs : J s W) (hl : T l) : J s (W.putObj l o) :=
  h s W _ (some l) hs (grown_put W l o) (fun r e => by cases e; exact hl)
theorem StandsT.alloc {β : Type} {T : Nat → Prop} {J : β → World → Prop} (h : StandsT T J) {s : β} {W : World} (o : Obj) (hs : J s W) : J s (W.alloc o) :=
  h s W _ none hs (World.grownBy_alloc W o none) (fun r e => by cases e)
theorem StandsT.and {β : Type} {T : Nat → Prop} {J J' : β → World → Prop} (h : StandsT T J) (h' : StandsT T J') : StandsT T (fun s W => J s W ∧ J' s W) :=
  fun s A B row hs hg hr => ⟨h s A B row hs.1 hg hr, h' s A B row hs.2 hg hr⟩
theorem StandsT.mono {β : Type} {T T' : Nat → Prop} {J : β → World → Prop} (h : StandsT T J) (k : ∀ g, T' g → T g) : StandsT T' J :=
  fun s A B row hs hg hr => h s A B row hs hg (fun r e => k r (hr r e))

theorem rangeT {α : Type} {P : Program} {n : Nat} {g : Operand} {ps : Array Tmp} {assign body : Code} {Q : Exit → Act → World → Prop} {a : Act} {w : World}
    (h1 : 1 ≤ n) {gf : Nat} {lb : Array Value} (hg : a.eval g = .func (.func gf) #[] lb) (eg : ∀ args w, (callFunc gf args).run P w = .ok (.enter gf args) w)
    {encs : α → Array Value} {n₀ : Nat} {T : Nat → Prop} {S Sp G : List α → Prop} (hseq : SeqT (n - 1) P gf lb encs n₀ T S Sp G (w.heap.size + 2) w)
    (hn₀ : n₀ ≤ w.heap.size) (hT : ∀ g, T g → g ≠ w.heap.size ∧ g ≠ w.heap.size + 1) (hps : ∀ x, (encs x).size = ps.size)
    (I : List α → World → Prop) (Ix : Code → List α → World → Prop) (hI : StandsT (Tw T w.heap.size) I) (hIx : ∀ c, StandsT (Tw T w.heap.size) (Ix c)) (h0 : I [] w)
    (Ax : α → Act → World → Prop) (hAx : ∀ x a', StandsT (fun g => g = w.heap.size + 1) (fun (_ : Unit) W => Ax x a' W))
    (hassign : ∀ (l : Nat) (pre : List α) (x : α) (W : World) (K : Act → World → Prop), I pre W → (∀ g, Tw T w.heap.size g → g < W.heap.size) → (∀ a' W', Below W.heap.size W W' → I pre W' → Ax x a' W' → K a' W') →
      assign.wpIn (Fence.wide.inRound l) (n - 1 - 1) P (Exit.then K (fun _ _ _ => False)) { tmps := (ps.zip (encs x)).foldl (fun t (p, v) => t.setIfInBounds p v) a.tmps, defers := [] } W)
    (hbody : ∀ (l : Nat) (pre : List α) (x : α) (a' : Act) (W : World), I pre W → Ax x a' W → G (pre ++ [x]) → (∀ g, Tw T w.heap.size g → g < W.heap.size) →
      body.wpIn (Fence.wide.inRound l) (n - 1 - 1) P (roundT n₀ (Tw T w.heap.size) I Ix (pre ++ [x]) W) a' W)
    (hdone : ∀ (xs : List α) (W : World), S xs → I xs W → W.heap[w.heap.size]? = some (.deferred (some [])) → Q .normal { a with defers := { target := .collected w.heap.size, args := #[] } :: a.defers } W)
    (hstop : ∀ (c : Code) (pre : List α) (W : World), Sp pre → Ix c pre W → W.heap[w.heap.size]? = some (.deferred (some [])) → c.wpIn Fence.wide n P Q { a with defers := { target := .collected w.heap.size, args := #[] } :: a.defers } W) :
    (Code.rangeFunc g ps assign body).wpIn Fence.wide n P Q a w := by
  refine wpIn_rangeFunc ?_
  intro fn hfn
  show ∃ (l : Nat) (mark : List Deferred) (w₁ : World) (d : Deferred) (w₁' : World) (f : FuncId) (args : Array Value) (w₂ : World), (Instr.enterLoop fn a.tmps ps assign body none).run P w = .ok (l, mark) w₁ ∧ _
  obtain ⟨rec, hrec⟩ : ∃ rec : LoopState → Option Code → Loop, rec = fun st pe => { state := st, pending := pe, fn, tmps := a.tmps, params := ps, assign, body, defers := w.heap.size } := ⟨_, rfl⟩
  obtain ⟨D, hD⟩ : ∃ D, D = w.heap.size := ⟨_, rfl⟩
  have two : ∀ W : World, Tw T D D ∧ Tw T D (D + 1) := fun _ => ⟨.inr (.inl rfl), .inr (.inr rfl)⟩
  have tD := (two w).1
  have tL := (two w).2
  obtain ⟨W1, hW1⟩ : ∃ W1, (w.alloc (.deferred (some []))).alloc (.loop (rec .ready none)) = W1 := ⟨_, rfl⟩
  have sz1 : W1.heap.size = w.heap.size + 2 := by rw [← hW1]; simp
  have lL1 : W1.heap[D + 1]? = some (.loop (rec .ready none)) := by
    rw [← hW1, hD]
    have := World.alloc_heap_new (w.alloc (.deferred (some []))) (.loop (rec .ready none))
    rwa [World.size_alloc] at this
  have lD1 : W1.heap[D]? = some (.deferred (some [])) := by
    rw [← hW1, hD]
    exact (Below.heap_alloc _ _ _ (by simp)).trans (World.alloc_heap_new w _)
  have i1 : I [] W1 := by rw [← hW1]; exact hI.alloc _ (hI.alloc _ h0)
  have b1 : Below w.heap.size w W1 := by
    rw [← hW1]
    exact ((Below.refl _ w).alloc (Nat.le_refl _) _).alloc (by simp) _
  refine ⟨w.heap.size + 1, [{ target := .collected w.heap.size, args := #[] }], W1, { target := .fn (.func gf) lb, args := #[.func (.yield (w.heap.size + 1)) #[] #[]] }, W1, gf, #[.func (.yield (w.heap.size + 1)) #[] #[]] ++ lb, W1, ?_, ?_, fun _ _ => trivial, ?_, fun _ => h1, ?_⟩
  · rw [← hW1, hrec]
    exact run_enterLoop_outer _ _ _ _ _
  · simp only [resolve, hg]
    simp [go_sem]
  · simp [invoke, go_sem, eg]
  rw [← hD] at hI hIx hassign hbody hT hdone hstop hAx hn₀ ⊢
  have apart : ∀ {A B : World} {row : Option Nat}, A.grownBy B row → (∀ r, row = some r → T r) → ∀ k, k = D ∨ k = D + 1 → ∀ o, A.heap[k]? = some o → B.heap[k]? = some o := fun hg' hr k hk o ho => by
    refine (hg'.block k (Array.getElem?_eq_some_iff.1 ho).1 ?_).trans ho
    intro e
    have := hT k (hr k e.symm)
    omega
  refine (hseq (D + 1) (fun pre W => I pre W ∧ W.heap[D + 1]? = some (.loop (rec .ready none)) ∧ W.heap[D]? = some (.deferred (some [])))
    (fun pre W => ∃ c, Ix c pre W ∧ W.heap[D + 1]? = some (.loop (rec .done (some c))) ∧ W.heap[D]? = some (.deferred (some [])))
    W1 b1 sz1
    (fun s A B row hs hg' hr => ⟨hI s A B row hs.1 hg' (fun r e => .inl (hr r e)), apart hg' hr _ (.inr rfl) _ hs.2.1, apart hg' hr _ (.inl rfl) _ hs.2.2⟩)
    (fun s A B row hs hg' hr => by
      obtain ⟨c, hc, hl, hk⟩ := hs
      exact ⟨c, hIx c s A B row hc hg' (fun r e => .inl (hr r e)), apart hg' hr _ (.inr rfl) _ hl, apart hg' hr _ (.inl rfl) _ hk⟩)
    ?_ ⟨i1, lL1, lD1⟩).mono ?_
  · rintro pre x W ⟨hi, hl, hk⟩ hlen hlt
    have hlt' : ∀ g, Tw T D g → g < W.heap.size := fun g hg => by
      rcases hg with hg | rfl | rfl
      · exact hlt g hg
      · exact (Array.getElem?_eq_some_iff.1 hk).1
      · exact (Array.getElem?_eq_some_iff.1 hl).1
    have hy := run_yield (P := P) (args := encs x) hl (by rw [hrec]; exact hps x)
    rw [hrec] at hy
    refine ⟨fn, _, assign, body, hy, roundIn_of_wpIn hfn (hassign _ pre x W _ hi hlt' ?_)⟩
    intro a' Wa hba hia hax
    have fa : FarT (Tw T D) W Wa := FarT.below hba hlt'
    have hla := (fa.2 _ tL).trans hl
    have hka := (fa.2 _ tD).trans hk
    have hlta := fa.lt hlt'
    refine ⟨_, run_beginRound hla (by rw [hrec]), ?_⟩
    obtain ⟨Wb, hWb⟩ : ∃ Wb, Wb = Wa.putObj (D + 1) (.loop { rec .ready none with state := .busy }) := ⟨_, rfl⟩
    have hlb : Wb.heap[D + 1]? = some (.loop { rec .ready none with state := .busy }) := by rw [hWb]; exact World.putObj_heap_same (hlta _ tL)
    have hkb : Wb.heap[D]? = some (.deferred (some [])) := by rw [hWb]; exact (World.putObj_heap_other (by omega)).trans hka
    have szb : Wb.heap.size = Wa.heap.size := by rw [hWb]; simp
    have hbb : Below n₀ Wa Wb := by rw [hWb]; exact (Below.refl _ _).grown (grown_put _ _ _) (by have := hlta _ tL; omega) (fun k e => by cases e; omega)
    have hTb : ∀ g, T g → Wb.heap[g]? = Wa.heap[g]? := fun g hg => by rw [hWb]; exact World.putObj_heap_other (hT g hg).2
    have hib : I pre Wb := by rw [hWb]; exact hI.put _ hia tL
    have hab : Ax x a' Wb := by rw [hWb]; exact (hAx x a').put (s := ()) _ hax rfl
    rw [← hWb]
    refine wpIn_mono (hbody _ pre x a' Wb hib hab hlen (fun g hg => by rw [szb]; exact hlta g hg)) ?_
    have fin : ∀ (jump : Option Code) (W3 : World), FarT (Tw T D) Wb W3 →
        ∃ W4, (Instr.endRound (D + 1) jump).run P W3 = .ok (.bool jump.isNone) W4 ∧ W4 = W3.putObj (D + 1) (.loop (rec (if jump.isNone then .ready else .done) jump)) ∧
          W4.heap[D + 1]? = some (.loop (rec (if jump.isNone then .ready else .done) jump)) ∧ W4.heap[D]? = some (.deferred (some [])) := fun jump W3 f3 => by
      have hl3 := (f3.2 _ tL).trans hlb
      have hk3 := (f3.2 _ tD).trans hkb
      have hr := run_endRound (P := P) jump hl3
      rw [hrec] at hr ⊢
      exact ⟨_, hr, rfl, World.putObj_heap_same (Array.getElem?_eq_some_iff.1 hl3).1, (World.putObj_heap_other (by omega)).trans hk3⟩
    rintro e a3 W3 hp
    cases e with
    | normal =>
      obtain ⟨hb3, f3, hi3⟩ := hp
      obtain ⟨W4, hr, h4, hl4, hk4⟩ := fin none W3 f3
      have hlt3 := f3.lt (fun g hg => by rw [szb]; exact hlta g hg)
      have hb4 : Below n₀ W3 W4 := by rw [h4]; exact (Below.refl _ _).grown (grown_put _ _ _) (by have := hlt3 _ tL; omega) (fun k e => by cases e; omega)
      have hT4 : ∀ g, T g → W4.heap[g]? = W3.heap[g]? := fun g hg => by rw [h4]; exact World.putObj_heap_other (hT g hg).2
      have sz4 : W4.heap.size = W3.heap.size := by rw [h4]; simp
      refine ⟨_, W4, hr, .inl ⟨rfl, ⟨by rw [h4]; exact hI.put _ hi3 tL, hl4, hk4⟩, ((hba.mono (by have := hlt' _ tL; omega)).trans hbb).trans (hb3.trans hb4), ?_, fun g hg => ?_⟩⟩
      · rw [sz4]; exact Nat.le_trans fa.1 (by rw [← szb]; exact f3.1)
      · rw [hT4 g hg, f3.2 g (.inl hg), hTb g hg, fa.2 g (.inl hg)]
    | ret =>
      obtain ⟨f3, hi3⟩ := hp
      obtain ⟨W4, hr, h4, hl4, hk4⟩ := fin (some .ret) W3 f3
      exact ⟨_, W4, hr, .inr ⟨rfl, .ret, by rw [h4]; exact (hIx _).put _ hi3 tL, hl4, hk4⟩⟩
    | exit id =>
      obtain ⟨f3, hi3⟩ := hp
      obtain ⟨W4, hr, h4, hl4, hk4⟩ := fin (some (.exit id)) W3 f3
      exact ⟨_, W4, hr, .inr ⟨rfl, .exit id, by rw [h4]; exact (hIx _).put _ hi3 tL, hl4, hk4⟩⟩
    | goto t =>
      obtain ⟨f3, hi3⟩ := hp
      obtain ⟨W4, hr, h4, hl4, hk4⟩ := fin (some (.goto t)) W3 f3
      exact ⟨_, W4, hr, .inr ⟨rfl, .goto t, by rw [h4]; exact (hIx _).put _ hi3 tL, hl4, hk4⟩⟩
    | panic ch => exact hp.elim
    | outgrown => exact hp.elim
  · rintro e W2 ⟨⟨v, rfl⟩, (⟨xs, hS, hi, hl, hk⟩ | ⟨pre, hSp, c, hi, hl, hk⟩)⟩
    · refine ⟨none, W2.putObj (D + 1) (.loop (rec .exhausted none)), ?_, hdone xs _ hS (hI.put _ hi tL) ((World.putObj_heap_other (by omega)).trans hk)⟩
      have := run_endLoop (P := P) hl (by rw [hrec]; simp)
      rw [hrec] at this ⊢
      exact this
    · refine ⟨some c, W2.putObj (D + 1) (.loop (rec .exhausted (some c))), ?_, hstop c pre _ hSp ((hIx c).put _ hi tL) ((World.putObj_heap_other (by omega)).trans hk)⟩
      have := run_endLoop (P := P) hl (by rw [hrec]; simp)
      rw [hrec] at this ⊢
      exact this
end Go.Proofs.Ytbcpfgcpekfgiaa
