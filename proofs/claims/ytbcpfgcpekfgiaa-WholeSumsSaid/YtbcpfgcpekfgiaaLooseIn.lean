/- Loose's regions inside the wide fence: a region that draws its order, loads and calls ahead of a tail in one forced order (which may hold an iterator's yield). -/
import Derived.Test.YtbcpfgcpekfgiaaLoose
import Derived.OrdersIn
import Derived.TacticsInMore
namespace Go.Proofs.Ytbcpfgcpekfgiaa
open Go Go.RowKit
section
variable {P : Program} {ops : Array Oper} {md : Region.Mode} {W0 : World} {n : Nat}
theorem opL_soundIn {K : Laid → Act → Prop} {K' : Act → World → Prop} {Q : Exit → Act → World → Prop} {o : Oper} {i : Nat} (ho : ops[i]? = some o) (hK : ∀ G a w, Stands W0 G w → K G a → K' a w)
    {G : Laid} {a : Act} {w : World} (hs : Stands W0 G w) (h : opL P ops W0 K o G a) : wpOpIn Fence.wide n P ops Q i K' a w := by
  unfold wpOpIn
  simp only [ho]
  unfold opL at h
  split at h
  · obtain ⟨hw, hl, hk⟩ := h
    simp only [hw, if_true]
    refine ⟨fun _ _ => trivial, ?_⟩
    show o.uponIn Fence.wide n P a K' Q ((execOp a.eval o).run P w)
    rw [hl w, Oper.uponIn_value]
    exact hK _ _ _ (hs.new _ _) (hk _ hs.1.size (fun x hx e => by have := hs.lt hx; omega))
  · rcases h with ⟨hw, v, hl, hk⟩ | ⟨hw, hk⟩
    · simp only [hw, if_true]
      refine ⟨fun _ _ => trivial, ?_⟩
      show o.uponIn Fence.wide n P a K' Q ((execOp a.eval o).run P w)
      have h1 := hl w hs
      generalize (execOp a.eval o).run P w = r at h1
      cases r with
      | ok nx w' =>
        cases nx <;> simp only [looseUpon] at h1 <;> simp only [Oper.uponIn]
        case value u => obtain ⟨rfl, rfl⟩ := h1; exact hK _ _ _ hs hk
        case skip => obtain ⟨rfl, rfl⟩ := h1; exact hK _ _ _ hs hk
        case enter f args =>
          obtain ⟨rfl, hc⟩ := h1
          refine ⟨fun hd => (by cases hd), callsIn_wide.2 (hc.mono fun e w'' ⟨he, hb⟩ => by subst he; exact hK _ _ _ (hs.step hb) hk)⟩
      | halt x w' => simp only [looseUpon] at h1
    · simp only [hw, Bool.false_eq_true, if_false]
      exact ⟨fun _ _ => trivial, hK _ _ _ hs hk⟩
theorem anyL_soundIn {Hd : Nat → Bool} {g : Nat} {L : Array Bool → Laid → Act → Prop} {Q : Exit → Act → World → Prop} (hL : ∀ listed G a w, Stands W0 G w → L listed G a → wpAnyIn Fence.wide n P md ops Q g listed a w) :
    ∀ (f : Nat) (listed : Array Bool) (G : Laid) (a : Act) (w : World), Stands W0 G w → anyL P md ops W0 Hd L f listed G a → wpAnyIn Fence.wide n P md ops Q (f + g) listed a w
  | 0, _, _, _, _, hs, h => by rw [Nat.zero_add]; exact hL _ _ _ _ hs h
  | f + 1, listed, G, a, w, hs, h => by
    rw [show f + 1 + g = (f + g) + 1 by omega]
    refine ⟨fun h0 => absurd h0 h.1, fun i hi => ?_⟩
    obtain ⟨_, o, ho, h1⟩ := h.2 i hi
    exact opL_soundIn ho (fun G a w hs h => anyL_soundIn hL f _ G a w hs h) hs h1
theorem wpAnyIn_of_seq {m : Nat} {Q' : Exit → Act → World → Prop} : ∀ (l : List Oper) (k : Nat) (listed : Array Bool) (a : Act) (w : World), (∀ j, l[j]? = ops[k + j]?) →
    Region.seqB md ops l.length k listed = true → wpListIn Fence.wide m P ops Q' l a w → wpAnyIn Fence.wide m P md ops Q' l.length listed a w
  | [], _, _, _, _, _, hB, h => ⟨by simpa [Region.seqB] using hB, h⟩
  | o :: l, k, listed, a, w, hl, hB, h => by
    have h0 : ops[k]? = some o := by simpa using (hl 0).symm
    simp only [List.length_cons, Region.seqB, Bool.and_eq_true, decide_eq_true_eq] at hB
    refine ⟨fun h1 => (by rw [hB.1] at h1; cases h1), fun i hi => ?_⟩
    rw [hB.1] at hi
    have hik : i = k := by simpa using hi
    subst hik
    have hw : wpOpIn Fence.wide m P ops Q' i (wpListIn Fence.wide m P ops Q' l) a w := by unfold wpOpIn; simp only [h0]; exact h
    exact wpOpIn_mono (fun a' w' h' => wpAnyIn_of_seq l (i + 1) _ a' w' (fun j => by have := hl (j + 1); simpa [Nat.add_assoc, Nat.add_comm 1 j] using this) hB.2 h') hw
/-- Whatever order the mode lets a region draw. -/
def DrawnIn (m : Nat) (P : Program) (md : Region.Mode) (ops : Array Oper) (Q : Exit → Act → World → Prop) (a : Act) (w : World) : Prop := wpAnyIn Fence.wide m P md ops Q ops.size (Array.replicate ops.size false) a w.drew
theorem drawnIn_loose {Q : Exit → Act → World → Prop} {a : Act} {w : World} {l : List Oper} {m : Nat} (n : Nat) (hB : looseB md l.toArray n = true)
    (h : walk1 P l.toArray w (walk2 P l.toArray w (fun G a' => ∀ W, Stands w G W → wpListIn Fence.wide m P l.toArray Q (l.drop n) a' W) (at_ l.toArray (ord2 l.toArray n)) []) (at_ l.toArray (ord1 l.toArray n)) a) :
    DrawnIn m P md l.toArray Q a w := by
  simp only [looseB, Bool.and_eq_true, Bool.or_eq_true, decide_eq_true_eq] at hB
  obtain ⟨⟨⟨hsel, hn⟩, hs⟩, hord⟩ := hB
  have hH : ∀ t, decide (t < n) = false → n ≤ t := fun t ht => by simpa using ht
  have ht : TailWaits md l.toArray (fun i => decide (i < n)) := by
    intro listed inv i hi hun t htn
    have hi := of_decide_eq_true hi
    have htn := hH t htn
    have inv : HeadInv md l.toArray n listed := ⟨inv.size, inv.closed, fun t ht1 ht2 => inv.tail t (by simpa using ht1) ht2⟩
    rcases hs with hs | ⟨h1, h2⟩
    · intro hr
      obtain ⟨_, o, ho, _⟩ := mem_ready.1 hr
      have := (Array.getElem?_eq_some_iff.1 ho).1
      omega
    · rcases Nat.lt_or_ge n l.toArray.size with hlt | hge
      · exact tail_waits h1 h2 hlt inv _ i rfl hi hun t htn
      · intro hr
        obtain ⟨_, o, ho, _⟩ := mem_ready.1 hr
        have := (Array.getElem?_eq_some_iff.1 ho).1
        omega
  have inv0 : HInv md l.toArray (fun i => decide (i < n)) (Array.replicate l.toArray.size false) :=
    ⟨by simp, fun j oj _ hl => (by rw [getD_replicate_false] at hl; cases hl), fun t _ ht => getD_in (by simpa using ht) (getD_replicate_false _ _)⟩
  have H := anyL_ord (md := md) (P := P) (W0 := w) (F := Region.seqB md l.toArray (l.toArray.size - n) n) (fun listed h j hj => by have := seqB_ready h j hj; simpa using this) (Lq := fun G a' => ∀ W, Stands w G W → wpListIn Fence.wide m P l.toArray Q (l.drop n) a' W) (fun G G' a hG hh W hW => hh W (hW.fewer (fun x hx => (hG x).1 hx))) hsel ht (ord2 l.toArray n)
    (fun k hk => by simpa using (List.mem_filter.1 hk).2) (ord1 l.toArray n) _ a (fun k hk => by simpa using (List.mem_filter.1 hk).2)
    (fun j oj hj hjn _ => by
      cases hl : laysB oj with
      | true => exact .inl rfl
      | false => exact .inr (List.mem_filter.2 ⟨List.mem_range.2 (of_decide_eq_true hjn), by simp [layAt, hj, hl]⟩)) inv0 hord h
  have hlen : (ord1 l.toArray n ++ ord2 l.toArray n).length = n := by
    have := List.length_eq_countP_add_countP (fun k => layAt l.toArray k) (l := List.range n)
    simp only [ord1, ord2, List.length_append, ← List.countP_eq_length_filter]
    rw [List.length_range] at this
    simp only [Bool.not_eq_true] at this
    have e : (fun k => !layAt l.toArray k) = (fun k => decide (layAt l.toArray k = false)) := by funext k; cases layAt l.toArray k <;> rfl
    rw [e]
    omega
  have hdl : (l.drop n).length = l.toArray.size - n := by simp
  have := anyL_soundIn (n := m) (Q := Q) (g := l.toArray.size - n) (fun listed G a' W hW hh => by
    have := wpAnyIn_of_seq (m := m) (md := md) (Q' := Q) (l.drop n) n listed a' W (fun j => by simp [List.getElem?_drop]) (by rw [hdl]; exact hh.1) (hh.2 W hW)
    rwa [hdl] at this) _ _ _ _ w.drew ⟨(Below.refl _ _).drew, fun x hx => by cases hx⟩ H
  rw [hlen, show n + (l.toArray.size - n) = l.toArray.size by omega] at this
  exact this
theorem drawnIn_loose' {Q : Exit → Act → World → Prop} {a : Act} {w : World} {l : List Oper} {m : Nat} (n : Nat) (hB : looseB md l.toArray n = true)
    (h : walk1 P l.toArray w (walk2 P l.toArray w (fun G a' => ∀ W, Stands w G W → wpListIn Fence.wide m P l.toArray Q (l.drop n) a' W) ((l.take n).filter laysB) []) ((l.take n).filter fun o => !laysB o) a) :
    DrawnIn m P md l.toArray Q a w := by
  refine drawnIn_loose n hB ?_
  have hn : n ≤ l.length := by
    simp only [looseB, Bool.and_eq_true, decide_eq_true_eq] at hB
    simpa using hB.1.1.2
  unfold ord1 ord2
  rw [take_at hn laysB (fun k => layAt l.toArray k) (fun k o ho => by simp [layAt, ho]), take_at hn (fun o => !laysB o) (fun k => !layAt l.toArray k) (fun k o ho => by simp [layAt, ho])]
  exact h

/-- The same where nothing is laid. -/
theorem drawnIn_calls {Q : Exit → Act → World → Prop} {a : Act} {w : World} {l : List Oper} {m : Nat} (n : Nat) (hB : (looseB md l.toArray n && (l.take n).all fun o => !laysB o) = true)
    (h : walk1 P l.toArray w (fun a' => ∀ W, Below w.heap.size w W → wpListIn Fence.wide m P l.toArray Q (l.drop n) a' W) (l.take n) a) :
    DrawnIn m P md l.toArray Q a w := by
  simp only [Bool.and_eq_true] at hB
  obtain ⟨hB, hn⟩ := hB
  refine drawnIn_loose' n hB ?_
  have e1 : (l.take n).filter laysB = [] := List.filter_eq_nil_iff.2 fun o ho => by have := List.all_eq_true.1 hn o ho; simpa using this
  have e2 : ((l.take n).filter fun o => !laysB o) = l.take n := List.filter_eq_self.2 fun o ho => List.all_eq_true.1 hn o ho
  rw [e1, e2]
  have mono : ∀ (l' : List Oper) (a : Act), walk1 P l.toArray w (fun a' => ∀ W, Below w.heap.size w W → wpListIn Fence.wide m P l.toArray Q (l.drop n) a' W) l' a →
      walk1 P l.toArray w (walk2 P l.toArray w (fun G a' => ∀ W, Stands w G W → wpListIn Fence.wide m P l.toArray Q (l.drop n) a' W) [] []) l' a := by
    intro l'
    induction l' with
    | nil => intro a h W hW; exact h W hW.1
    | cons o l' ih => intro a h; obtain ⟨v, h1, h2⟩ := h; exact ⟨v, h1, ih _ h2⟩
  exact mono _ _ h
theorem wpIn_region_calls {id m : Nat} {Q : Exit → Act → World → Prop} {a : Act} {w : World} {l : List Oper} (n : Nat) (hm : P.follows .mixedOrders = true) (hB : (looseB .any l.toArray n && (l.take n).all fun o => !laysB o) = true)
    (h : walk1 P l.toArray w (fun a' => ∀ W, Below w.heap.size w W → wpListIn Fence.wide m P l.toArray Q (l.drop n) a' W) (l.take n) a) :
    (Code.region id l.toArray true).wpIn Fence.wide m P Q a w := wpIn_region_any hm (drawnIn_calls n hB h)
end
end Go.Proofs.Ytbcpfgcpekfgiaa
