/- A region that draws its order: loads, arithmetic, and calls that turn nothing that was there, in whatever order; new variables may be laid beside them; a tail of stores or assignments in one forced order ends it. One walk in one order serves every order. Nothing here speaks of a program. -/
import Derived.StillTail
import Derived.Tactics
import Derived.Below
import Derived.Laws.Rows
import Derived.Laws.MakeOwn
namespace Go.Proofs.Ytbcpfgcpekfgiaa
open Go Go.RowKit

/-- The blocks that a region has laid itself: number, cells, element type. -/
abbrev Laid := List (Nat × Array Value × TypeId)

/-- The worlds in which a region may stand: what lay when it began lies as it lay, and the blocks that it laid lie as they were laid. -/
def Stands (W0 : World) (G : Laid) (W : World) : Prop := Below W0.heap.size W0 W ∧ ∀ x ∈ G, W.heap[x.1]? = some (.cells x.2.1 x.2.2 (0, 0))

theorem Stands.lt {W0 W : World} {G : Laid} (h : Stands W0 G W) {x : Nat × Array Value × TypeId} (hx : x ∈ G) : x.1 < W.heap.size := by
  have := h.2 x hx
  rcases Nat.lt_or_ge x.1 W.heap.size with h' | h'
  · exact h'
  · rw [Array.getElem?_eq_none h'] at this; cases this

theorem Stands.step {W0 W W' : World} {G : Laid} (h : Stands W0 G W) (hb : Below W.heap.size W W') : Stands W0 G W' :=
  ⟨h.1.trans (hb.mono h.1.size), fun x hx => (hb.block x.1 (h.lt hx)).trans (h.2 x hx)⟩

theorem Stands.new {W0 W : World} {G : Laid} (h : Stands W0 G W) (z : Array Value) (t : TypeId) : Stands W0 ((W.heap.size, z, t) :: G) (W.alloc (.cells z t)) :=
  ⟨h.1.alloc h.1.size _, fun x hx => by
    rcases List.mem_cons.1 hx with rfl | hx
    · show (W.heap.push _)[W.heap.size]? = _
      simp
    · exact (Below.heap_alloc W _ x.1 (h.lt hx)).trans (h.2 x hx)⟩

theorem Stands.fewer {W0 W : World} {G G' : Laid} (h : Stands W0 G W) (hs : ∀ x ∈ G', x ∈ G) : Stands W0 G' W := ⟨h.1, fun x hx => h.2 x (hs x hx)⟩

section
variable {P : Program} {ops : Array Oper} {md : Region.Mode} {W0 : World}

/-- What an operation that runs loosely has yielded: a value in the world that it got; or a call that hands the value back and turns nothing that was there. -/
def looseUpon (P : Program) (w : World) (v : Value) : Result Next → Prop
  | .ok (.value u) w' => w' = w ∧ u = v
  | .ok .skip w' => w' = w ∧ v = undef
  | .ok (.enter f args) w' => w' = w ∧ Calls P f args w (fun e w'' => e = .returned v ∧ Below w.heap.size w w'')
  | _ => False

/-- One value, wherever the region stands. -/
def Loose (P : Program) (o : Oper) (a : Act) (W0 : World) (G : Laid) (v : Value) : Prop := ∀ w, Stands W0 G w → looseUpon P w v ((execOp a.eval o).run P w)

def laysB (o : Oper) : Bool := match o.op with | .alloc _ => true | .makeSlice _ (.const (.int _ _)) (.const (.int _ _)) => true | _ => false
/-- What names the new block. -/
def pof (o : Oper) (g : Nat) : Value := match o.op with | .makeSlice _ (.const (.int _ n)) (.const (.int _ m)) => .slice (some ⟨g, 0, none⟩) n.toNat m.toNat | _ => .pointer (some ⟨g, 0, none⟩)
/-- The cells that a new variable begins with, and their type. -/
def zof (P : Program) (o : Oper) : Array Value × TypeId :=
  match o.op with
  | .alloc t => (match (P.info? t).bind (·.zero) with | some z => z.cells | none => #[], t)
  | .makeSlice t (.const (.int _ _)) (.const (.int _ m)) => (match P.underlying t with
    | some (.slice e) => (match P.info? e with | some i => (match i.zero with | some z => madeCells z.cells (m.toNat * i.size) | none => #[], e) | none => (#[], 0))
    | _ => (#[], 0))
  | _ => (#[], 0)
def Lays (P : Program) (o : Oper) (a : Act) : Prop := ∀ w, (execOp a.eval o).run P w = .ok (.value (pof o w.heap.size)) (w.alloc (.cells (zof P o).1 (zof P o).2))

/-- One operation, in a frame: what follows is asked of the frame behind it. -/
def opL (P : Program) (ops : Array Oper) (W0 : World) (K : Laid → Act → Prop) (o : Oper) (G : Laid) (a : Act) : Prop :=
  if laysB o then Region.wanted o (yielded ops a.tmps) = true ∧ Lays P o a ∧ ∀ g, W0.heap.size ≤ g → (∀ x ∈ G, x.1 ≠ g) → K ((g, zof P o) :: G) (a.put o.dst (pof o g))
  else (Region.wanted o (yielded ops a.tmps) = true ∧ ∃ v, Loose P o a W0 G v ∧ K G (a.put o.dst v)) ∨ (Region.wanted o (yielded ops a.tmps) = false ∧ K G (a.put o.dst undef))

/-- Whatever order is picked from here on, as far as the operations of the head go (H). -/
def anyL (P : Program) (md : Region.Mode) (ops : Array Oper) (W0 : World) (Hd : Nat → Bool) (L : Array Bool → Laid → Act → Prop) : Nat → Array Bool → Laid → Act → Prop
  | 0, listed, G, a => L listed G a
  | f + 1, listed, G, a => Region.ready md ops listed ≠ [] ∧ ∀ i ∈ Region.ready md ops listed, Hd i = true ∧ ∃ o, ops[i]? = some o ∧ opL P ops W0 (anyL P md ops W0 Hd L f (listed.setIfInBounds i true)) o G a

theorem opL_sound {K : Laid → Act → Prop} {K' : Act → World → Prop} {Q : Exit → Act → World → Prop} {o : Oper} {i : Nat} (ho : ops[i]? = some o) (hK : ∀ G a w, Stands W0 G w → K G a → K' a w)
    {G : Laid} {a : Act} {w : World} (hs : Stands W0 G w) (h : opL P ops W0 K o G a) : wpOp P ops Q i K' a w := by
  unfold wpOp
  simp only [ho]
  unfold opL at h
  split at h
  · obtain ⟨hw, hl, hk⟩ := h
    simp only [hw, if_true]
    left
    unfold Oper.wp
    rw [hl w, Oper.upon_value]
    exact hK _ _ _ (hs.new _ _) (hk _ hs.1.size (fun x hx e => by have := hs.lt hx; omega))
  · rcases h with ⟨hw, v, hl, hk⟩ | ⟨hw, hk⟩
    · simp only [hw, if_true]
      left
      have h1 := hl w hs
      unfold Oper.wp
      generalize (execOp a.eval o).run P w = r at h1
      cases r with
      | ok nx w' =>
        cases nx <;> simp only [looseUpon] at h1 <;> simp only [Oper.upon]
        case value u => obtain ⟨rfl, rfl⟩ := h1; exact hK _ _ _ hs hk
        case skip => obtain ⟨rfl, rfl⟩ := h1; exact hK _ _ _ hs hk
        case enter f args =>
          obtain ⟨rfl, hc⟩ := h1
          exact hc.mono fun e w'' ⟨he, hb⟩ => by subst he; exact hK _ _ _ (hs.step hb) hk
      | halt x w' => simp only [looseUpon] at h1
    · simp only [hw, Bool.false_eq_true, if_false]
      exact hK _ _ _ hs hk

theorem anyL_sound {Hd : Nat → Bool} {g : Nat} {L : Array Bool → Laid → Act → Prop} {Q : Exit → Act → World → Prop} (hL : ∀ listed G a w, Stands W0 G w → L listed G a → wpAny P md ops Q g listed a w) :
    ∀ (f : Nat) (listed : Array Bool) (G : Laid) (a : Act) (w : World), Stands W0 G w → anyL P md ops W0 Hd L f listed G a → wpAny P md ops Q (f + g) listed a w
  | 0, _, _, _, _, hs, h => by rw [Nat.zero_add]; exact hL _ _ _ _ hs h
  | f + 1, listed, G, a, w, hs, h => by
    rw [show f + 1 + g = (f + g) + 1 by omega]
    refine ⟨fun h0 => absurd h0 h.1, fun i hi => ?_⟩
    obtain ⟨_, o, ho, h1⟩ := h.2 i hi
    exact opL_sound ho (fun G a w hs h => anyL_sound hL f _ G a w hs h) hs h1

theorem opL_mono {K K' : Laid → Act → Prop} {o : Oper} {G : Laid} {a : Act} (hK : ∀ G a, K G a → K' G a) (h : opL P ops W0 K o G a) : opL P ops W0 K' o G a := by
  unfold opL at *
  split
  · rename_i hl
    rw [if_pos hl] at h
    exact ⟨h.1, h.2.1, fun g h1 h2 => hK _ _ (h.2.2 g h1 h2)⟩
  · rename_i hl
    rw [if_neg hl] at h
    rcases h with ⟨hw, v, h1, h2⟩ | ⟨hw, h2⟩
    · exact .inl ⟨hw, v, h1, hK _ _ h2⟩
    · exact .inr ⟨hw, hK _ _ h2⟩

/-- In which order the blocks were laid makes no difference. -/
theorem anyL_perm {Hd : Nat → Bool} {L : Array Bool → Laid → Act → Prop} (hL : ∀ listed G G' a, (∀ x, x ∈ G ↔ x ∈ G') → L listed G a → L listed G' a) :
    ∀ (f : Nat) (listed : Array Bool) (G G' : Laid) (a : Act), (∀ x, x ∈ G ↔ x ∈ G') → anyL P md ops W0 Hd L f listed G a → anyL P md ops W0 Hd L f listed G' a
  | 0, _, _, _, _, hG, h => hL _ _ _ _ hG h
  | f + 1, listed, G, G', a, hG, h => by
    refine ⟨h.1, fun i hi => ?_⟩
    obtain ⟨hin, o, ho, h1⟩ := h.2 i hi
    refine ⟨hin, o, ho, ?_⟩
    unfold opL at h1 ⊢
    split
    · rename_i hl
      rw [if_pos hl] at h1
      exact ⟨h1.1, h1.2.1, fun g h2 h3 => anyL_perm hL f _ _ _ _ (fun x => by simp only [List.mem_cons, hG x]) (h1.2.2 g h2 (fun x hx => h3 x ((hG x).1 hx)))⟩
    · rename_i hl
      rw [if_neg hl] at h1
      rcases h1 with ⟨hw, v, h2, h3⟩ | ⟨hw, h3⟩
      · exact .inl ⟨hw, v, fun w hs => h2 w (hs.fewer (fun x hx => (hG x).1 hx)), anyL_perm hL f _ _ _ _ hG h3⟩
      · exact .inr ⟨hw, anyL_perm hL f _ _ _ _ hG h3⟩

/-- What an operation that lays nothing yields in a frame, wherever the region stands. -/
def YieldsL (P : Program) (ops : Array Oper) (W0 : World) (o : Oper) (v : Value) (a : Act) : Prop :=
  (Region.wanted o (yielded ops a.tmps) = true ∧ Loose P o a W0 [] v) ∨ (Region.wanted o (yielded ops a.tmps) = false ∧ v = undef)

theorem YieldsL.put {oi oj : Oper} {v : Value} {a : Act} (hs : ∀ cs b, oi.op ≠ .select cs b) (hy : YieldsL P ops W0 oi v a) (h3 : ∀ d, oj.dst = some d → d ∉ oi.looksAt ops) (u : Value) : YieldsL P ops W0 oi v (a.put oj.dst u) := by
  unfold YieldsL Loose at *
  rw [wanted_put oi a oj.dst u h3]
  rcases hy with ⟨hw, hl⟩ | h
  · refine .inl ⟨hw, fun w hW => ?_⟩
    rw [execOp_put oi hs a oj.dst u h3]
    exact hl w hW
  · exact .inr h

theorem YieldsL.opL {o : Oper} {v : Value} {a : Act} {G : Laid} {K : Laid → Act → Prop} (hn : laysB o = false) (hy : YieldsL P ops W0 o v a) (h : K G (a.put o.dst v)) : opL P ops W0 K o G a := by
  unfold Go.Proofs.Ytbcpfgcpekfgiaa.opL
  simp only [hn, Bool.false_eq_true, if_false]
  rcases hy with ⟨hw, hl⟩ | ⟨hw, rfl⟩
  · exact .inl ⟨hw, v, fun w hs => hl w (hs.fewer (fun x hx => by cases hx)), h⟩
  · exact .inr ⟨hw, h⟩

/-- Another operation's value, already in its temporary or not, makes no difference. -/
theorem opL_put {oi oj : Oper} {v : Value} {a : Act} {G : Laid} {K : Laid → Act → Prop} (hap : oi.apart ops oj = true) (hsj : ∀ cs b, oj.op ≠ .select cs b)
    (h : opL P ops W0 K oj G (a.put oi.dst v)) : opL P ops W0 (fun G' a' => K G' (a'.put oi.dst v)) oj G a := by
  obtain ⟨h1, h2, _⟩ := Oper.apart_spec hap
  unfold opL Loose Lays at *
  rw [wanted_put oj a oi.dst v h1, execOp_put oj hsj a oi.dst v h1] at h
  split
  · rename_i hl
    rw [if_pos hl] at h
    exact ⟨h.1, h.2.1, fun g h3 h4 => by show K _ _; rw [← Act.put_comm a v _ h2]; exact h.2.2 g h3 h4⟩
  · rename_i hl
    rw [if_neg hl] at h
    rcases h with ⟨hw, u, h3, h4⟩ | ⟨hw, h4⟩
    · exact .inl ⟨hw, u, h3, by show K _ _; rw [← Act.put_comm a v u h2]; exact h4⟩
    · exact .inr ⟨hw, by show K _ _; rw [← Act.put_comm a v undef h2]; exact h4⟩

/-- What is asked of the frame alone may be kept beside. -/
theorem opL_and {K : Laid → Act → Prop} {R : Act → Prop} {o : Oper} {G : Laid} {a : Act} (hR : ∀ u, R (a.put o.dst u)) (h : opL P ops W0 K o G a) : opL P ops W0 (fun G' a' => R a' ∧ K G' a') o G a := by
  unfold opL at *
  split
  · rename_i hl
    rw [if_pos hl] at h
    exact ⟨h.1, h.2.1, fun g h3 h4 => ⟨hR _, h.2.2 g h3 h4⟩⟩
  · rename_i hl
    rw [if_neg hl] at h
    rcases h with ⟨hw, u, h3, h4⟩ | ⟨hw, h4⟩
    · exact .inl ⟨hw, u, h3, hR _, h4⟩
    · exact .inr ⟨hw, hR _, h4⟩

/-- What holds of the list as long as the head comes up: it is closed under the edges, and holds none of the tail. -/
structure HInv (md : Region.Mode) (ops : Array Oper) (Hd : Nat → Bool) (listed : Array Bool) : Prop where
  size : listed.size = ops.size
  closed : ∀ j oj, ops[j]? = some oj → listed.getD j false = true → ∀ e ∈ oj.after, Region.binds md e = true → listed.getD e.on false = true
  tail : ∀ t, Hd t = false → t < ops.size → listed.getD t true = false
theorem HInv.set {Hd : Nat → Bool} {i : Nat} {listed : Array Bool} (inv : HInv md ops Hd listed) (hi : i ∈ Region.ready md ops listed) (hin : Hd i = true) : HInv md ops Hd (listed.setIfInBounds i true) := by
  obtain ⟨_, oi, hoi, hall⟩ := mem_ready.1 hi
  refine ⟨by simp [inv.size], fun j oj hj hl e he hb => ?_, fun t ht ht' => by
    rw [getD_set_ne true (fun e => by rw [e, ht] at hin; cases hin)]; exact inv.tail t ht ht'⟩
  by_cases hij : i = j
  · subst hij
    have : oj = oi := Option.some.inj (hj.symm.trans hoi)
    subst this
    exact getD_set_true (hall e he hb)
  · rw [getD_set_ne false hij] at hl
    exact getD_set_true (inv.closed j oj hj hl e he hb)
/-- None of the tail comes up as long as one of the head has not. -/
def TailWaits (md : Region.Mode) (ops : Array Oper) (Hd : Nat → Bool) : Prop := ∀ listed, HInv md ops Hd listed → ∀ i, Hd i = true → listed.getD i true = false → ∀ t, Hd t = false → t ∉ Region.ready md ops listed

/-- An operation that lays nothing may be taken first. -/
theorem anyL_first {Hd : Nat → Bool} {i : Nat} {oi : Oper} {v : Value} {L : Array Bool → Laid → Act → Prop} (hi : ops[i]? = some oi) (hsel : ∀ (j : Nat) (o : Oper) cs b, ops[j]? = some o → o.op ≠ .select cs b)
    (ht : TailWaits md ops Hd) (hin : Hd i = true) (hni : laysB oi = false) (hdone : ∀ listed G a, L listed G a → ∀ j ∈ Region.ready md ops listed, Hd j = false) :
    ∀ (f : Nat) (listed : Array Bool) (G : Laid) (a : Act), HInv md ops Hd listed →
      (∀ j oj, ops[j]? = some oj → j ≠ i → listed.getD j true = false → (∀ e ∈ oj.after, Region.binds md e = true → e.on ≠ i) → oi.apart ops oj = true) →
      i ∈ Region.ready md ops listed → YieldsL P ops W0 oi v a →
      anyL P md ops W0 Hd L f (listed.setIfInBounds i true) G (a.put oi.dst v) → anyL P md ops W0 Hd L (f + 1) listed G a := by
  intro f
  induction f with
  | zero =>
    intro listed G a inv _ hr hy H
    have hun := (mem_ready.1 hr).1
    refine ⟨fun h => (by rw [h] at hr; cases hr), fun j hj => ?_⟩
    have hjn : Hd j = true := by
      rcases (Hd j).eq_false_or_eq_true with h | h
      · exact h
      · exact absurd hj (ht listed inv i hin hun j h)
    by_cases hji : j = i
    · subst hji; exact ⟨hjn, oi, hi, hy.opL hni H⟩
    · have := hdone _ _ _ H j (ready_mono hj hji)
      rw [this] at hjn; cases hjn
  | succ f ih =>
    intro listed G a inv hfree hr hy H
    have hun := (mem_ready.1 hr).1
    refine ⟨fun h => (by rw [h] at hr; cases hr), fun j hj => ?_⟩
    have hjn : Hd j = true := by
      rcases (Hd j).eq_false_or_eq_true with h | h
      · exact h
      · exact absurd hj (ht listed inv i hin hun j h)
    by_cases hji : j = i
    · subst hji; exact ⟨hjn, oi, hi, hy.opL hni H⟩
    · obtain ⟨_, oj', hoj', h1⟩ := H.2 j (ready_mono hj hji)
      obtain ⟨hjun, oj, hoj, hall⟩ := mem_ready.1 hj
      have hoe : oj' = oj := Option.some.inj (hoj'.symm.trans hoj)
      subst hoe
      have hnot : ∀ e ∈ oj'.after, Region.binds md e = true → e.on ≠ i := fun e he hb heq => by
        have h1 := hall e he hb
        rw [heq, getD_both hun] at h1
        cases h1
      have hap := hfree j oj' hoj hji hjun hnot
      have hfree' : ∀ k ok, ops[k]? = some ok → k ≠ i → (listed.setIfInBounds j true).getD k true = false →
          (∀ e ∈ ok.after, Region.binds md e = true → e.on ≠ i) → oi.apart ops ok = true := fun k ok hk hki hun' hno => by
        refine hfree k ok hk hki ?_ hno
        by_cases hjk : j = k
        · subst hjk; exact hjun
        · rw [getD_set_ne true hjk] at hun'; exact hun'
      refine ⟨hjn, oj', hoj, ?_⟩
      have h2 := opL_and (R := YieldsL P ops W0 oi v) (fun u => hy.put (fun cs b => hsel i oi cs b hi) (Oper.apart_spec hap).2.2 u) (opL_put hap (fun cs b => hsel j oj' cs b hoj) h1)
      refine opL_mono (fun G' a' h3 => ih (listed.setIfInBounds j true) G' a' (inv.set hj hjn) hfree' (ready_mono hr (Ne.symm hji)) h3.1 ?_) h2
      rw [Array.setIfInBounds_comm _ _ hji]
      exact h3.2

theorem fresh_block (B : Nat) (G : Laid) : ∃ g, B ≤ g ∧ ∀ x ∈ G, x.1 ≠ g := by
  have : ∃ b, B ≤ b ∧ ∀ x ∈ G, x.1 < b := by
    induction G with
    | nil => exact ⟨B, Nat.le_refl _, fun x hx => by cases hx⟩
    | cons y G ih =>
      obtain ⟨b, h1, h2⟩ := ih
      refine ⟨b + y.1 + 1, by omega, fun x hx => ?_⟩
      rcases List.mem_cons.1 hx with rfl | hx
      · omega
      · have := h2 x hx; omega
  obtain ⟨b, h1, h2⟩ := this
  exact ⟨b, h1, fun x hx e => by have := h2 x hx; omega⟩

/-- Where only layings are left ahead of the tail, any of them may be taken first. -/
theorem anyL_firstA {Hd : Nat → Bool} {i : Nat} {oi : Oper} {L : Array Bool → Laid → Act → Prop} (hL : ∀ listed G G' a, (∀ x, x ∈ G ↔ x ∈ G') → L listed G a → L listed G' a)
    (hi : ops[i]? = some oi) (hsel : ∀ (j : Nat) (o : Oper) cs b, ops[j]? = some o → o.op ≠ .select cs b)
    (ht : TailWaits md ops Hd) (hin : Hd i = true) (hli : laysB oi = true) (hdone : ∀ listed G a, L listed G a → ∀ j ∈ Region.ready md ops listed, Hd j = false) :
    ∀ (f : Nat) (listed : Array Bool) (G : Laid) (a : Act), HInv md ops Hd listed →
      (∀ j oj, ops[j]? = some oj → Hd j = true → listed.getD j true = false → laysB oj = true) →
      (∀ j oj, ops[j]? = some oj → j ≠ i → listed.getD j true = false → (∀ e ∈ oj.after, Region.binds md e = true → e.on ≠ i) → oi.apart ops oj = true) →
      i ∈ Region.ready md ops listed → Region.wanted oi (yielded ops a.tmps) = true → Lays P oi a →
      (∀ g, W0.heap.size ≤ g → (∀ x ∈ G, x.1 ≠ g) → anyL P md ops W0 Hd L f (listed.setIfInBounds i true) ((g, zof P oi) :: G) (a.put oi.dst (pof oi g))) → anyL P md ops W0 Hd L (f + 1) listed G a := by
  intro f
  induction f with
  | zero =>
    intro listed G a inv _ _ hr hw hl H
    have hun := (mem_ready.1 hr).1
    refine ⟨fun h => (by rw [h] at hr; cases hr), fun j hj => ?_⟩
    have hjn : Hd j = true := by
      rcases (Hd j).eq_false_or_eq_true with h | h
      · exact h
      · exact absurd hj (ht listed inv i hin hun j h)
    by_cases hji : j = i
    · subst hji
      refine ⟨hjn, oi, hi, ?_⟩
      unfold opL
      rw [if_pos hli]
      exact ⟨hw, hl, H⟩
    · obtain ⟨g, hg1, hg2⟩ := fresh_block W0.heap.size G
      have := hdone _ _ _ (H g hg1 hg2) j (ready_mono hj hji)
      rw [this] at hjn; cases hjn
  | succ f ih =>
    intro listed G a inv hall2 hfree hr hw hl H
    have hun := (mem_ready.1 hr).1
    refine ⟨fun h => (by rw [h] at hr; cases hr), fun j hj => ?_⟩
    have hjn : Hd j = true := by
      rcases (Hd j).eq_false_or_eq_true with h | h
      · exact h
      · exact absurd hj (ht listed inv i hin hun j h)
    by_cases hji : j = i
    · subst hji
      refine ⟨hjn, oi, hi, ?_⟩
      unfold opL
      rw [if_pos hli]
      exact ⟨hw, hl, H⟩
    · obtain ⟨hjun, oj, hoj, hall⟩ := mem_ready.1 hj
      have hnot : ∀ e ∈ oj.after, Region.binds md e = true → e.on ≠ i := fun e he hb heq => by
        have h1 := hall e he hb
        rw [heq, getD_both hun] at h1
        cases h1
      have hap := hfree j oj hoj hji hjun hnot
      obtain ⟨a1, a2, a3⟩ := Oper.apart_spec hap
      have hlj := hall2 j oj hoj hjn hjun
      have hsj : ∀ cs b, oj.op ≠ .select cs b := fun cs b => hsel j oj cs b hoj
      have hfree' : ∀ k ok, ops[k]? = some ok → k ≠ i → (listed.setIfInBounds j true).getD k true = false →
          (∀ e ∈ ok.after, Region.binds md e = true → e.on ≠ i) → oi.apart ops ok = true := fun k ok hk hki hun' hno => by
        refine hfree k ok hk hki ?_ hno
        by_cases hjk : j = k
        · subst hjk; exact hjun
        · rw [getD_set_ne true hjk] at hun'; exact hun'
      have hall2' : ∀ k ok, ops[k]? = some ok → Hd k = true → (listed.setIfInBounds j true).getD k true = false → laysB ok = true := fun k ok hk hkn hun' => by
        refine hall2 k ok hk hkn ?_
        by_cases hjk : j = k
        · subst hjk; exact hjun
        · rw [getD_set_ne true hjk] at hun'; exact hun'
      refine ⟨hjn, oj, hoj, ?_⟩
      have key : ∀ g, W0.heap.size ≤ g → (∀ x ∈ G, x.1 ≠ g) → opL P ops W0 (fun G' a' => anyL P md ops W0 Hd L f ((listed.setIfInBounds i true).setIfInBounds j true) G' (a'.put oi.dst (pof oi g))) oj ((g, zof P oi) :: G) a := fun g hg1 hg2 => by
        obtain ⟨_, oj', hoj', h1⟩ := (H g hg1 hg2).2 j (ready_mono hj hji)
        have hoe : oj' = oj := Option.some.inj (hoj'.symm.trans hoj)
        subst hoe
        exact opL_put hap hsj h1
      unfold opL at key ⊢
      simp only [hlj, if_true] at key ⊢
      obtain ⟨g0, hg1, hg2⟩ := fresh_block W0.heap.size G
      refine ⟨(key g0 hg1 hg2).1, (key g0 hg1 hg2).2.1, fun g' hg1' hg2' => ?_⟩
      refine ih (listed.setIfInBounds j true) _ _ (inv.set hj hjn) hall2' hfree' (ready_mono hr (Ne.symm hji)) ?_ ?_ ?_
      · rw [wanted_put oi a oj.dst _ a3]; exact hw
      · unfold Lays
        rw [execOp_put oi (fun cs b => hsel i oi cs b hi) a oj.dst _ a3]
        exact hl
      · intro g hg3 hg4
        have h5 := (key g hg3 (fun x hx => hg4 x (List.mem_cons_of_mem _ hx))).2.2 g' hg1' (fun x hx => by
          rcases List.mem_cons.1 hx with rfl | hx
          · exact fun e => hg4 _ (List.mem_cons_self ..) e.symm
          · exact hg2' x hx)
        rw [Array.setIfInBounds_comm _ _ hji]
        exact anyL_perm hL f _ _ _ _ (fun x => by simp only [List.mem_cons]; constructor <;> (rintro (h | h | h) <;> simp [h])) h5

/-! ### The walk in one order: first what lays nothing, then the layings, then the tail -/

/-- What lays nothing, in the order of the text. -/
def walk1 (P : Program) (ops : Array Oper) (W0 : World) (K : Act → Prop) : List Oper → Act → Prop
  | [], a => K a
  | o :: rest, a => ∃ v, YieldsL P ops W0 o v a ∧ walk1 P ops W0 K rest (a.put o.dst v)
/-- The layings. -/
def walk2 (P : Program) (ops : Array Oper) (W0 : World) (K : Laid → Act → Prop) : List Oper → Laid → Act → Prop
  | [], G, a => K G a
  | o :: rest, G, a => Region.wanted o (yielded ops a.tmps) = true ∧ Lays P o a ∧ ∀ g, W0.heap.size ≤ g → (∀ x ∈ G, x.1 ≠ g) → walk2 P ops W0 K rest ((g, zof P o) :: G) (a.put o.dst (pof o g))

/-- The numbers in their order come up one by one, each apart from what has not come up and does not wait for it; then the tail, in one forced order. -/
def ordB (md : Region.Mode) (ops : Array Oper) (Hd : Nat → Bool) (F : Array Bool → Bool) : List Nat → Array Bool → Bool
  | [], listed => F listed
  | k :: rest, listed => Hd k && (Region.ready md ops listed).contains k && Region.free md ops listed k && ordB md ops Hd F rest (listed.setIfInBounds k true)

def layAt (ops : Array Oper) (k : Nat) : Bool := match ops[k]? with | some o => laysB o | none => false
def ord1 (ops : Array Oper) (n : Nat) : List Nat := (List.range n).filter fun k => !layAt ops k
def ord2 (ops : Array Oper) (n : Nat) : List Nat := (List.range n).filter fun k => layAt ops k
def at_ (ops : Array Oper) (l : List Nat) : List Oper := l.filterMap fun k => ops[k]?

def looseB (md : Region.Mode) (ops : Array Oper) (n : Nat) : Bool :=
  Region.noSelect ops && decide (n ≤ ops.size) && (decide (n = ops.size) || Region.sinkB md ops n && Region.chainB md ops n) && ordB md ops (fun i => decide (i < n)) (Region.seqB md ops (ops.size - n) n) (ord1 ops n ++ ord2 ops n) (Array.replicate ops.size false)

theorem ordB_tail {Hd : Nat → Bool} {F : Array Bool → Bool} : ∀ (l : List Nat) (listed : Array Bool), ordB md ops Hd F l listed = true → (∀ k ∈ l, Hd k = true)
  | [], _, _ => fun k hk => by cases hk
  | k :: l, listed, h => by
    simp only [ordB, Bool.and_eq_true] at h
    intro j hj
    rcases List.mem_cons.1 hj with rfl | hj
    · exact h.1.1.1
    · exact ordB_tail l _ h.2 j hj

theorem anyL_lays {Hd : Nat → Bool} {F : Array Bool → Bool} (hF : ∀ listed, F listed = true → ∀ j ∈ Region.ready md ops listed, Hd j = false) {Lq : Laid → Act → Prop} (hLq : ∀ G G' a, (∀ x, x ∈ G ↔ x ∈ G') → Lq G a → Lq G' a) (hsel : Region.noSelect ops = true) (ht : TailWaits md ops Hd) :
    ∀ (l : List Nat) (listed : Array Bool) (G : Laid) (a : Act), (∀ k ∈ l, layAt ops k = true) → (∀ j oj, ops[j]? = some oj → Hd j = true → listed.getD j true = false → laysB oj = true) → HInv md ops Hd listed → ordB md ops Hd F l listed = true →
    walk2 P ops W0 Lq (at_ ops l) G a → anyL P md ops W0 Hd (fun listed' G' a' => F listed' = true ∧ Lq G' a') l.length listed G a
  | [], listed, G, a, _, _, _, hB, h => ⟨by simpa [ordB] using hB, h⟩
  | k :: l, listed, G, a, hl, hall, inv, hB, h => by
    simp only [ordB, Bool.and_eq_true] at hB
    obtain ⟨⟨⟨hkn, hr⟩, hf⟩, hB'⟩ := hB
    have hlk := hl k (List.mem_cons_self ..)
    unfold layAt at hlk
    cases hk : ops[k]? with
    | none => rw [hk] at hlk; cases hlk
    | some o =>
      rw [hk] at hlk
      have hat : at_ ops (k :: l) = o :: at_ ops l := by simp [at_, hk]
      rw [hat] at h
      have hr' : k ∈ Region.ready md ops listed := by simpa using hr
      refine anyL_firstA (fun listed' G1 G2 a' hG hh => ⟨hh.1, hLq _ _ _ hG hh.2⟩) hk (Region.noSelect_spec hsel) ht hkn hlk (fun listed' G' a' hh => hF listed' hh.1) l.length listed G a inv hall (Region.free_spec hk hf) hr' h.1 h.2.1 (fun g hg1 hg2 => ?_)
      refine anyL_lays hF hLq hsel ht l _ _ _ (fun j hj => hl j (List.mem_cons_of_mem _ hj)) (fun j oj hj hjn hun => ?_) (inv.set hr' hkn) hB' (h.2.2 g hg1 hg2)
      refine hall j oj hj hjn ?_
      by_cases hjk : k = j
      · subst hjk; exact (mem_ready.1 hr').1
      · rw [getD_set_ne true hjk] at hun; exact hun

theorem getD_set_self {listed : Array Bool} {i : Nat} : (listed.setIfInBounds i true).getD i true = true := by
  rcases Nat.lt_or_ge i listed.size with h | h
  · simp [h]
  · simp [Array.getElem?_eq_none (show (listed.setIfInBounds i true).size ≤ i by simpa using h)]

theorem anyL_ord {Hd : Nat → Bool} {F : Array Bool → Bool} (hF : ∀ listed, F listed = true → ∀ j ∈ Region.ready md ops listed, Hd j = false) {Lq : Laid → Act → Prop} (hLq : ∀ G G' a, (∀ x, x ∈ G ↔ x ∈ G') → Lq G a → Lq G' a) (hsel : Region.noSelect ops = true) (ht : TailWaits md ops Hd) (l2 : List Nat) (hl2 : ∀ k ∈ l2, layAt ops k = true) :
    ∀ (l : List Nat) (listed : Array Bool) (a : Act), (∀ k ∈ l, layAt ops k = false) → (∀ j oj, ops[j]? = some oj → Hd j = true → listed.getD j true = false → laysB oj = true ∨ j ∈ l) → HInv md ops Hd listed → ordB md ops Hd F (l ++ l2) listed = true →
    walk1 P ops W0 (walk2 P ops W0 Lq (at_ ops l2) []) (at_ ops l) a → anyL P md ops W0 Hd (fun listed' G' a' => F listed' = true ∧ Lq G' a') (l ++ l2).length listed [] a
  | [], listed, a, _, hall, inv, hB, h => anyL_lays hF hLq hsel ht l2 listed [] a hl2 (fun j oj hj hjn hun => by rcases hall j oj hj hjn hun with h | h; exact h; cases h) inv hB h
  | k :: l, listed, a, hl, hall, inv, hB, h => by
    simp only [List.cons_append, ordB, Bool.and_eq_true] at hB
    obtain ⟨⟨⟨hkn, hr⟩, hf⟩, hB'⟩ := hB
    have hlk := hl k (List.mem_cons_self ..)
    unfold layAt at hlk
    have hr' : k ∈ Region.ready md ops listed := by simpa using hr
    obtain ⟨_, o, hk, _⟩ := mem_ready.1 hr'
    rw [hk] at hlk
    have hat : at_ ops (k :: l) = o :: at_ ops l := by simp [at_, hk]
    rw [hat] at h
    obtain ⟨v, hy, h⟩ := h
    refine anyL_first hk (Region.noSelect_spec hsel) ht hkn hlk (fun listed' G' a' hh => hF listed' hh.1) (l ++ l2).length listed [] a inv (Region.free_spec hk hf) hr' hy ?_
    refine anyL_ord hF hLq hsel ht l2 hl2 l _ _ (fun j hj => hl j (List.mem_cons_of_mem _ hj)) (fun j oj hj hjn hun => ?_) (inv.set hr' hkn) hB' h
    by_cases hjk : k = j
    · subst hjk; rw [getD_set_self] at hun; cases hun
    · rw [getD_set_ne true hjk] at hun
      rcases hall j oj hj hjn hun with h | h
      · exact .inl h
      · rcases List.mem_cons.1 h with rfl | h
        · exact absurd rfl hjk
        · exact .inr h

/-- Whatever order the mode lets a region draw. -/
def Drawn (P : Program) (md : Region.Mode) (ops : Array Oper) (Q : Exit → Act → World → Prop) (a : Act) (w : World) : Prop := wpAny P md ops Q ops.size (Array.replicate ops.size false) a w.drew

/-- **One walk serves every order.** n: how many operations stand ahead of the tail. -/
theorem drawn_loose {Q : Exit → Act → World → Prop} {a : Act} {w : World} {l : List Oper} (n : Nat) (hB : looseB md l.toArray n = true)
    (h : walk1 P l.toArray w (walk2 P l.toArray w (fun G a' => ∀ W, Stands w G W → wpList P l.toArray Q (l.drop n) a' W) (at_ l.toArray (ord2 l.toArray n)) []) (at_ l.toArray (ord1 l.toArray n)) a) :
    Drawn P md l.toArray Q a w := by
  simp only [looseB, Bool.and_eq_true, Bool.or_eq_true, decide_eq_true_eq] at hB
  obtain ⟨⟨⟨hsel, hn⟩, hs⟩, hord⟩ := hB
  have hH : ∀ t, decide (t < n) = false → n ≤ t := fun t ht => by simpa using ht
  have ht : TailWaits md l.toArray (fun i => decide (i < n)) := by
    intro listed inv i hi hun t htn
    have hi := of_decide_eq_true hi
    have htn := hH t htn
    have inv : HeadInv md l.toArray n listed := ⟨inv.size, inv.closed, fun t ht1 ht2 => inv.tail t (by simpa using ht1) ht2⟩
    rcases hs with hs | ⟨h1, h2⟩
    · intro hr
      obtain ⟨_, o, ho, _⟩ := mem_ready.1 hr
      have := (Array.getElem?_eq_some_iff.1 ho).1
      omega
    · rcases Nat.lt_or_ge n l.toArray.size with hlt | hge
      · exact tail_waits h1 h2 hlt inv _ i rfl hi hun t htn
      · intro hr
        obtain ⟨_, o, ho, _⟩ := mem_ready.1 hr
        have := (Array.getElem?_eq_some_iff.1 ho).1
        omega
  have inv0 : HInv md l.toArray (fun i => decide (i < n)) (Array.replicate l.toArray.size false) :=
    ⟨by simp, fun j oj _ hl => (by rw [getD_replicate_false] at hl; cases hl), fun t _ ht => getD_in (by simpa using ht) (getD_replicate_false _ _)⟩
  have H := anyL_ord (md := md) (P := P) (W0 := w) (F := Region.seqB md l.toArray (l.toArray.size - n) n) (fun listed h j hj => by have := seqB_ready h j hj; simpa using this) (Lq := fun G a' => ∀ W, Stands w G W → wpList P l.toArray Q (l.drop n) a' W) (fun G G' a hG hh W hW => hh W (hW.fewer (fun x hx => (hG x).1 hx))) hsel ht (ord2 l.toArray n)
    (fun k hk => by simpa using (List.mem_filter.1 hk).2) (ord1 l.toArray n) _ a (fun k hk => by simpa using (List.mem_filter.1 hk).2)
    (fun j oj hj hjn _ => by
      cases hl : laysB oj with
      | true => exact .inl rfl
      | false => exact .inr (List.mem_filter.2 ⟨List.mem_range.2 (of_decide_eq_true hjn), by simp [layAt, hj, hl]⟩)) inv0 hord h
  have hlen : (ord1 l.toArray n ++ ord2 l.toArray n).length = n := by
    have := List.length_eq_countP_add_countP (fun k => layAt l.toArray k) (l := List.range n)
    simp only [ord1, ord2, List.length_append, ← List.countP_eq_length_filter]
    rw [List.length_range] at this
    simp only [Bool.not_eq_true] at this
    have e : (fun k => !layAt l.toArray k) = (fun k => decide (layAt l.toArray k = false)) := by funext k; cases layAt l.toArray k <;> rfl
    rw [e]
    omega
  have hdl : (l.drop n).length = l.toArray.size - n := by simp
  have := anyL_sound (Q := Q) (g := l.toArray.size - n) (fun listed G a' W hW hh => by
    have := wpAny_of_seq (md := md) (Q' := Q) (l.drop n) n listed a' W (fun j => by simp [List.getElem?_drop]) (by rw [hdl]; exact hh.1) (hh.2 W hW)
    rwa [hdl] at this) _ _ _ _ w.drew ⟨(Below.refl _ _).drew, fun x hx => by cases hx⟩ H
  rw [hlen, show n + (l.toArray.size - n) = l.toArray.size by omega] at this
  exact this

theorem at_ord (p : Oper → Bool) : ∀ (l pre : List Oper), at_ (pre ++ l).toArray ((List.range' pre.length l.length).filter fun k => match (pre ++ l).toArray[k]? with | some o => p o | none => false) = l.filter p
  | [], pre => by simp [at_]
  | o :: l, pre => by
    have ih := at_ord p l (pre ++ [o])
    simp only [List.append_assoc, List.singleton_append, List.length_append, List.length_singleton] at ih
    rw [List.length_cons, List.range'_succ, List.filter_cons]
    have h0 : (pre ++ o :: l).toArray[pre.length]? = some o := by simp
    simp only [h0]
    rw [List.filter_cons]
    cases hp : p o with
    | true =>
      simp only [if_true]
      unfold at_ at ih ⊢
      rw [List.filterMap_cons, h0]
      simp only [List.cons.injEq, true_and]
      exact ih
    | false =>
      simp only [Bool.false_eq_true, if_false]
      exact ih

theorem at_congr {ops ops' : Array Oper} : ∀ (l : List Nat), (∀ k ∈ l, ops[k]? = ops'[k]?) → at_ ops l = at_ ops' l
  | [], _ => rfl
  | k :: l, h => by
    have ih := at_congr l (fun j hj => h j (List.mem_cons_of_mem _ hj))
    unfold at_ at ih ⊢
    rw [List.filterMap_cons, List.filterMap_cons, h k (List.mem_cons_self ..), ih]

theorem take_at {l : List Oper} {n : Nat} (hn : n ≤ l.length) (q : Oper → Bool) (q' : Nat → Bool) (hq : ∀ k o, l[k]? = some o → q' k = q o) : at_ l.toArray ((List.range n).filter q') = (l.take n).filter q := by
  have h := at_ord q (l.take n) []
  simp only [List.nil_append, List.length_nil, List.length_take, Nat.min_eq_left hn, ← List.range_eq_range'] at h
  rw [← h]
  have e1 : (List.range n).filter q' = (List.range n).filter (fun k => match (l.take n).toArray[k]? with | some o => q o | none => false) := by
    refine List.filter_congr fun k hk => ?_
    have hk' : k < n := List.mem_range.1 hk
    have hkl : k < l.length := by omega
    have e : (l.take n).toArray[k]? = l[k]? := by simp [hk']
    rw [e, List.getElem?_eq_getElem hkl]
    exact hq k _ (List.getElem?_eq_getElem hkl)
  rw [e1]
  exact at_congr _ fun k hk => by
    have hk' : k < n := List.mem_range.1 (List.mem_filter.1 hk).1
    simp [hk']

/-- The same, the lists read off the text. -/
theorem drawn_loose' {Q : Exit → Act → World → Prop} {a : Act} {w : World} {l : List Oper} (n : Nat) (hB : looseB md l.toArray n = true)
    (h : walk1 P l.toArray w (walk2 P l.toArray w (fun G a' => ∀ W, Stands w G W → wpList P l.toArray Q (l.drop n) a' W) ((l.take n).filter laysB) []) ((l.take n).filter fun o => !laysB o) a) :
    Drawn P md l.toArray Q a w := by
  refine drawn_loose n hB ?_
  have hn : n ≤ l.length := by
    simp only [looseB, Bool.and_eq_true, decide_eq_true_eq] at hB
    simpa using hB.1.1.2
  unfold ord1 ord2
  rw [take_at hn laysB (fun k => layAt l.toArray k) (fun k o ho => by simp [layAt, ho]), take_at hn (fun o => !laysB o) (fun k => !layAt l.toArray k) (fun k o ho => by simp [layAt, ho])]
  exact h

/-- The same where nothing is laid. -/
theorem drawn_calls {Q : Exit → Act → World → Prop} {a : Act} {w : World} {l : List Oper} (n : Nat) (hB : (looseB md l.toArray n && (l.take n).all fun o => !laysB o) = true)
    (h : walk1 P l.toArray w (fun a' => ∀ W, Below w.heap.size w W → wpList P l.toArray Q (l.drop n) a' W) (l.take n) a) :
    Drawn P md l.toArray Q a w := by
  simp only [Bool.and_eq_true] at hB
  obtain ⟨hB, hn⟩ := hB
  refine drawn_loose' n hB ?_
  have e1 : (l.take n).filter laysB = [] := List.filter_eq_nil_iff.2 fun o ho => by have := List.all_eq_true.1 hn o ho; simpa using this
  have e2 : ((l.take n).filter fun o => !laysB o) = l.take n := List.filter_eq_self.2 fun o ho => List.all_eq_true.1 hn o ho
  rw [e1, e2]
  have mono : ∀ (l' : List Oper) (a : Act), walk1 P l.toArray w (fun a' => ∀ W, Below w.heap.size w W → wpList P l.toArray Q (l.drop n) a' W) l' a →
      walk1 P l.toArray w (walk2 P l.toArray w (fun G a' => ∀ W, Stands w G W → wpList P l.toArray Q (l.drop n) a' W) [] []) l' a := by
    intro l'
    induction l' with
    | nil => intro a h W hW; exact h W hW.1
    | cons o l' ih => intro a h; obtain ⟨v, h1, h2⟩ := h; exact ⟨v, h1, ih _ h2⟩
  exact mono _ _ h

theorem wp_region_loose' {id : Nat} {Q : Exit → Act → World → Prop} {a : Act} {w : World} {l : List Oper} (n : Nat) (hm : P.follows .mixedOrders = true) (hB : looseB .any l.toArray n = true)
    (h : walk1 P l.toArray w (walk2 P l.toArray w (fun G a' => ∀ W, Stands w G W → wpList P l.toArray Q (l.drop n) a' W) ((l.take n).filter laysB) []) ((l.take n).filter fun o => !laysB o) a) :
    (Code.region id l.toArray true).wp P Q a w := wp_region_any hm (drawn_loose' n hB h)
theorem wp_region_calls {id : Nat} {Q : Exit → Act → World → Prop} {a : Act} {w : World} {l : List Oper} (n : Nat) (hm : P.follows .mixedOrders = true) (hB : (looseB .any l.toArray n && (l.take n).all fun o => !laysB o) = true)
    (h : walk1 P l.toArray w (fun a' => ∀ W, Below w.heap.size w W → wpList P l.toArray Q (l.drop n) a' W) (l.take n) a) :
    (Code.region id l.toArray true).wp P Q a w := wp_region_any hm (drawn_calls n hB h)

/-! ### The steps of a walk -/
/-- What follows goes under a name of its own. -/
theorem walk1_open {K0 : Act → Prop} {a : Act} {l : List Oper} (h : ∀ K : Act → Prop, (∀ a, K0 a → K a) → walk1 P ops W0 K l a) : walk1 P ops W0 K0 l a := h _ fun _ h => h
theorem walk1_nil {K : Act → Prop} {a : Act} (h : K a) : walk1 P ops W0 K [] a := h
theorem walk1_value {K : Act → Prop} {a : Act} {o : Oper} {rest : List Oper} {v : Value} (hw : Region.wanted o (yielded ops a.tmps) = true)
    (hv : ∀ W, (∀ b o, b < W0.heap.size → W.cell? ⟨b, o, none⟩ = W0.cell? ⟨b, o, none⟩) → W0.heap.size ≤ W.heap.size → (execOp a.eval o).run P W = .ok (.value v) W) (h : walk1 P ops W0 K rest (a.put o.dst v)) : walk1 P ops W0 K (o :: rest) a :=
  ⟨v, .inl ⟨hw, fun W hW => by rw [hv W (fun b o h => hW.1.cell (p := ⟨b, o, none⟩) h) hW.1.size]; exact ⟨rfl, rfl⟩⟩, h⟩
/-- A whole array, out of a block that lay when the region began. -/
theorem walk1_row {K : Act → Prop} {a : Act} {o : Oper} {rest : List Oper} (ty : TypeId) (x : Operand) (ho : o.op = .load ty x) (g : Nat) (hx : a.eval x = .pointer (some ⟨g, 0, none⟩)) (t : TypeId) (cs : Array Value) (d : TypeDesc)
    (hg : W0.heap[g]? = some (.cells cs t (0, 0))) (hu : P.underlying ty = some d) (hd : (match d with | .struct _ | .array _ _ => true | _ => false) = true) (hi : (P.info? ty).map (·.size) = some cs.size)
    (hw : Region.wanted o (yielded ops a.tmps) = true) (h : walk1 P ops W0 K rest (a.put o.dst (.agg cs))) : walk1 P ops W0 K (o :: rest) a :=
  ⟨.agg cs, .inl ⟨hw, fun W hW => by
    have hlt : g < W0.heap.size := by
      rcases Nat.lt_or_ge g W0.heap.size with h' | h'
      · exact h'
      · rw [Array.getElem?_eq_none h'] at hg; cases hg
    have hg' := (hW.1.block g hlt).trans hg
    unfold execOp
    simp only [ho, hx, Instr.loadAt, Instr.sureAddr, Sem.run_bind, Sem.run_pure, Result.andThen_ok, run_loadVar_row W g t ty cs (0, 0) d hg' hu hd hi]
    exact ⟨rfl, rfl⟩⟩, h⟩
theorem walk1_call {K : Act → Prop} {a : Act} {o : Oper} {rest : List Oper} {v : Value} {f : FuncId} {args : Array Value} (hw : Region.wanted o (yielded ops a.tmps) = true)
    (hv : ∀ W, W0.heap.size ≤ W.heap.size → (execOp a.eval o).run P W = .ok (.enter f args) W) (hc : ∀ W, Below W0.heap.size W0 W → Calls P f args W (fun e w'' => e = .returned v ∧ Below W.heap.size W w'')) (h : walk1 P ops W0 K rest (a.put o.dst v)) : walk1 P ops W0 K (o :: rest) a :=
  ⟨v, .inl ⟨hw, fun W hW => by rw [hv W hW.1.size]; exact ⟨rfl, hc W hW.1⟩⟩, h⟩
theorem walk1_skip {K : Act → Prop} {a : Act} {o : Oper} {rest : List Oper} (hw : Region.wanted o (yielded ops a.tmps) = false) (h : walk1 P ops W0 K rest (a.put o.dst undef)) : walk1 P ops W0 K (o :: rest) a :=
  ⟨undef, .inr ⟨hw, rfl⟩, h⟩
theorem walk2_nil {K : Laid → Act → Prop} {G : Laid} {a : Act} (h : K G a) : walk2 P ops W0 K [] G a := h
theorem walk2_lay {K : Laid → Act → Prop} {G : Laid} {a : Act} {o : Oper} {rest : List Oper} (hw : Region.wanted o (yielded ops a.tmps) = true)
    (hl : ∀ w, (execOp a.eval o).run P w = .ok (.value (pof o w.heap.size)) (w.alloc (.cells (zof P o).1 (zof P o).2)))
    (h : ∀ g, W0.heap.size ≤ g → (∀ x ∈ G, x.1 ≠ g) → walk2 P ops W0 K rest ((g, zof P o) :: G) (a.put o.dst (pof o g))) : walk2 P ops W0 K (o :: rest) G a := ⟨hw, hl, h⟩

theorem lays_alloc {o : Oper} {a : Act} {t : TypeId} {z : Value} (ho : o.op = .alloc t) (hz : (P.info? t).bind (·.zero) = some z) : zof P o = (z.cells, t) ∧ Lays P o a := by
  have e : zof P o = (z.cells, t) := by unfold zof; rw [ho]; simp only [hz]
  refine ⟨e, ?_⟩
  unfold Lays
  rw [e]
  intro w
  have ep : pof o w.heap.size = .pointer (some ⟨w.heap.size, 0, none⟩) := by unfold pof; rw [ho]
  rw [ep]
  obtain ⟨i, hi, hz'⟩ := Option.bind_eq_some_iff.1 hz
  unfold execOp
  simp [ho, Instr.alloc, zeroValue, typeInfo, hi, hz', newVar, newRow, Sem.run_bind, go_sem]

theorem walk2_alloc {K : Laid → Act → Prop} {G : Laid} {a : Act} {o : Oper} {rest : List Oper} (t : TypeId) (z0 : Value) (z : Array Value) (ho : o.op = .alloc t) (hz : (P.info? t).bind (·.zero) = some z0) (hzc : z0.cells = z)
    (hw : Region.wanted o (yielded ops a.tmps) = true) (h : ∀ g, W0.heap.size ≤ g → (∀ x ∈ G, x.1 ≠ g) → walk2 P ops W0 K rest ((g, z, t) :: G) (a.put o.dst (.pointer (some ⟨g, 0, none⟩)))) : walk2 P ops W0 K (o :: rest) G a := by
  obtain ⟨e, hl⟩ := lays_alloc (a := a) ho hz
  refine ⟨hw, hl, fun g h1 h2 => ?_⟩
  have ep : pof o g = .pointer (some ⟨g, 0, none⟩) := by unfold pof; rw [ho]
  rw [e, hzc, ep]
  exact h g h1 h2

theorem walk2_make {K : Laid → Act → Prop} {G : Laid} {a : Act} {o : Oper} {rest : List Oper} (t : TypeId) (k1 k2 : IntKind) (n m : Int) (e : TypeId) (i : TypeInfo) (z0 : Value) (z : Array Value) (ho : o.op = .makeSlice t (.const (.int k1 n)) (.const (.int k2 m)))
    (hu : P.underlying t = some (.slice e)) (hi : P.info? e = some i) (hz : i.zero = some z0) (hzc : madeCells z0.cells (m.toNat * i.size) = z) (h0 : 0 ≤ n) (hlc : n ≤ m) (hbytes : (i.bytes : Int) * m ≤ 281474976710656) (h63 : m ≤ 9223372036854775807)
    (hw : Region.wanted o (yielded ops a.tmps) = true) (h : ∀ g, W0.heap.size ≤ g → (∀ x ∈ G, x.1 ≠ g) → walk2 P ops W0 K rest ((g, z, e) :: G) (a.put o.dst (.slice (some ⟨g, 0, none⟩) n.toNat m.toNat))) : walk2 P ops W0 K (o :: rest) G a := by
  have ez : zof P o = (z, e) := by unfold zof; rw [ho]; simp only [hu, hi, hz]; rw [hzc]
  have ep : ∀ g, pof o g = .slice (some ⟨g, 0, none⟩) n.toNat m.toNat := fun g => by unfold pof; rw [ho]
  refine ⟨hw, fun w => ?_, fun g h1 h2 => ?_⟩
  · rw [ez, ep]
    have key := run_make (P := P) w t e i z0 hu hi hz k1 k2 n m h0 hlc hbytes h63
    rw [hzc] at key
    unfold execOp
    simp only [ho, go_sem] at key ⊢
    rw [Sem.run_bind, key]
    rfl
  · rw [ez, ep]
    exact h g h1 h2

theorem Stands.blk {W0 W : World} {G : Laid} (h : Stands W0 G W) {g : Nat} {z : Array Value} {t : TypeId} (hx : (g, z, t) ∈ G) : W.heap[g]? = some (.cells z t (0, 0)) := h.2 _ hx

/-- A new variable, in a region of one order. -/
theorem wpList_alloc_any {rest : List Oper} {o : Oper} {a : Act} {w : World} {Q : Exit → Act → World → Prop} (hgd : o.guard = none) (t : TypeId) (z0 : Value) (z : Array Value) (ho : o.op = .alloc t) (hz : (P.info? t).bind (·.zero) = some z0) (hzc : z0.cells = z)
    (h : wpList P ops Q rest (a.put o.dst (.pointer (some ⟨w.heap.size, 0, none⟩))) (w.alloc (.cells z t))) : wpList P ops Q (o :: rest) a w :=
  wpList_plain hgd fun K hK => by
    obtain ⟨e, hl⟩ := lays_alloc (a := a) ho hz
    have ep : pof o w.heap.size = .pointer (some ⟨w.heap.size, 0, none⟩) := by unfold pof; rw [ho]
    unfold Oper.wp
    rw [hl w, Oper.upon_value, e, hzc, ep]
    exact hK _ _ h

end
end Go.Proofs.Ytbcpfgcpekfgiaa
