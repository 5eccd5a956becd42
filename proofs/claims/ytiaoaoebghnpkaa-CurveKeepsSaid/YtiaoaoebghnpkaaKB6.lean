/- Part of the proof. -/
import Derived.OrdersHeld
import Derived.Test.YtiaoaoebghnpkaaKB4
/- A region that draws its order, whose tail has more orders than one: an operation on temporaries alone may stand behind a store, or a load may. The orders that count are listed; each other order is one of them but for swaps with an operation on temporaries alone. Nothing here speaks of a program. -/
namespace Go.Proofs.Ytiaoaoebghnpkaa
open Go Go.RowKit

section
variable {P : Program} {ops : Array Oper} {md : Region.Mode} {W0 : World}

/-! ### Operations on temporaries alone -/
def stillB (o : Oper) : Bool := match o.op with | .move _ | .assign _ | .extract _ _ => true | _ => false

/-- The same value in every world, or a halt in every world. -/
def Steady (P : Program) (s : Sem Next) : Prop := (∃ v, ∀ w, s.run P w = .ok (.value v) w) ∨ ∀ w, ∃ h, s.run P w = .halt h w

theorem steady_of {o : Oper} (h : stillB o = true) (ρ : Operand → Value) : Steady P (execOp ρ o) := by
  unfold stillB at h
  split at h
  · rename_i x ho
    refine .inl ⟨ρ x, fun w => ?_⟩
    unfold execOp; simp only [ho]; rfl
  · rename_i x ho
    refine .inl ⟨ρ x, fun w => ?_⟩
    unfold execOp; simp only [ho]; rfl
  · rename_i x k ho
    unfold execOp; simp only [ho]
    cases hx : ρ x
    case tuple vs =>
      cases hv : vs[k]? with
      | none => exact .inr fun w => ⟨_, by simp only [Instr.extract, hv]; rfl⟩
      | some v => exact .inl ⟨v, fun w => by simp only [Instr.extract, hv]; rfl⟩
    all_goals exact .inr fun w => ⟨_, rfl⟩
  · cases h

/-- The end that lets nothing out but the normal one. -/
def only (Q : Exit → Act → World → Prop) : Exit → Act → World → Prop := fun e a w => e = .normal ∧ Q .normal a w

theorem not_letsOut_only {Q : Exit → Act → World → Prop} : ¬ LetsOut (only Q) := fun ⟨_, _, h, _⟩ => by cases h

/-- One operation, nothing let out. -/
def wp1 (P : Program) (ops : Array Oper) (Q : Exit → Act → World → Prop) (o : Oper) (K : Act → World → Prop) (a : Act) (w : World) : Prop :=
  if Region.wanted o (yielded ops a.tmps) then o.wp P a w K (only Q) ∨ (o.asks P a w ∧ LetsOut (only Q)) else K (a.put o.dst undef) w

theorem wp1_mono {Q : Exit → Act → World → Prop} {o : Oper} {K K' : Act → World → Prop} {a : Act} {w : World} (h : ∀ a w, K a w → K' a w) (hh : wp1 P ops Q o K a w) : wp1 P ops Q o K' a w := by
  unfold wp1 at *
  split
  · rename_i hw; rw [if_pos hw] at hh; exact hh.imp (Oper.wp_mono h) id
  · rename_i hw; rw [if_neg hw] at hh; exact h _ _ hh

/-- What an operation on temporaries alone does, nothing let out. -/
theorem wp1_still {Q : Exit → Act → World → Prop} {o : Oper} {K : Act → World → Prop} {a : Act} {w : World} (hs : stillB o = true) (h : wp1 P ops Q o K a w) :
    ∃ v, K (a.put o.dst v) w ∧ ∀ dd w' (K' : Act → World → Prop), K' (({ a with defers := dd } : Act).put o.dst v) w' → wp1 P ops Q o K' { a with defers := dd } w' := by
  unfold wp1 at h
  split at h
  · rename_i hw
    rcases h with h | ⟨_, h⟩
    · rcases steady_of (P := P) hs a.eval with ⟨v, hv⟩ | hv
      · refine ⟨v, ?_, fun dd w' K' hK => ?_⟩
        · unfold Oper.wp at h; rw [hv w, Oper.upon_value] at h; exact h
        · unfold wp1
          rw [if_pos (show Region.wanted o (yielded ops ({ a with defers := dd } : Act).tmps) = true from hw)]
          left; unfold Oper.wp
          rw [show ({ a with defers := dd } : Act).eval = a.eval from rfl, hv w', Oper.upon_value]; exact hK
      · obtain ⟨x, hx⟩ := hv w
        unfold Oper.wp at h; rw [hx] at h
        cases x <;> simp only [Oper.upon] at h
        exact absurd h.1 (by simp)
    · exact absurd h not_letsOut_only
  · rename_i hw
    refine ⟨undef, h, fun dd w' K' hK => ?_⟩
    unfold wp1
    rw [if_neg (show ¬ Region.wanted o (yielded ops ({ a with defers := dd } : Act).tmps) = true from hw)]
    exact hK

/-- An operation's step in a frame in which a temporary that it does not look at has been filled. -/
theorem wp1_put {Q : Exit → Act → World → Prop} {o : Oper} {K : Act → World → Prop} {a : Act} {w : World} {d : Option Tmp} {v : Value} (hsel : ∀ cs b, o.op ≠ .select cs b) (h1 : ∀ t, d = some t → t ∉ o.looksAt ops) (h2 : ∀ t, d = some t → o.dst ≠ some t) :
    wp1 P ops Q o K (a.put d v) w ↔ wp1 P ops Q o (fun a' w' => K (a'.put d v) w') a w := by
  unfold wp1
  rw [wanted_put o a d v h1]
  split
  · refine or_congr ?_ ⟨fun h => absurd h.2 not_letsOut_only, fun h => absurd h.2 not_letsOut_only⟩
    unfold Oper.wp
    rw [execOp_put o hsel a d v h1]
    generalize (execOp a.eval o).run P w = r
    have hc : ∀ u, (a.put d v).put o.dst u = (a.put o.dst u).put d v := fun u => Act.put_comm a v u h2
    cases r with
    | halt x w' => cases x <;> simp only [Oper.upon] <;> simp [only]
    | ok nx w' =>
      cases nx <;> simp only [Oper.upon, hc]
      case defer dd => rw [Act.put_defers, Act.put_comm _ v undef h2]
      case enter f args => constructor <;> (intro h; refine h.mono fun e w'' he => ?_; cases e <;> simp [only] at he ⊢ <;> exact he)
  · rw [Act.put_comm a v undef h2]

/-- The frames behind one operation. -/
theorem wp1_frame {Q : Exit → Act → World → Prop} {o : Oper} {K K' : Act → World → Prop} {a : Act} {w : World} (h : wp1 P ops Q o K a w) (hk : ∀ dd u w', K (({ a with defers := dd } : Act).put o.dst u) w' → K' (({ a with defers := dd } : Act).put o.dst u) w') :
    wp1 P ops Q o K' a w := by
  unfold wp1 at *
  split
  · rename_i hw
    rw [if_pos hw] at h
    rcases h with h | ⟨_, h⟩
    · left
      unfold Oper.wp at *
      generalize (execOp a.eval o).run P w = r at *
      cases r with
      | halt x w' => cases x <;> simp only [Oper.upon] at h ⊢ <;> exact h
      | ok nx w' =>
        cases nx <;> simp only [Oper.upon] at h ⊢
        case value v => exact hk a.defers _ _ h
        case skip => exact hk a.defers _ _ h
        case defer dd => exact hk _ _ _ h
        case enter f args => exact h.mono fun e w'' he => by cases e <;> first | exact hk a.defers _ _ he | exact he
        case row r args => exact Rows.mono h fun v w'' he => hk a.defers _ _ he
    · exact absurd h not_letsOut_only
  · rename_i hw
    rw [if_neg hw] at h
    exact hk a.defers _ _ h

/-- It hands a value on, whatever the frame. -/
def sureB (o : Oper) : Bool := match o.op with | .move _ | .assign _ => true | _ => false
theorem sure_of {o : Oper} (h : sureB o = true) (ρ : Operand → Value) : ∃ v, ∀ w, (execOp ρ o).run P w = .ok (.value v) w := by
  unfold sureB at h
  split at h
  · rename_i x ho
    refine ⟨ρ x, fun w => ?_⟩
    unfold execOp; simp only [ho]; rfl
  · rename_i x ho
    refine ⟨ρ x, fun w => ?_⟩
    unfold execOp; simp only [ho]; rfl
  · cases h

/-- Two neighbours may be swapped, if neither looks at what the other fills, and the first works on temporaries alone, or the second does and cannot halt. -/
def swapB (ops : Array Oper) (x y : Oper) : Bool := x.apart ops y && y.apart ops x && (stillB x || sureB y)

theorem wp1_swap {Q : Exit → Act → World → Prop} {x y : Oper} {K : Act → World → Prop} {a : Act} {w : World} (hx : ∀ cs b, x.op ≠ .select cs b) (hy : ∀ cs b, y.op ≠ .select cs b) (hs : swapB ops x y = true)
    (h : wp1 P ops Q x (wp1 P ops Q y K) a w) : wp1 P ops Q y (wp1 P ops Q x K) a w := by
  simp only [swapB, Bool.and_eq_true, Bool.or_eq_true] at hs
  obtain ⟨⟨h1, h2⟩, h3⟩ := hs
  obtain ⟨a1, a2, _⟩ := Oper.apart_spec h1
  obtain ⟨b1, b2, _⟩ := Oper.apart_spec h2
  rcases h3 with h3 | h3
  · obtain ⟨v, hk, hr⟩ := wp1_still h3 h
    rw [wp1_put hy a1 a2] at hk
    refine wp1_frame hk fun dd u w' hK => ?_
    rw [wp1_put hx b1 b2]
    refine hr dd w' _ ?_
    rw [Act.put_comm _ v u a2]
    exact hK
  · obtain ⟨v, hv⟩ := sure_of (P := P) h3 a.eval
    by_cases hw : Region.wanted y (yielded ops a.tmps) = true
    · unfold wp1
      rw [if_pos hw]
      left
      unfold Oper.wp
      rw [hv w, Oper.upon_value]
      change wp1 P ops Q x K (a.put y.dst v) w
      rw [wp1_put hx b1 b2]
      refine wp1_frame h fun dd u w' hK => ?_
      rw [wp1_put hy a1 a2] at hK
      unfold wp1 at hK
      rw [if_pos (show Region.wanted y (yielded ops ({ a with defers := dd } : Act).tmps) = true from hw)] at hK
      rcases hK with hK | ⟨_, hK⟩
      · unfold Oper.wp at hK
        rw [show ({ a with defers := dd } : Act).eval = a.eval from rfl, hv w', Oper.upon_value] at hK
        rwa [Act.put_comm _ v u b2] at hK
      · exact absurd hK not_letsOut_only
    · unfold wp1
      rw [if_neg hw]
      change wp1 P ops Q x K (a.put y.dst undef) w
      rw [wp1_put hx b1 b2]
      refine wp1_frame h fun dd u w' hK => ?_
      rw [wp1_put hy a1 a2] at hK
      unfold wp1 at hK
      rw [if_neg (show ¬ Region.wanted y (yielded ops ({ a with defers := dd } : Act).tmps) = true from hw)] at hK
      rwa [Act.put_comm _ undef u b2] at hK

/-! ### The order of the text is enough -/
/-- Whatever order is picked from here on, nothing let out. -/
def anyO (P : Program) (md : Region.Mode) (ops : Array Oper) (Q : Exit → Act → World → Prop) : Nat → Array Bool → Act → World → Prop
  | 0, listed, a, w => Region.ready md ops listed = [] ∧ Q .normal a w
  | f + 1, listed, a, w => (Region.ready md ops listed = [] → Q .normal a w) ∧ ∀ i ∈ Region.ready md ops listed, ∃ o, ops[i]? = some o ∧ wp1 P ops Q o (anyO P md ops Q f (listed.setIfInBounds i true)) a w

theorem wp1_of_wpOp {Q : Exit → Act → World → Prop} {i : Nat} {o : Oper} (hi : ops[i]? = some o) {K : Act → World → Prop} {a : Act} {w : World} (h : wpOp P ops (only Q) i K a w) : wp1 P ops Q o K a w := by
  unfold wpOp at h
  simp only [hi] at h
  exact h

theorem anyO_of {Q : Exit → Act → World → Prop} : ∀ (f : Nat) (listed : Array Bool) (a : Act) (w : World), wpAny P md ops (only Q) f listed a w → anyO P md ops Q f listed a w
  | 0, _, _, _, h => ⟨h.1, h.2.2⟩
  | f + 1, listed, a, w, h => ⟨fun h0 => (h.1 h0).2, fun i hi => by
      obtain ⟨_, o, ho, _⟩ := mem_ready.1 hi
      exact ⟨o, ho, wp1_mono (fun a' w' hh => anyO_of f _ a' w' hh) (wp1_of_wpOp ho (h.2 i hi))⟩⟩

theorem wpOp_of_wp1 {Q : Exit → Act → World → Prop} {i : Nat} {o : Oper} (hi : ops[i]? = some o) {K : Act → World → Prop} {a : Act} {w : World} (h : wp1 P ops Q o K a w) : wpOp P ops Q i K a w := by
  unfold wp1 at h
  unfold wpOp
  simp only [hi]
  split
  · rename_i hw
    rw [if_pos hw] at h
    rcases h with h | ⟨_, h⟩
    · left
      unfold Oper.wp at *
      generalize (execOp a.eval o).run P w = r at *
      cases r with
      | halt x w' => cases x <;> simp only [Oper.upon, only] at h ⊢ <;> first | exact h | (exact absurd h.1 (by simp))
      | ok nx w' =>
        cases nx <;> simp only [Oper.upon] at h ⊢
        case enter f args =>
          refine h.mono ?_
          intro e w'' he
          cases e with
          | returned v => exact he
          | panicked c => exact absurd he.1 (by simp)
          | outgrown => exact absurd he not_letsOut_only
        all_goals exact h
    · exact absurd h not_letsOut_only
  · rename_i hw
    rw [if_neg hw] at h
    exact h

theorem anyO_to {Q : Exit → Act → World → Prop} : ∀ (f : Nat) (listed : Array Bool) (a : Act) (w : World), anyO P md ops Q f listed a w → wpAny P md ops Q f listed a w
  | 0, _, _, _, h => h
  | f + 1, listed, a, w, h => ⟨h.1, fun i hi => by
      obtain ⟨o, ho, h1⟩ := h.2 i hi
      exact wpOp_of_wp1 ho (wp1_mono (fun a' w' hh => anyO_to f _ a' w' hh) h1)⟩

/-- What has not come up and does not wait for i may be swapped with it. -/
def freeB (md : Region.Mode) (ops : Array Oper) (i : Nat) : Bool :=
  (List.range ops.size).all fun j => j == i || match ops[i]?, ops[j]? with
    | some x, some y => swapB ops x y || (y.after.any fun e => Region.binds md e && e.on == i) || (x.after.any fun e => Region.binds md e && e.on == j)
    | _, _ => true

theorem free_swap {i j : Nat} {x y : Oper} {listed : Array Bool} (h : freeB md ops i = true) (hx : ops[i]? = some x) (hy : ops[j]? = some y) (hi : i ∈ Region.ready md ops listed) (hj : j ∈ Region.ready md ops listed) (hne : j ≠ i) : swapB ops x y = true := by
  have hlt : j < ops.size := (Array.getElem?_eq_some_iff.1 hy).1
  have h1 := List.all_eq_true.1 h j (List.mem_range.2 hlt)
  simp only [hx, hy, Bool.or_eq_true, beq_iff_eq] at h1
  obtain ⟨hui, x', hx', hax⟩ := mem_ready.1 hi
  obtain ⟨huj, y', hy', hay⟩ := mem_ready.1 hj
  obtain rfl : x' = x := Option.some.inj (hx'.symm.trans hx)
  obtain rfl : y' = y := Option.some.inj (hy'.symm.trans hy)
  rcases h1 with h1 | (h1 | h1) | h1
  · exact absurd h1 hne
  · exact h1
  · obtain ⟨e, he, h2⟩ := Array.any_eq_true'.1 h1
    simp only [Bool.and_eq_true, beq_iff_eq] at h2
    have := hay e he h2.1
    rw [h2.2, getD_both hui] at this; cases this
  · obtain ⟨e, he, h2⟩ := Array.any_eq_true'.1 h1
    simp only [Bool.and_eq_true, beq_iff_eq] at h2
    have := hax e he h2.1
    rw [h2.2, getD_both huj] at this; cases this

/-- An operation that may be swapped with all that need not wait for it may be taken first. -/
theorem anyO_first {Q : Exit → Act → World → Prop} (hsel : Region.noSelect ops = true) {i : Nat} {x : Oper} (hx : ops[i]? = some x) (hst : stillB x = true) (hf : freeB md ops i = true) :
    ∀ (f : Nat) (listed : Array Bool) (a : Act) (w : World), i ∈ Region.ready md ops listed → wp1 P ops Q x (anyO P md ops Q f (listed.setIfInBounds i true)) a w → anyO P md ops Q (f + 1) listed a w
  | f, listed, a, w, hi, h => by
    refine ⟨fun h0 => (by rw [h0] at hi; cases hi), fun j hj => ?_⟩
    obtain ⟨_, y, hy, _⟩ := mem_ready.1 hj
    refine ⟨y, hy, ?_⟩
    by_cases hji : j = i
    · subst hji
      obtain rfl : y = x := Option.some.inj (hy.symm.trans hx)
      exact h
    · have hs := free_swap hf hx hy hi hj hji
      have hjr : j ∈ Region.ready md ops (listed.setIfInBounds i true) := ready_mono hj hji
      cases f with
      | zero =>
        obtain ⟨v, hk, _⟩ := wp1_still hst h
        rw [hk.1] at hjr
        cases hjr
      | succ f =>
        have h1 : wp1 P ops Q x (wp1 P ops Q y (anyO P md ops Q f ((listed.setIfInBounds i true).setIfInBounds j true))) a w := by
          refine wp1_mono (fun a' w' hh => ?_) h
          obtain ⟨y', hy', h2⟩ := hh.2 j hjr
          obtain rfl : y' = y := Option.some.inj (hy'.symm.trans hy)
          exact h2
        refine wp1_mono (fun a' w' hh => ?_) (wp1_swap (Region.noSelect_spec hsel _ _ · · hx) (Region.noSelect_spec hsel _ _ · · hy) hs h1)
        refine anyO_first hsel hx hst hf f _ a' w' (ready_mono hi (Ne.symm hji)) ?_
        rw [Array.setIfInBounds_comm _ _ hji]
        exact hh

/-- Each edge that the text alone lays leads to an operation on temporaries that may be swapped with all that need not wait for it, and whose own edges the one that waits has, too. -/
def textB (ops : Array Oper) : Bool :=
  Region.noSelect ops && (List.range ops.size).all fun t => match ops[t]? with
    | none => true
    | some o => o.after.all fun e => Region.binds .any e || !Region.binds .text e || match ops[e.on]? with
      | none => false
      | some x => stillB x && freeB .any ops e.on && x.after.all fun e' => !Region.binds .text e' || o.after.any fun e'' => Region.binds .any e'' && e''.on == e'.on

theorem binds_text {e : Edge} (h : Region.binds .any e = true) : Region.binds .text e = true := by
  unfold Region.binds at *
  split at h <;> simp_all

/-- What comes up in some order comes up in the order of the text, or waits there for an operation on temporaries that comes up now. -/
theorem anyO_text {Q : Exit → Act → World → Prop} (hB : textB ops = true) : ∀ (f : Nat) (listed : Array Bool) (a : Act) (w : World), listed.size = ops.size → anyO P .text ops Q f listed a w → anyO P .any ops Q f listed a w := by
  simp only [textB, Bool.and_eq_true] at hB
  obtain ⟨hsel, hB⟩ := hB
  -- an operation that is ready in some order, but not in the text's
  have key : ∀ (listed : Array Bool) (t : Nat), listed.size = ops.size → t ∈ Region.ready .any ops listed → t ∉ Region.ready .text ops listed →
      ∃ i x, ops[i]? = some x ∧ stillB x = true ∧ freeB .any ops i = true ∧ i ≠ t ∧ i ∈ Region.ready .text ops listed ∧ i ∈ Region.ready .any ops listed := by
    intro listed t hsz ht hnt
    obtain ⟨hut, o, ho, hall⟩ := mem_ready.1 ht
    have hex : ∃ e ∈ o.after, Region.binds .text e = true ∧ listed.getD e.on false = false := by
      refine Classical.byContradiction fun hno => hnt (mem_ready.2 ⟨hut, o, ho, fun e he hb => ?_⟩)
      cases hl : listed.getD e.on false with
      | true => rfl
      | false => exact absurd ⟨e, he, hb, hl⟩ hno
    obtain ⟨e, he, hbt, hl⟩ := hex
    have hba : Region.binds .any e = false := by
      cases hb : Region.binds .any e with
      | false => rfl
      | true => rw [hall e he hb] at hl; cases hl
    have h1 := List.all_eq_true.1 hB t (List.mem_range.2 (Array.getElem?_eq_some_iff.1 ho).1)
    simp only [ho] at h1
    have h2 := Array.all_eq_true_iff_forall_mem.1 h1 e he
    simp only [hba, hbt, Bool.not_true, Bool.false_or] at h2
    split at h2
    · cases h2
    · rename_i x hx
      simp only [Bool.and_eq_true] at h2
      obtain ⟨⟨hst, hfr⟩, hed⟩ := h2
      have hlt : e.on < ops.size := (Array.getElem?_eq_some_iff.1 hx).1
      have hun := getD_in (by rw [hsz]; exact hlt) hl
      have hdep : ∀ e' ∈ x.after, Region.binds .text e' = true → listed.getD e'.on false = true := fun e' he' hb' => by
        have h3 := Array.all_eq_true_iff_forall_mem.1 hed e' he'
        simp only [hb', Bool.not_true, Bool.false_or] at h3
        obtain ⟨e'', he'', h4⟩ := Array.any_eq_true'.1 h3
        simp only [Bool.and_eq_true, beq_iff_eq] at h4
        rw [← h4.2]
        exact hall e'' he'' h4.1
      have hrt : e.on ∈ Region.ready .text ops listed := mem_ready.2 ⟨hun, x, hx, hdep⟩
      refine ⟨e.on, x, hx, hst, hfr, fun heq => hnt (heq ▸ hrt), hrt, mem_ready.2 ⟨hun, x, hx, fun e' he' hb' => hdep e' he' (binds_text hb')⟩⟩
  have mono : ∀ (listed : Array Bool) (i : Nat), i ∈ Region.ready .text ops listed → i ∈ Region.ready .any ops listed := by
    intro listed i hi
    obtain ⟨h1, o, ho, h2⟩ := mem_ready.1 hi
    exact mem_ready.2 ⟨h1, o, ho, fun e he hb => h2 e he (binds_text hb)⟩
  have empty : ∀ (listed : Array Bool), listed.size = ops.size → Region.ready .text ops listed = [] → Region.ready .any ops listed = [] := by
    intro listed hsz h0
    cases hr : Region.ready .any ops listed with
    | nil => rfl
    | cons t l =>
      obtain ⟨i, _, _, _, _, _, hi, _⟩ := key listed t hsz (by rw [hr]; exact List.mem_cons_self ..) (by rw [h0]; intro h; cases h)
      rw [h0] at hi; cases hi
  intro f
  induction f with
  | zero => intro listed a w hsz h; exact ⟨empty listed hsz h.1, h.2⟩
  | succ f ih =>
    intro listed a w hsz h
    refine ⟨fun h0 => ?_, fun t ht => ?_⟩
    · cases hr : Region.ready .text ops listed with
      | nil => exact h.1 hr
      | cons t l =>
        have := mono listed t (by rw [hr]; exact List.mem_cons_self ..)
        rw [h0] at this; cases this
    · obtain ⟨_, o, ho, _⟩ := mem_ready.1 ht
      by_cases htt : t ∈ Region.ready .text ops listed
      · obtain ⟨o', ho', h1⟩ := h.2 t htt
        exact ⟨o', ho', wp1_mono (fun a' w' hh => ih _ a' w' (by simp [hsz]) hh) h1⟩
      · obtain ⟨i, x, hx, hst, hfr, hne, hit, hia⟩ := key listed t hsz ht htt
        obtain ⟨x', hx', h1⟩ := h.2 i hit
        obtain rfl : x' = x := Option.some.inj (hx'.symm.trans hx)
        have h2 := wp1_mono (fun a' w' hh => ih _ a' w' (by simp [hsz]) hh) h1
        exact (anyO_first hsel hx hst hfr f listed a w hia h2).2 t ht

/-- **A region whose late operations work on temporaries alone is walked in the order of the text.** -/
theorem wp_region_text {id : Nat} {Q : Exit → Act → World → Prop} {a : Act} {w : World} (hm : P.follows .mixedOrders = true) (hB : textB ops = true)
    (h : ∀ Q2 : Exit → Act → World → Prop, (∀ a w, Q .normal a w → Q2 .normal a w) → Drawn P .text ops Q2 a w) : (Code.region id ops true).wp P Q a w :=
  wp_region_any hm (anyO_to _ _ _ _ (anyO_text hB _ _ _ _ (by simp) (anyO_of _ _ _ _ (h (only Q) fun _ _ hq => ⟨rfl, hq⟩))))

/-! ### A load behind a store: in every world that meets S -/
variable {S : World → Prop} {Q : Exit → Act → World → Prop} {i : Nat} {o : Oper} {K : Act → World → Prop} {a : Act} {w w' : World} {v : Value} {fuel : Nat} {listed : Array Bool}
end
end Go.Proofs.Ytiaoaoebghnpkaa
