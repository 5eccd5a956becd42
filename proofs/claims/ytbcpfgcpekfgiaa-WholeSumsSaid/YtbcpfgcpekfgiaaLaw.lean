/- A law's row, whatever its parameters: if the call answers true and turns nothing that was there, the row's post holds; and an array of integers by value, opened. -/
import Derived.Test.YtbcpfgcpekfgiaaProg
import Derived.Test.YtbcpfgcpekfgiaaBase
import Derived.ProofKit
import Derived.OpenShut
import Derived.Below
import Derived.Carry
namespace Go.Proofs.Ytbcpfgcpekfgiaa
open Go Go.ChangeShapes Go.WideShapes Go.ChangeAt Go.RowKit

section
variable {H : Type} {enc : TypeId × Value → H} {P : Program}

/-- The types of the table that read as data. -/
def readsB (P : Program) (ts : List TypeId) : Bool := ts.all fun t => P.readableRec t && decide (t < P.types.size)

/-- All arguments read behind the call as before it, if nothing that was there has turned. -/
theorem trodAll_below (hl : laidOutB P = true) {W W' : World} (hb : Below W.heap.size W W') : ∀ (ts : List TypeId) (vs : List Value) (ds : List (DataW H)) (ps : List MemPlace), readsB P ts = true →
    DataW.TrodAll enc P W 0 (fun _ => true) true ts vs ds ps → (∀ x ∈ ps, x.block < W.heap.size) → DataW.TrodAll enc P W' 0 (fun b => decide (b < W.heap.size)) true ts vs ds ps
  | [], vs, ds, ps, _, h, _ => by
    cases vs with
    | nil => cases ds with
      | nil => exact h
      | cons d ds => exact absurd h (by simp [DataW.TrodAll])
    | cons v vs => exact absurd h (by simp [DataW.TrodAll])
  | t :: ts, vs, ds, ps, hr, h, hlt => by
    cases vs with
    | nil => exact absurd h (by simp [DataW.TrodAll])
    | cons v vs => cases ds with
      | nil => exact absurd h (by simp [DataW.TrodAll])
      | cons d ds =>
        obtain ⟨p, q, h1, h2, rfl⟩ := h
        simp only [readsB, List.all_cons, Bool.and_eq_true, decide_eq_true_eq] at hr
        exact ⟨p, q, Below.trod hl hr.1.1 hr.1.2 h1 hb (fun x hx => hlt x (List.mem_append_left _ hx)), trodAll_below hl hb ts vs ds q hr.2 h2 (fun x hx => hlt x (List.mem_append_right _ hx)), rfl⟩

/-- **A law's post.** -/
theorem law_post {f : Func} {s : ChangeSpec} {W W' : World} {args : Array Value} {ds : List (DataW H)} {before : List MemPlace} {t : TypeId} (hl : laidOutB P = true) (hrd : readsB P f.params.toList = true) (hr : f.resultTypes = #[t]) (ht : P.underlying t = some .bool) (hv : s.vars = [])
    (hW : DataW.Whole enc P f.params.toList s.vars false W args.toList ds [] before) (hA : DataW.TrodAll enc P W 0 (fun _ => true) true f.params.toList args.toList ds before)
    (hs : s.fn H (ds ++ []) = { results := [.lit (.bool true)], args := ds }) (hb : Below W.heap.size W W') : s.post enc P f false true false false W args (.bool true) W' := by
  refine ⟨ds, [], before, [], before, [], hW, ?_, ?_, ?_, hb.frame _, fun h => by cases h⟩
  · rw [hs, hr]
    exact trodAll_mk1 (shut_bool ht true)
  · rw [hs]
    exact trodAll_below hl hb _ _ _ _ hrd hA (fun x hx => by simpa using hW.lt x hx)
  · rw [hs, hv]; rfl

theorem okWide_arr {w : World} {r : Reach} {base : Nat} {t e : TypeId} {n : Nat} {v : Value} (ht : P.underlying t = some (.array n e)) (h : Value.okWide P w r base t v) : ∃ cs, v = .agg cs ∧ cs.size = P.cellsOf t := by
  simp only [Value.okWide, ht] at h
  obtain ⟨cs, h1, h2, _⟩ := h
  exact ⟨cs, h1, h2⟩

theorem ints_of {k : IntKind} : ∀ (l : List Value) (n : Nat), l.length = n → (∀ i, i < n → ∃ z, l[i]? = some (.int k z) ∧ (Lit.int k z).wf = true) → ∃ zs : List Int, l = zs.map (Value.int k) ∧ zs.length = n ∧ ∀ z ∈ zs, (Lit.int k z).wf = true := by
  intro l
  induction l with
  | nil => intro n hn _; exact ⟨[], rfl, by simpa using hn, fun z hz => by cases hz⟩
  | cons v l ih =>
    intro n hn h
    cases n with
    | zero => simp at hn
    | succ n =>
      obtain ⟨z, h0, hw⟩ := h 0 (by omega)
      obtain ⟨zs, rfl, hzs, hall⟩ := ih n (by simpa using hn) (fun i hi => by have := h (i + 1) (by omega); simpa using this)
      refine ⟨z :: zs, ?_, by simp [hzs], fun y hy => ?_⟩
      · simp only [List.map_cons, List.cons.injEq, and_true]
        simpa using h0
      · rcases List.mem_cons.1 hy with rfl | hy
        · exact hw
        · exact hall y hy

/-- An array of integers, by value. -/
theorem open_ints_by_value {w : World} {base : Nat} {spare : Nat → Bool} {held : Bool} {r : Reach} {b0 : Nat} {t e : TypeId} {n : Nat} {k : IntKind} {v : Value} {d : DataW H} {ps : List MemPlace} (ht : P.underlying t = some (.array n e)) (he : P.underlying e = some (.int k)) (hc : P.cellsOf e = 1) (hct : P.cellsOf t = n)
    (hval : Value.okWide P w r b0 t v) (hd : DataW.Trod enc P w base spare held t v d ps) : ∃ zs : List Int, v = .agg (zs.map (Value.int k)).toArray ∧ zs.length = n ∧ ∀ z ∈ zs, (Lit.int k z).wf = true := by
  obtain ⟨cs, rfl, hsz⟩ := okWide_arr ht hval
  obtain ⟨fuel, hf⟩ := hd
  obtain ⟨xs, m, rfl, hx, hl, hxn, hall⟩ := DataW.trod_array ht hf
  have key : ∀ i, i < n → ∃ z, cs.toList[i]? = some (.int k z) ∧ (Lit.int k z).wf = true := by
    intro i hi
    have h1 := hall i hi
    rw [hc, Nat.mul_one, List.getElem?_eq_getElem (by omega)] at h1
    obtain ⟨z, hz, _, hw⟩ := DataW.trod_int he h1
    refine ⟨z, ?_, hw⟩
    have : ((Value.agg cs).cells.toList.drop i).take 1 = [.int k z] := hz
    simp only [Value.cells] at this
    have h2 := congrArg (·[0]?) this
    simpa [List.getElem?_take, List.getElem?_drop] using h2
  have hlen : cs.toList.length = n := by simpa [hct] using hsz
  obtain ⟨zs, h1, h2, h3⟩ := ints_of _ _ hlen key
  refine ⟨zs, ?_, h2, h3⟩
  rw [← h1]
theorem two_of {zs : List Int} (h : zs.length = 2) : ∃ x y, zs = [x, y] := by
  match zs, h with
  | [x, y], _ => exact ⟨x, y, rfl⟩
theorem three_of {zs : List Int} (h : zs.length = 3) : ∃ x y z, zs = [x, y, z] := by
  match zs, h with
  | [x, y, z], _ => exact ⟨x, y, z, rfl⟩
theorem four_of {zs : List Int} (h : zs.length = 4) : ∃ x y z u, zs = [x, y, z, u] := by
  match zs, h with
  | [x, y, z, u], _ => exact ⟨x, y, z, u, rfl⟩
end

theorem Try.own : ownKnob Try.prog.godebug = none := by kernel_rfl
theorem Try.laidOut : laidOutB Try.prog = true := by kernel_rfl
theorem U_wf {n : Int} (h : (Lit.int .u64 n).wf = true) : U n := by
  have := bounds_u64 h
  unfold U; omega
theorem I64_wf {n : Int} (h : (Lit.int .i64 n).wf = true) : I64 n := by
  have := bounds_i64 h
  unfold I64; omega
end Go.Proofs.Ytbcpfgcpekfgiaa
