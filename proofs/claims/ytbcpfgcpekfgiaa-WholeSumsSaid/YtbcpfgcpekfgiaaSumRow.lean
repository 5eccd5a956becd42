/- The law WholeSums answers true, whatever the input. Condition: none. -/
import Derived.Test.YtbcpfgcpekfgiaaRows
import Derived.Test.YtbcpfgcpekfgiaaOpen
import Derived.Test.YtbcpfgcpekfgiaaLaw
import Derived.Test.YtbcpfgcpekfgiaaSums
namespace Go.Proofs.Ytbcpfgcpekfgiaa
open Go.ChangeShapes Go.WideShapes Go.ChangeAt Go.RowKit

theorem nums_fun {k : IntKind} {w : World} {ao : Option Addr} {n : Nat} (h0 : (Lit.int k 0).wf = true)
    (hL : ∀ j, j < n → ∃ (b off : Nat) (z : Int), ao = some ⟨b, off, none⟩ ∧ b < w.heap.size ∧ (Lit.int k z).wf = true ∧ w.cell? ⟨b, off + j, none⟩ = some (.int k z)) :
    ∃ f : Nat → Int, (∀ i, (Lit.int k (f i)).wf = true) ∧ (0 < n → ∃ p q, ao = some ⟨p, q, none⟩ ∧ p < w.heap.size ∧ ∀ i, i < n → w.cell? ⟨p, q + i, none⟩ = some (.int k (f i))) := by
  obtain ⟨l, hl, hx⟩ := list_of (R := fun j (z : Int) => (Lit.int k z).wf = true ∧ ∃ b off, ao = some ⟨b, off, none⟩ ∧ w.cell? ⟨b, off + j, none⟩ = some (.int k z)) n fun j hj => by
    obtain ⟨b, off, z, hao, _, hw, hc⟩ := hL j hj
    exact ⟨z, hw, b, off, hao, hc⟩
  refine ⟨fun i => l.getD i 0, fun i => ?_, fun hn => ?_⟩
  · dsimp only
    rw [List.getD_eq_getElem?_getD]
    rcases Nat.lt_or_ge i l.length with hi | hi
    · rw [List.getElem?_eq_getElem hi]
      exact (hx i _ (List.getElem?_eq_getElem hi)).1
    · rw [List.getElem?_eq_none hi]
      exact h0
  · obtain ⟨b, off, _, hao, hb, _⟩ := hL 0 hn
    refine ⟨b, off, hao, hb, fun i hi => ?_⟩
    obtain ⟨_, b', off', hao', hc⟩ := hx i _ (List.getElem?_eq_getElem (by omega))
    rw [hao] at hao'
    simp only [Option.some.injEq, Addr.mk.injEq] at hao'
    obtain ⟨rfl, rfl, _⟩ := hao'
    rw [hc]
    dsimp only
    rw [List.getD_eq_getElem?_getD, List.getElem?_eq_getElem (by omega)]
    rfl
theorem sums_at (A0 : Option Addr) (n0 c0 : Nat) (A1 : Option Addr) (n1 c1 : Nat) (A2 : Option Addr) (n2 c2 : Nat) (w : World) (hz0 : n0 * 1 ≤ 140737488351232) (hm1 : n1 ≤ maxLen) (hm2 : n2 ≤ maxLen)
    (h0 : ∀ j, j < n0 → ∃ (b off : Nat) (z : Int), A0 = some ⟨b, off, none⟩ ∧ b < w.heap.size ∧ (Lit.int .u8 z).wf = true ∧ w.cell? ⟨b, off + j, none⟩ = some (.int .u8 z))
    (h1 : ∀ j, j < n1 → ∃ (b off : Nat) (z : Int), A1 = some ⟨b, off, none⟩ ∧ b < w.heap.size ∧ (Lit.int .u8 z).wf = true ∧ w.cell? ⟨b, off + j, none⟩ = some (.int .u8 z))
    (h2 : ∀ j, j < n2 → ∃ (b off : Nat) (z : Int), A2 = some ⟨b, off, none⟩ ∧ b < w.heap.size ∧ (Lit.int .u16 z).wf = true ∧ w.cell? ⟨b, off + j, none⟩ = some (.int .u16 z)) :
    Calls Try.prog 7 #[.slice A0 n0 c0, .slice A1 n1 c1, .slice A2 n2 c2] w fun e w' => e = .returned (.bool true) ∧ Below w.heap.size w w' := by
  obtain ⟨b0, w0, g0⟩ := nums_fun (by decide) h0
  obtain ⟨b1, w1, g1⟩ := nums_fun (by decide) h1
  obtain ⟨b2, w2, g2⟩ := nums_fun (by decide) h2
  refine sums_any A0 A1 A2 n0 n1 n2 c0 c1 c2 b0 b1 b2 w (fun i => ?_) (fun i => ?_) (fun i => ?_) (by omega) (by unfold maxLen at hm1; omega) (by unfold maxLen at hm2; omega) g0 g1 g2
  · have := bounds_u8 (w0 i)
    unfold isByte; omega
  · have := bounds_u8 (w1 i)
    unfold isByte; omega
  · have := bounds_u16 (w2 i)
    unfold W16; omega
set_option maxRecDepth 100000 in
set_option maxHeartbeats 1000000 in
theorem sums_lifted (os : Os) (started : os.Started) (H : Type) (enc : TypeId × Value → H) :
    ReturnsInHanded {} Try.checked os 7 .any (Rows.wholeSumsSpec.pre6 enc Try.prog Try.f7 Rows.wholeSumsRow.domain false) (Rows.wholeSumsSpec.post enc Try.prog Try.f7 false true false false) := by
  refine returnsInHanded_of_change_sized (C := Try.checked) Try.own started (by kernel_rfl) Try.func7
    (ChangeSpec.witness6 (enc := enc) (C := Try.checked) false ⟨#[], #[.slice none 0 0, .slice none 0 0, .slice none 0 0], []⟩ 8 (by kernel_rfl) (by kernel_rfl) (by kernel_rfl) (by kernel_rfl)) ?_
  intro W base args ds gs before hval0 hW hcnd hsz0 _
  have hsz : (DataW.weightsEach Try.prog (Try.f7.params.toList ++ Rows.wholeSumsSpec.plain.varTypes Try.prog) (ds ++ gs)).all (· ≤ reachBytes) = true := hsz0
  have hval : ∀ (j : Nat) t v, Try.f7.params[j]? = some t → args[j]? = some v → Value.okWide Try.prog W .any base t v := hval0
  have hW' := hW
  obtain ⟨p, q, hA0, hV, rfl, hfz, hnd⟩ := hW
  have hA : DataW.TrodAll enc Try.prog W 0 (fun _ => true) true Try.f7.params.toList args.toList ds p := hA0
  have hAk := hA
  rw [Try.params7] at hA hval hsz
  obtain ⟨v0, vs0, d0, ds0, p0, q0, hargs, rfl, rfl, h0, r0⟩ := trodAll_cons hA
  obtain ⟨v1, vs1, d1, ds1, p1, q1, rfl, rfl, rfl, h1, r1⟩ := trodAll_cons r0
  obtain ⟨v2, vs2, d2, ds2, p2, q2, rfl, rfl, rfl, h2, r2⟩ := trodAll_cons r1
  obtain ⟨rfl, rfl, rfl⟩ := trodAll_nil r2
  obtain rfl : args = #[v0, v1, v2] := by simpa using congrArg List.toArray hargs
  obtain ⟨rfl, rfl⟩ := trodVars_none hV
  obtain ⟨ao0, n0, cap0, rfl, hle0, hmax0, hL0⟩ := open_nums Try.underlying59 Try.underlying5 (by kernel_rfl) (hval 0 59 v0 rfl rfl) h0
  have hz0 := len_sized hsz (j := 0) rfl rfl Try.underlying59 rfl h0
  obtain ⟨ao1, n1, cap1, rfl, hle1, hmax1, hL1⟩ := open_nums Try.underlying59 Try.underlying5 (by kernel_rfl) (hval 1 59 v1 rfl rfl) h1
  have hz1 := len_sized hsz (j := 1) rfl rfl Try.underlying59 rfl h1
  obtain ⟨ao2, n2, cap2, rfl, hle2, hmax2, hL2⟩ := open_nums Try.underlying68 Try.underlying69 (by kernel_rfl) (hval 2 68 v2 rfl rfl) h2
  have hz2 := len_sized hsz (j := 2) rfl rfl Try.underlying68 rfl h2
  clear hA0 hval0 hsz0 hsz
  simp only [List.append_nil] at hW' hAk
  refine (sums_at ao0 n0 cap0 ao1 n1 cap1 ao2 n2 cap2 W hz0 (Nat.le_trans hle1 hmax1) (Nat.le_trans hle2 hmax2) hL0 hL1 hL2).mono fun e W' ⟨he, hb⟩ => ?_
  subst he
  exact ⟨_, rfl, law_post Try.laidOut (by kernel_rfl) rfl Try.underlying4 rfl hW' hAk rfl hb⟩

/-- The law WholeSums answers true, whatever the input. Condition: none. -/
theorem wholeSums_holds : Rows.WholeSumsSaid :=
  OpenClaim.holds_of_wide 7 Try.f7 rfl rfl rfl rfl rfl rfl rfl ⟨rfl, rfl, rfl, rfl, rfl⟩ rfl rfl rfl rfl rfl (by kernel_rfl) Try.func7 (by kernel_rfl)
    (of_decide_eq_true (by kernel_rfl)) (by unfold Func.isWrapper; rw [if_neg (of_decide_eq_false (by kernel_rfl))]; exact ⟨rfl, rfl⟩)
    (fun os started H enc _ => sums_lifted os started H enc)
end Go.Proofs.Ytbcpfgcpekfgiaa
