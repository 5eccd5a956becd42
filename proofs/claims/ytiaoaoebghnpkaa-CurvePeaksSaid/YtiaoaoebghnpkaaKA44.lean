/- Part of the proof. -/
import Derived.Test.YtiaoaoebghnpkaaKA36
import Derived.Test.YtiaoaoebghnpkaaKA43
import Derived.Test.YtiaoaoebghnpkaaKA31
/- curve.Only, as the print tells it, in closed form. -/
namespace Go.Proofs.Ytiaoaoebghnpkaa.P.Cv
open Go.RowKit Go.Proofs.YtiaoaoebghnpkaaW.PrintWords Go.Proofs.YtiaoaoebghnpkaaW.PrintLast Go.Proofs.YtiaoaoebghnpkaaW.PrintMore
/-- The first k packets are done. -/
def midS (l : List S68) (cs : List Int) (worst : Int) (k : Nat) : List S68 := onlyS l cs worst k ++ l.drop k
theorem midS_length {l : List S68} {cs : List Int} {worst : Int} {k : Nat} (hk : k ≤ l.length) : (midS l cs worst k).length = l.length := by
  unfold midS
  rw [List.length_append, onlyS_length, List.length_drop]
  omega
theorem midS_get {l : List S68} {cs : List Int} {worst : Int} {k : Nat} : (midS l cs worst k).getD k z68 = l.getD k z68 := by
  unfold midS
  rw [List.getD_eq_getElem?_getD, List.getElem?_append_right (by rw [onlyS_length]; exact Nat.le_refl _), onlyS_length, Nat.sub_self, List.getElem?_drop, List.getD_eq_getElem?_getD]
  rfl
theorem midS_set {l : List S68} {cs : List Int} {worst : Int} {k : Nat} (hk : k < l.length) : (midS l cs worst k).set k (onlyE l cs worst k) = midS l cs worst (k + 1) := by
  unfold midS
  rw [onlyS_succ, List.set_append_right _ _ (by rw [onlyS_length]; exact Nat.le_refl _), onlyS_length, Nat.sub_self, List.append_assoc]
  congr 1
  rw [List.drop_eq_getElem_cons hk]
  rfl
theorem midS_same {l : List S68} {cs : List Int} {worst : Int} {k : Nat} (hk : k < l.length) (h : onlyE l cs worst k = l.getD k z68) : midS l cs worst k = midS l cs worst (k + 1) := by
  unfold midS
  rw [onlyS_succ, List.append_assoc]
  congr 1
  rw [List.drop_eq_getElem_cons hk, h, List.getD_eq_getElem?_getD, List.getElem?_eq_getElem hk]
  rfl
theorem only_l0 {l : List S68} {cs : List Int} {worst : Int} (hl : l.length ≤ 1000000) : ∀ d i, i + d = l.length → Ev (fun n => curve_Only.l0 n cs worst (midS l cs worst i) (l.length : Int) (i : Int)) (onlyS l cs worst l.length) := by
  intro d
  induction d with
  | zero =>
    intro i hi
    obtain rfl : i = l.length := by omega
    refine Ev.step (f := fun _ => some (onlyS l cs worst l.length)) (fun n => ?_) (Ev.now _)
    simp only [curve_Only.l0]
    rw [if_neg (by omega)]
    unfold midS
    rw [List.drop_eq_nil_of_le (Nat.le_refl _), List.append_nil]
  | succ d ih =>
    intro i hi
    have hm := midS_length (l := l) (cs := cs) (worst := worst) (show i ≤ l.length by omega)
    have hg := midS_get (l := l) (cs := cs) (worst := worst) (k := i)
    refine Ev.step (f := fun n => curve_Only.l0 n cs worst (midS l cs worst (i + 1)) (l.length : Int) ((i + 1 : Nat) : Int)) (fun n => ?_) (ih (i + 1) (by omega))
    simp only [curve_Only.l0]
    by_cases h1 : cs.length ≤ i
    · have he : (⟨(l.getD i z68).f0, 0⟩ : S68) = onlyE l cs worst i := by unfold onlyE; rw [if_pos (.inl h1)]
      rw [if_pos (by omega), if_pos (by omega), if_pos (by omega), if_pos (by omega), rdT_nat, hg, w64_up (by omega), Int.toNat_natCast, he, midS_set (by omega)]
    · rw [if_pos (by omega), if_neg (by omega), if_pos (by omega), if_pos (by omega), rd_nat]
      by_cases h2 : worst < cs.getD i 0
      · have he : (⟨(l.getD i z68).f0, 0⟩ : S68) = onlyE l cs worst i := by unfold onlyE; rw [if_pos (.inr h2)]
        rw [if_pos h2, if_pos (by omega), rdT_nat, hg, w64_up (by omega), Int.toNat_natCast, he, midS_set (by omega)]
      · have he : onlyE l cs worst i = l.getD i z68 := by
          unfold onlyE
          rw [if_neg (by rintro (h | h) <;> contradiction)]
        rw [if_neg h2, w64_up (by omega), midS_same (by omega) he]
theorem only_ev {l : List S68} {cs : List Int} {worst : Int} (hl : l.length ≤ 1000000) : Ev (fun n => curve_Only.f n l cs worst) (onlyS l cs worst l.length) := by
  refine Ev.congr (fun n => ?_) (only_l0 (cs := cs) (worst := worst) hl l.length 0 (by omega))
  unfold curve_Only.f api_Sample.f
  rw [if_pos hl]
  rfl
end Go.Proofs.Ytiaoaoebghnpkaa.P.Cv
