/- Part of the proof. -/
import Derived.Maps.AppendAt
import Derived.Test.YtiaoaoebghnpkaaKA23
import Derived.Test.YtiaoaoebghnpkaaKA7
import Derived.Test.YtiaoaoebghnpkaaKA1
import Derived.Test.YtiaoaoebghnpkaaKA18
/- ratchet's Run, Back and Longest, given to the print. -/
namespace Go.Proofs.Ytiaoaoebghnpkaa
instance decU' (x : Int) : Decidable (U x) := inferInstanceAs (Decidable (0 ≤ x ∧ x < 18446744073709551616))
end Go.Proofs.Ytiaoaoebghnpkaa
namespace Go.Proofs.Ytiaoaoebghnpkaa.P
open Go.RowKit Go.Proofs.YtiaoaoebghnpkaaW.PrintWords Go.Proofs.YtiaoaoebghnpkaaW.PrintLast
set_option linter.unusedVariables false

theorem read_nums {k : IntKind} {w : World} {A : Option Addr} {l : List Int} (h : Kd.C (Kd.int k) w A l.length l) : ∀ j, j < l.length → ∃ b off, A = some ⟨b, off, none⟩ ∧ b < w.heap.size ∧ w.cell? ⟨b, off + j, none⟩ = some (.int k (l.getD j 0)) := by
  intro j hj
  obtain ⟨_, _, h3⟩ := Kd.reads_of_C (d := (0 : Int)) h
  obtain ⟨ad, e, hc⟩ := h3 (by omega)
  have h0 := hc 0 (by omega)
  have hsp : ad.spot = none := by
    have := World.cell?_spot h0
    simpa [Addr.add] using this
  obtain ⟨b, off, sp⟩ := ad
  have hsp' : sp = none := hsp
  subst hsp'
  have ha : ∀ n, (⟨b, off, none⟩ : Addr).add n = ⟨b, off + n, none⟩ := fun n => by
    unfold Addr.add
    by_cases h : n = 0 <;> simp [h]
  have hcj := hc j hj
  rw [ha] at hcj
  refine ⟨b, off, e, ?_, hcj⟩
  rcases Nat.lt_or_ge b w.heap.size with h' | h'
  · exact h'
  · unfold World.cell? at hcj
    rw [Array.getElem?_eq_none h'] at hcj; simp at hcj

def ratchet_Run.f (l : List Int) : Option (List Int) := if l.length * 8 ≤ 140737488351232 ∧ ∀ x ∈ l, U x then some (runL l) else none
theorem ratchet_Run.calls (A0 : Option Addr) (c0 : Nat) (l0 : List Int) (r : List Int) (w : World) (hr0 : Kd.C (Kd.int .u64) w A0 l0.length l0) (hc0 : l0.length ≤ c0) (h : ratchet_Run.f l0 = some r) :
    Calls Try.prog 50 #[.slice A0 l0.length c0] w fun e w' => ∃ v0_ : Value, e = .returned (v0_) ∧ Kd.R (Kd.int .u64) 23 w' w.heap.size (fun _ => True) v0_ r ∧ Below w.heap.size w w' := by
  unfold ratchet_Run.f at h
  split at h
  case isTrue hc =>
    simp only [Option.some.injEq] at h
    obtain rfl := h
    refine (run_any A0 c0 l0 w (read_nums hr0) hc.2 hc.1).mono ?_
    rintro e w' ⟨g, rfl, hg, hb, hB⟩
    refine ⟨_, rfl, Kd.R_of_own ?_ (fun _ _ => trivial), hB⟩
    have e1 : (runL l0).length = l0.length := runL_length l0
    rw [e1]
    exact ⟨by simp [encs, e1], .inr ⟨g, l0.length, ((runL l0).map (Value.int .u64)).toArray, rfl, hg, hb, Nat.le_refl _, by have := hc.1; unfold maxLen; omega, by simp [e1], by rw [Nat.mul_one, ← e1]; simp only [encs]; exact List.take_of_length_le (by simp)⟩⟩
  case isFalse => exact absurd h (by simp)

def ratchet_Back.f (l : List Int) : Option (List Int) := if l.length * 8 ≤ 140737488351232 ∧ ∀ x ∈ l, U x then some (backL l l.length) else none
def ratchet_Longest.f (l : List Int) : Option (Int × Int) := if l.length * 8 ≤ 140737488351232 ∧ ∀ x ∈ l, U x then some (longL l l.length) else none
end Go.Proofs.Ytiaoaoebghnpkaa.P
