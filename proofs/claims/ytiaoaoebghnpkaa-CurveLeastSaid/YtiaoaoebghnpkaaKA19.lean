/- Part of the proof. -/
import Derived.Test.YtiaoaoebghnpkaaKA6
import Derived.Test.YtiaoaoebghnpkaaKA18
import Derived.Test.YtiaoaoebghnpkaaKA4
/- Packets that came in, as a list. -/
namespace Go.Proofs.Ytiaoaoebghnpkaa.P.Cv
open Go.ChangeShapes Go.WideShapes Go.ChangeAt Go.RowKit Go.Proofs.YtiaoaoebghnpkaaW.PrintWords Go.Proofs.YtiaoaoebghnpkaaW.PrintLast Go.Proofs.YtiaoaoebghnpkaaW.PrintMore
def okU (x : S68) : Prop := U x.f0 ∧ I64 x.f1
theorem samp_list {w : World} {ao : Option Addr} {n : Nat} (hmax : n ≤ 9223372036854775807)
    (hL : ∀ k, k < n → ∃ (b off : Nat) (cs : List Value), ao = some ⟨b, off, none⟩ ∧ b < w.heap.size ∧ cellsOk [some .u64, some .i64] cs ∧ ∀ i, i < 2 → w.cell? ⟨b, off + k * 2 + i, none⟩ = cs[i]?) :
    ∃ xs : List S68, xs.length = n ∧ (∀ p ∈ xs, okU p) ∧ Kd.C k68 w ao n xs := by
  obtain ⟨xs, hl, hx⟩ := list_of (R := fun k (p : S68) => okU p ∧ ∃ b off, ao = some ⟨b, off, none⟩ ∧ ∀ i u, [Value.int .u64 p.f0, .int .i64 p.f1][i]? = some u → w.cell? ⟨b, off + k * 2 + i, none⟩ = some u) n fun k hk => by
    obtain ⟨b, off, cs, hao, _, hcs, hcell⟩ := hL k hk
    obtain ⟨_, _, rfl, ⟨z0, rfl, w0⟩, _, _, rfl, ⟨z1, rfl, w1⟩, rfl⟩ := hcs
    refine ⟨⟨z0, z1⟩, ⟨U_wf w0, I64_wf w1⟩, b, off, hao, fun i u hu => ?_⟩
    have hi : i < 2 := by
      have := (List.getElem?_eq_some_iff.1 hu).1
      simpa using this
    rw [hcell i hi]
    exact hu
  refine ⟨xs, hl, fun p hp => ?_, hl, hmax, fun hn => ?_⟩
  · obtain ⟨j, hj, rfl⟩ := List.mem_iff_getElem.1 hp
    exact (hx j _ (List.getElem?_eq_getElem hj)).1
  · obtain ⟨b, off, _, hao, _⟩ := hL 0 hn
    refine ⟨⟨b, off, none⟩, hao, fun j p hj => ⟨[.int .u64 p.f0, .int .i64 p.f1], rfl, k68_mk w p, fun i u hu => ?_⟩⟩
    obtain ⟨_, b', off', hao', hc⟩ := hx j p hj
    rw [hao] at hao'
    obtain ⟨rfl, rfl⟩ : b = b' ∧ off = off' := by simpa using hao'
    rw [add_mk, ← Nat.add_assoc]
    exact hc i u hu
theorem samp_take {w : World} {A : Option Addr} {l : List S68} (h : Kd.C k68 w A l.length l) (m : Nat) (hm : m ≤ l.length) : Kd.C k68 w A m (l.take m) := by
  obtain ⟨_, h2, h3⟩ := h
  refine ⟨by rw [List.length_take]; omega, by omega, fun hn => ?_⟩
  obtain ⟨ad, e, hc⟩ := h3 (by omega)
  refine ⟨ad, e, fun j p hj => hc j p ?_⟩
  rw [List.getElem?_take] at hj
  split at hj
  · exact hj
  · cases hj
theorem okU_take {l : List S68} (h : ∀ p ∈ l, okU p) (m : Nat) : ∀ p ∈ l.take m, okU p := fun p hp => h p (List.mem_of_mem_take hp)
theorem okU_times {l : List S68} (h : ∀ p ∈ l, okU p) : ∀ x ∈ l, U x.f0 := fun x hx => (h x hx).1
end Go.Proofs.Ytiaoaoebghnpkaa.P.Cv
