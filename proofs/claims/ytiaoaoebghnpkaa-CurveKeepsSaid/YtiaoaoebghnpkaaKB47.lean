/- Part of the proof. -/
import Derived.Test.YtiaoaoebghnpkaaKB43
import Derived.Test.YtiaoaoebghnpkaaKB10
/- meter.Run, told as the printed parts tell a function: rows as lists. -/
namespace Go.Proofs.Ytiaoaoebghnpkaa.P
set_option linter.unusedVariables false
open Go.RowKit Go.Proofs.YtiaoaoebghnpkaaW.PrintWords Go.Proofs.YtiaoaoebghnpkaaW.PrintLast Go.Proofs.YtiaoaoebghnpkaaW.PrintMore


def pairG (x : S68) : Int × Int := (x.f0, x.f1)
def meter_Run.f (m0 : Int) (m1 : Bool) (m2 m3 m4 m5 : Int) (l1 : List S68) (l2 : List Int) : Option (List Int × Int × Int × Int × Bool) :=
  if l1.length ≤ 1000 then (meter_New.f m0 m1 m2 m3 m4 m5).bind fun q => if q.2.2.2.2 = 0 then (mrun m0 m1 m2 m3 m4 m5 (l1.map pairG) (ovr l1.length l2) q.1 q.2.1 q.2.2.1 q.2.2.2.1 l1.length).bind fun z => some (z.2, z.1.1, z.1.2.1, z.1.2.2.1, z.1.2.2.2) else none else none
theorem ovr_len (n : Nat) (l : List Int) : (ovr n l).length = n := by
  unfold ovr
  rw [List.length_append, List.length_take, List.length_replicate]
  omega
theorem read_pairs {w : World} {A : Option Addr} {l : List S68} (h : Kd.C k68 w A l.length l) : ∀ k, k < (l.map pairG).length → ∃ b off, A = some ⟨b, off, none⟩ ∧ b < w.heap.size ∧ w.cell? ⟨b, off + k * 2, none⟩ = some (.int .u64 ((l.map pairG).getD k (0, 0)).1) ∧ w.cell? ⟨b, off + k * 2 + 1, none⟩ = some (.int .i64 ((l.map pairG).getD k (0, 0)).2) := by
  intro j hj
  rw [List.length_map] at hj
  obtain ⟨ad, e, h0, h1⟩ := at_T68 h (j : Int) (by omega) (by omega)
  simp only [Int.toNat_natCast] at h0 h1
  have hz := (at_T68 h (0 : Int) (by omega) (by omega))
  obtain ⟨ad', e', hz0, _⟩ := hz
  obtain rfl : ad = ad' := by rw [e] at e'; exact Option.some.inj e'
  have hsp : ad.spot = none := by
    have := World.cell?_spot hz0
    simpa [Addr.add] using this
  obtain ⟨b, off, sp⟩ := ad
  have hsp' : sp = none := hsp
  subst hsp'
  have ha : ∀ n, (⟨b, off, none⟩ : Addr).add n = ⟨b, off + n, none⟩ := fun n => by
    unfold Addr.add
    by_cases h : n = 0 <;> simp [h]
  rw [ha] at h0 h1
  have er : rd_T68 l (j : Int) = l[j] := by
    unfold rd_T68
    rw [Int.toNat_natCast, List.getD_eq_getElem?_getD, List.getElem?_eq_getElem hj]
    rfl
  have eg : (l.map pairG).getD j (0, 0) = pairG l[j] := by
    rw [List.getD_eq_getElem?_getD, List.getElem?_map, List.getElem?_eq_getElem hj]
    rfl
  rw [er] at h0 h1
  rw [eg]
  refine ⟨b, off, e, ?_, h0, h1⟩
  rcases Nat.lt_or_ge b w.heap.size with h' | h'
  · exact h'
  · unfold World.cell? at h0
    rw [Array.getElem?_eq_none h'] at h0
    simp at h0
theorem meter_Run.calls (m0 : Int) (m1 : Bool) (m2 m3 m4 m5 : Int) (A1 : Option Addr) (c1 : Nat) (l1 : List S68) (A2 : Option Addr) (c2 : Nat) (l2 : List Int) (r1 : List Int) (r2 r3 r4 : Int) (r5 : Bool) (w : World)
    (hr1 : Kd.C k68 w A1 l1.length l1) (hc1 : l1.length ≤ c1) (hr2 : Kd.C (Kd.int .i64) w A2 l2.length l2) (hc2 : l2.length ≤ c2) (h : meter_Run.f m0 m1 m2 m3 m4 m5 l1 l2 = some (r1, r2, r3, r4, r5)) :
    Calls Try.prog 36 #[.agg #[.int .i64 m0, .bool m1, .int .u64 m2, .int .u64 m3, .int .u64 m4, .int .u64 m5], .slice A1 l1.length c1, .slice A2 l2.length c2] w fun e w' => ∃ v0_ : Value, e = .returned (.tuple #[v0_, .agg #[.int .u64 r2, .int .u64 r3, .int .u64 r4, .bool r5]]) ∧ Kd.R (Kd.int .i64) 3 w' w.heap.size (fun _ => True) v0_ r1 ∧ Below w.heap.size w w' := by
  unfold meter_Run.f at h
  by_cases hl : l1.length ≤ 1000
  · rw [if_pos hl] at h
    obtain ⟨⟨s0, s1, s2, s3, q4⟩, hq, h⟩ := Option.bind_eq_some_iff.1 h
    dsimp only at h
    by_cases h4 : q4 = 0
    · rw [if_pos h4] at h
      subst h4
      obtain ⟨⟨⟨z0, z1, z2, z3⟩, out⟩, hz, h⟩ := Option.bind_eq_some_iff.1 h
      simp only [Option.some.injEq, Prod.mk.injEq] at h
      obtain ⟨rfl, rfl, rfl, rfl, rfl⟩ := h
      have e1 : (l1.map pairG).length = l1.length := List.length_map _
      have hol : out.length = l1.length := by
        have := mrun_length _ hz
        dsimp only at this
        rw [this, ovr_len]
      have hrun := mrun_any m0 m1 m2 m3 m4 m5 A1 c1 (l1.map pairG) A2 c2 l2 s0 s1 s2 s3 z0 z1 z2 z3 out w hq (by rw [e1]; exact hz) (by omega) (read_pairs hr1) hr2
      rw [e1] at hrun
      refine hrun.mono ?_
      rintro e w' ⟨g, rfl, hg, hb, hB⟩
      refine ⟨_, rfl, Kd.R_of_own ?_ (fun _ _ => trivial), hB⟩
      have hb' : Blk w' g 3 (out.map (Value.int .i64)).toArray := hb
      rw [← hol]
      exact ⟨by simp [encs], .inr ⟨g, out.length, (out.map (Value.int .i64)).toArray, rfl, hg, hb', Nat.le_refl _, by unfold maxLen; omega, by simp, by rw [Nat.mul_one]; simp only [encs]; exact List.take_of_length_le (by simp)⟩⟩
    · rw [if_neg h4] at h
      exact absurd h (by simp)
  · rw [if_neg hl] at h
    exact absurd h (by simp)
end Go.Proofs.Ytiaoaoebghnpkaa.P
