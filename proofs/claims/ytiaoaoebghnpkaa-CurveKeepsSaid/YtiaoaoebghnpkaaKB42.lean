/- Part of the proof. -/
import Derived.Laws.CopyRow
import Derived.Laws.IdiomCopy
import Derived.Test.YtiaoaoebghnpkaaKB41
import Derived.Test.YtiaoaoebghnpkaaKB14
import Derived.Test.YtiaoaoebghnpkaaKB10
/- A row of ints that was just made, with what another row holds copied into it. -/
namespace Go.Proofs.Ytiaoaoebghnpkaa.P
open Go.RowKit Go.Proofs.YtiaoaoebghnpkaaW.PrintWords Go.Proofs.YtiaoaoebghnpkaaW.PrintLast
set_option linter.unusedVariables false

/-- n places, of what is ahead as many as there are; the others 0. -/
def ovr (n : Nat) (pre : List Int) : List Int := pre.take n ++ List.replicate (n - pre.length) 0
theorem ovr_length (n : Nat) (pre : List Int) : (ovr n pre).length = n := by
  unfold ovr
  rw [List.length_append, List.length_take, List.length_replicate]
  omega
def ints (l : List Int) : Array Value := (l.map (Value.int .i64)).toArray

theorem copy_pre (W : World) (g n c2 : Nat) (A2 : Option Addr) (pre : List Int) (ty : TypeId) (hg : Blk W g 3 (ints (List.replicate n 0))) (hr : Kd.C (Kd.int .i64) W A2 pre.length pre) (B : Nat) (w : World) (hB : Below B w W) (hBg : B ≤ g) :
    ∃ W', (Builtin.copy_ #[33, 33] ty #[.slice (some ⟨g, 0, none⟩) n n, .slice A2 pre.length c2]).run Try.prog W = .ok (goInt ((Nat.min pre.length n : Nat) : Int)) W' ∧ Blk W' g 3 (ints (ovr n pre)) ∧ Below B w W' ∧ ∀ k t cs, k ≠ g → Blk W k t cs → Blk W' k t cs := by
  have hu : Try.prog.underlying 33 = some (.slice 3) := by kernel_rfl
  have hs : (Try.prog.info? 3).map (·.size) = some 1 := by kernel_rfl
  by_cases hz : Nat.min pre.length n = 0
  · refine ⟨W, ?_, ?_, hB, fun _ _ _ _ h => h⟩
    · rw [run_copy_none W _ _ ty 3 _ _ n n _ _ hu hs hz, hz]; rfl
    · have : ovr n pre = List.replicate n 0 := by
        unfold ovr
        rcases Nat.eq_zero_or_pos n with rfl | hn
        · simp
        · have h0 : pre.length = 0 := by
            have := Nat.min_def (n := pre.length) (m := n)
            rw [show min pre.length n = Nat.min pre.length n from rfl] at this
            split at this <;> omega
          have : pre = [] := List.eq_nil_of_length_eq_zero h0
          subst this
          simp
      rw [this]; exact hg
  · have hmin : Nat.min pre.length n = min pre.length n := rfl
    obtain ⟨_, _, h3⟩ := Kd.reads_of_C (d := (0 : Int)) hr
    obtain ⟨ad, rfl, hc⟩ := h3 (by omega)
    have hlen : ((pre.take n).map (Value.int .i64)).length = Nat.min pre.length n := by
      rw [List.length_map, List.length_take, hmin]; omega
    have key := run_copy_row (P := Try.prog) W 33 33 ty 3 g 0 n n ad pre.length c2 (ints (List.replicate n 0)) 3 ((pre.take n).map (Value.int .i64)) hu hs hg hlen (fun j v hj => by
        rw [List.getElem?_map, List.getElem?_take] at hj
        split at hj
        case isTrue hjn =>
          rcases Nat.lt_or_ge j pre.length with hl | hl
          · rw [List.getElem?_eq_getElem hl] at hj
            have := hc j hl
            rw [this]
            rw [List.getD_eq_getElem?_getD, List.getElem?_eq_getElem hl]
            simpa using hj
          · rw [List.getElem?_eq_none hl] at hj; simp at hj
        case isFalse => simp at hj) (by rw [hlen]; simp [ints]; omega) (fun v hv => by
        obtain ⟨x, _, rfl⟩ := List.mem_map.1 hv
        rfl)
    have hcells : ((ints (List.replicate n 0)).toList.take 0 ++ (pre.take n).map (Value.int .i64) ++ (ints (List.replicate n 0)).toList.drop (0 + ((pre.take n).map (Value.int .i64)).length)).toArray = ints (ovr n pre) := by
      unfold ints ovr
      rw [hlen, hmin]
      simp only [List.take_zero, List.nil_append, Nat.zero_add, List.map_append, List.map_replicate, List.drop_replicate]
      rw [show n - min pre.length n = n - pre.length from by omega]
    rw [hcells] at key
    refine ⟨W.setRow g (ints (ovr n pre)), ?_, hg.row _, below_row hB hBg _, fun k t cs hk h => h.rowFar hk _⟩
    rw [key, hlen]
end Go.Proofs.Ytiaoaoebghnpkaa.P
