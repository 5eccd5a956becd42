/- Two arrays of two words: whether they are the same. -/
import Derived.Test.YtkefamalcmglgaaP0
import Derived.ChangeKeysEq
namespace Go.Proofs.Ytkefamalcmglgaa.P
open Go.RowKit

theorem eqA_two (w : World) (a b c d : Int) :
    (Op.equalIn 10000 41 (.agg #[.int .u64 a, .int .u64 b]) (.agg #[.int .u64 c, .int .u64 d])).run Try.prog w = .ok (a == c && b == d) w := by
  have hu : Try.prog.underlying 41 = some (.array 2 22) := by kernel_rfl
  have hi : ∃ i, Try.prog.info? 22 = some i := ⟨_, rfl⟩
  obtain ⟨i, hi⟩ := hi
  have p0 : ∀ x y : Value, (part 22 #[x, y] (0 * Try.prog.cellsOf 22)).run Try.prog w = .ok x w := fun _ _ => by kernel_rfl
  have e0 : ∀ x y : Int, (Op.equalIn 9999 22 (.int .u64 x) (.int .u64 y)).run Try.prog w = .ok (x == y) w := fun x y => run_equalIn_int w 9998 22 .u64 .u64 x y (by kernel_rfl)
  refine (run_equalIn_array w 9999 _ _ hu hi).trans ?_
  have hr : List.range 2 = [0, 1] := rfl
  rw [hr]
  simp only [Op.eqItems, Sem.run_bind, p0, e0, Result.andThen_ok]
  have p2 : ∀ x y : Value, (part 22 #[x, y] (Try.prog.cellsOf 22)).run Try.prog w = .ok y w := fun _ _ => by kernel_rfl
  rcases Bool.eq_false_or_eq_true (a == c) with h | h
  · rw [h]
    simp [p2, e0]
    cases hbd : (b == d)
    · simpa using hbd
    · simpa using hbd
  · rw [h]
    simp
end Go.Proofs.Ytkefamalcmglgaa.P
