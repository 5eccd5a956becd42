/- Part of the proof. -/
import Derived.WalkSpells
import Derived.Lib.Hide
import Derived.Test.YtiaoaoebghnpkaaKA18
/- slices.Clone of packets: new memory, the same packets. -/
namespace Go.Proofs.Ytiaoaoebghnpkaa.P
open Go.RowKit Go.Proofs.YtiaoaoebghnpkaaW.PrintWords Go.Proofs.YtiaoaoebghnpkaaW.PrintLast Go.Proofs.YtiaoaoebghnpkaaW.PrintMore
def api_Sample.f (l : List S68) : Option (List S68) := if l.length ≤ 1000000 then some l else none
set_option maxRecDepth 100000 in
set_option maxHeartbeats 4000000 in
theorem clone_some (ad : Addr) (c0 : Nat) (l0 : List S68) (w : World) (hr0 : Kd.C k68 w (some ad) l0.length l0) (hl : l0.length ≤ 1000000) :
    Calls Try.prog 49 #[.slice (some ad) l0.length c0] w fun e w' => ∃ v0_ : Value, e = .returned v0_ ∧ Kd.R k68 68 w' w.heap.size (fun _ => True) v0_ l0 ∧ Below w.heap.size w w' := by
  have HC := Lib.hid hr0
  clear hr0
  have eq0 : ∀ W : World, (binOp .eql 22 (.slice (some ad) l0.length c0) (.slice none 0 0)).run Try.prog W = .ok (.bool false) W := fun W => by first | exact Lib.run_eql_slice_nil _ _ _ _ _ _ Try.underlying22 | exact Lib.run_eql_slice_nil _ _ _ _ _ _ _ _ Try.underlying22
  go_enter Try.func49, Try.ntmps49
  go_wp2_with (at_builtin; refine Kd.R_append_rows (Rr := k68.K w) k68 (w0 := w) w.heap.size rfl (.tmp 5) (.tmp 6) 22 68 (.agg #[.int .u64 0, .int .i64 0]) 16 rfl Try.underlying22 info68 rfl (by decide) (by decide) (.slice (some ⟨w.heap.size, 0, none⟩) 0 0) [] l0 (some ad) l0.length c0 (fun _ => True) (fun _ => False) (by first | rfl | (go_simp; done) | (go_simp; rfl)) (by first | rfl | (go_simp; done) | (go_simp; rfl)) ?aO ?aR ?aK (fun _ hk => hk.elim) (fun _ _ => trivial) ?aB ?aS ?aL ?_)
  case aO => exact ⟨fun _ _ => trivial, [], ⟨rfl, .inr ⟨w.heap.size, 0, #[], rfl, Nat.le_refl _, Blk.new w 68 #[], Nat.le_refl _, by decide, rfl, rfl⟩⟩, Reps.none _ _⟩
  case aR => exact ReadsRow.imp_ HC.out ((Below.refl _ _).alloc (Nat.le_refl _) _) (fun _ _ h => h)
  case aK =>
    intro x cs h
    rw [k68_open h]
    exact k68_mkM _ _ _ x
  case aB => exact (Below.refl _ _).alloc (Nat.le_refl _) _
  case aS => simp
  case aL => simp; omega
  intro v1 w1 hR hB _ _
  have HR := Lib.hid hR
  have HB := Lib.hid hB
  clear hR hB
  go_wp2_with fail
  go_ret
  exact ⟨_, rfl, HR.out, HB.out⟩
set_option maxRecDepth 100000 in
theorem clone_none (n c0 : Nat) (w : World) : Calls Try.prog 49 #[.slice none n c0] w fun e w' => ∃ v0_ : Value, e = .returned v0_ ∧ Kd.R k68 68 w' w.heap.size (fun _ => True) v0_ ([] : List S68) ∧ Below w.heap.size w w' := by
  have eq0 : ∀ W : World, (binOp .eql 22 (.slice none n c0) (.slice none 0 0)).run Try.prog W = .ok (.bool true) W := fun W => by first | exact Lib.run_eql_slice_nil _ _ _ _ _ _ Try.underlying22 | exact Lib.run_eql_slice_nil _ _ _ _ _ _ _ _ Try.underlying22
  go_enter Try.func49, Try.ntmps49
  go_wp2_with fail
  go_ret
  exact ⟨_, rfl, Kd.R_nil _ _ _ _ _, Below.refl _ _⟩
theorem api_Sample.calls (A0 : Option Addr) (c0 : Nat) (l0 : List S68) (r : List S68) (w : World) (hr0 : Kd.C k68 w A0 l0.length l0) (_hc0 : l0.length ≤ c0) (h : api_Sample.f l0 = some r) :
    Calls Try.prog 49 #[.slice A0 l0.length c0] w fun e w' => ∃ v0_ : Value, e = .returned v0_ ∧ Kd.R k68 68 w' w.heap.size (fun _ => True) v0_ r ∧ Below w.heap.size w w' := by
  unfold api_Sample.f at h
  split at h
  case isTrue hl =>
    obtain rfl := Option.some.inj h
    cases A0 with
    | some ad => exact clone_some ad c0 l0 w hr0 hl
    | none =>
      have h0 : l0 = [] := by
        rcases Nat.eq_zero_or_pos l0.length with h0 | h0
        · exact List.eq_nil_of_length_eq_zero h0
        · obtain ⟨ad, e, _⟩ := hr0.2.2 h0
          cases e
      subst h0
      exact clone_none 0 c0 w
  case isFalse => exact absurd h (by simp)
end Go.Proofs.Ytiaoaoebghnpkaa.P
