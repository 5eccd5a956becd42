/- Part of the proof. -/
import Derived.Lib.Hide
import Derived.Deep.DeepCutAuto
import Derived.Test.YtiaoaoebghnpkaaKA18
import Derived.Test.YtiaoaoebghnpkaaKA24
import Derived.Test.YtiaoaoebghnpkaaKA35
/- The document's Only: packets of which those of a worse colour have no bytes; and the code's. -/
namespace Go.Proofs.Ytiaoaoebghnpkaa.P
open Go.RowKit Go.Proofs.YtiaoaoebghnpkaaW.PrintWords Go.Proofs.YtiaoaoebghnpkaaW.PrintLast Go.Proofs.YtiaoaoebghnpkaaW.PrintMore
/-- A packet without its bytes, if its colour is worse. -/
def onlyE (l : List S68) (cs : List Int) (worst : Int) (i : Nat) : S68 := if cs.length ≤ i ∨ worst < cs.getD i 0 then ⟨(l.getD i z68).f0, 0⟩ else l.getD i z68
def onlyS (l : List S68) (cs : List Int) (worst : Int) (k : Nat) : List S68 := (List.range k).map (onlyE l cs worst)
theorem onlyS_succ (l : List S68) (cs : List Int) (worst : Int) (k : Nat) : onlyS l cs worst (k + 1) = onlyS l cs worst k ++ [onlyE l cs worst k] := by simp [onlyS, List.range_succ]
theorem onlyS_length (l : List S68) (cs : List Int) (worst : Int) (k : Nat) : (onlyS l cs worst k).length = k := by simp [onlyS]
theorem onlyE_cut {l : List S68} {cs : List Int} {worst : Int} {k : Nat} {x0 x1 : Int} (e : l.getD k z68 = ⟨x0, x1⟩) (h : cs.length ≤ k ∨ worst < cs.getD k 0) : onlyE l cs worst k = ⟨x0, 0⟩ := by
  unfold onlyE
  rw [if_pos h, e]
theorem onlyE_keep {l : List S68} {cs : List Int} {worst : Int} {k : Nat} {x0 x1 : Int} (e : l.getD k z68 = ⟨x0, x1⟩) (h1 : ¬ cs.length ≤ k) (h2 : ¬ worst < cs.getD k 0) : onlyE l cs worst k = ⟨x0, x1⟩ := by
  unfold onlyE
  rw [if_neg (by rintro (h | h) <;> contradiction), e]
set_option maxRecDepth 100000 in
set_option maxHeartbeats 8000000 in
theorem ronly_any (A0 : Option Addr) (c0 : Nat) (l : List S68) (A1 : Option Addr) (c1 : Nat) (cs : List Int) (worst : Int) (w : World) (hl : l.length ≤ 1000000) (hr0 : Kd.C k68 w A0 l.length l) (hr1 : Kd.C (Kd.int .i64) w A1 cs.length cs) :
    Calls Try.prog 20 #[.slice A0 l.length c0, .slice A1 cs.length c1, .int .i64 worst] w fun e w' => ∃ v0_ : Value, e = .returned v0_ ∧ Kd.R k68 68 w' w.heap.size (fun _ => True) v0_ (onlyS l cs worst l.length) ∧ Below w.heap.size w w' := by
  have HC := Lib.hid hr0
  have HD := Lib.hid hr1
  clear hr0 hr1
  go_enter Try.func20, Try.ntmps20
  go_wp2
  go_loopw [7, 8] (fun v i wr => ∃ k : Nat, k ≤ l.length ∧ i = .int .i64 k ∧ Hid (Kd.R k68 68 wr w.heap.size (fun _ => True) v (onlyS l cs worst k)) ∧ Hid (Below w.heap.size w wr)) (fun _ i _ => l.length - (intOf i).toNat)
  case atStart => exact ⟨0, Nat.zero_le _, rfl, Lib.hid (Kd.R_nil _ _ _ _ _), Lib.hid (Below.refl _ _)⟩
  case round =>
    obtain ⟨k, hk, rfl, HO, HB⟩ := hrel
    by_cases hlt : k < l.length
    · obtain ⟨ad, ead, hx0, hx1⟩ := at_T68 (Kd.C_below HC.out HB.out) (k : Int) (by omega) (by omega)
      cases ead
      rw [rdT_nat] at hx0 hx1
      obtain ⟨x0, x1, hx⟩ : ∃ x0 x1, l.getD k z68 = ⟨x0, x1⟩ := ⟨_, _, rfl⟩
      rw [hx] at hx0 hx1
      simp only [Int.toNat_natCast] at hx0 hx1
      have hkk : (k : Int) < (l.length : Int) := by omega
      have HXX := Lib.hid hx
      clear hx
      by_cases h1 : cs.length ≤ k
      · have h1' : (cs.length : Int) ≤ (k : Int) := by omega
        have HE := Lib.hid (onlyE_cut (worst := worst) HXX.out (.inl h1))
        go_upto_region 8 with fail
        have m9 := Blk.new wr 68 #[.int .u64 x0, .int .i64 0]
        have nB1 : Below wr.heap.size wr (wr.alloc (.cells #[.int .u64 x0, .int .i64 0] 68)) := (Below.refl _ _).alloc (Nat.le_refl _) _
        have HO5 := Lib.hid (Kd.R_below HO.out nB1)
        have HB5 := Lib.hid (HB.out.trans (nB1.mono HB.out.size))
        clear nB1 hx0 hx1
        generalize wr.alloc (.cells #[.int .u64 x0, .int .i64 0] 68) = W5 at *
        generalize wr.heap.size = g9 at *
        have p0 := m9.cell 0
        have p1 := m9.cell 1
        have pf0 := m9.frozen 0
        have pf1 := m9.frozen 1
        simp only [List.getElem?_toArray, List.getElem?_cons_zero, List.getElem?_cons_succ] at p0 p1
        go_wp2_with (at_builtin; refine Kd.R_append k68 (w0 := w) w.heap.size rfl (.tmp 33) (.tmp 35) 22 68 (.agg #[.int .u64 0, .int .i64 0]) 16 rfl Try.underlying22 info68 rfl (by decide) (by decide) u7 (onlyS l cs worst k) (⟨x0, 0⟩ : S68) [.int .u64 x0, .int .i64 0] (fun _ => True) (fun _ => False) (by first | rfl | (go_simp; done) | (go_simp; rfl)) (by first | rfl | (go_simp; done) | (go_simp; rfl)) ?aP (fun _ hk => hk.elim) (fun _ _ => trivial) ?aO ?aB ?aS ?aL ?_)
        case aP => exact k68_mkM _ _ _ (⟨x0, 0⟩ : S68)
        case aO => exact HO5.out
        case aB => exact HB5.out
        case aS => exact HB5.out.size
        case aL => rw [onlyS_length]; omega
        intro v1 w1 hR hB _ _
        rw [← HE.out, ← onlyS_succ] at hR
        have HR1 := Lib.hid hR
        have HB1 := Lib.hid hB
        clear hR hB
        clear p0 pf0 p1 pf1
        clear m9
        go_wp2_with fail
        go_roundw
        case rel => exact ⟨k + 1, by omega, by go_num, HR1, HB1⟩
        case measure => simp [intOf]; omega
      · have h1' : (k : Int) < (cs.length : Int) := by omega
        obtain ⟨b1, o1, e1, _, hc1⟩ := read_nums (Kd.C_below HD.out HB.out) k (by omega)
        obtain ⟨c, hc⟩ : ∃ c, c = cs.getD k 0 := ⟨_, rfl⟩
        rw [← hc] at hc1
        subst e1
        by_cases h2 : worst < c
        · have HE := Lib.hid (onlyE_cut (worst := worst) HXX.out (.inr (by rw [← hc]; exact h2)))
          clear hc
          go_upto_region 8 with fail
          have m9 := Blk.new wr 68 #[.int .u64 x0, .int .i64 0]
          have nB1 : Below wr.heap.size wr (wr.alloc (.cells #[.int .u64 x0, .int .i64 0] 68)) := (Below.refl _ _).alloc (Nat.le_refl _) _
          have HO5 := Lib.hid (Kd.R_below HO.out nB1)
          have HB5 := Lib.hid (HB.out.trans (nB1.mono HB.out.size))
          clear nB1 hx0 hx1
          generalize wr.alloc (.cells #[.int .u64 x0, .int .i64 0] 68) = W5 at *
          generalize wr.heap.size = g9 at *
          have p0 := m9.cell 0
          have p1 := m9.cell 1
          have pf0 := m9.frozen 0
          have pf1 := m9.frozen 1
          simp only [List.getElem?_toArray, List.getElem?_cons_zero, List.getElem?_cons_succ] at p0 p1
          go_wp2_with (at_builtin; refine Kd.R_append k68 (w0 := w) w.heap.size rfl (.tmp 33) (.tmp 35) 22 68 (.agg #[.int .u64 0, .int .i64 0]) 16 rfl Try.underlying22 info68 rfl (by decide) (by decide) u7 (onlyS l cs worst k) (⟨x0, 0⟩ : S68) [.int .u64 x0, .int .i64 0] (fun _ => True) (fun _ => False) (by first | rfl | (go_simp; done) | (go_simp; rfl)) (by first | rfl | (go_simp; done) | (go_simp; rfl)) ?aP (fun _ hk => hk.elim) (fun _ _ => trivial) ?aO ?aB ?aS ?aL ?_)
          case aP => exact k68_mkM _ _ _ (⟨x0, 0⟩ : S68)
          case aO => exact HO5.out
          case aB => exact HB5.out
          case aS => exact HB5.out.size
          case aL => rw [onlyS_length]; omega
          intro v1 w1 hR hB _ _
          rw [← HE.out, ← onlyS_succ] at hR
          have HR1 := Lib.hid hR
          have HB1 := Lib.hid hB
          clear hR hB
          clear p0 pf0 p1 pf1
          clear m9
          go_wp2_with fail
          go_roundw
          case rel => exact ⟨k + 1, by omega, by go_num, HR1, HB1⟩
          case measure => simp [intOf]; omega
        · have HE := Lib.hid (onlyE_keep (worst := worst) HXX.out h1 (by rw [← hc]; exact h2))
          have h2' : c ≤ worst := by omega
          clear hc
          go_upto_region 8 with fail
          have m9 := Blk.new wr 68 #[.int .u64 x0, .int .i64 x1]
          have nB1 : Below wr.heap.size wr (wr.alloc (.cells #[.int .u64 x0, .int .i64 x1] 68)) := (Below.refl _ _).alloc (Nat.le_refl _) _
          have HO5 := Lib.hid (Kd.R_below HO.out nB1)
          have HB5 := Lib.hid (HB.out.trans (nB1.mono HB.out.size))
          clear nB1 hx0 hx1
          generalize wr.alloc (.cells #[.int .u64 x0, .int .i64 x1] 68) = W5 at *
          generalize wr.heap.size = g9 at *
          have p0 := m9.cell 0
          have p1 := m9.cell 1
          have pf0 := m9.frozen 0
          have pf1 := m9.frozen 1
          simp only [List.getElem?_toArray, List.getElem?_cons_zero, List.getElem?_cons_succ] at p0 p1
          go_wp2_with (at_builtin; refine Kd.R_append k68 (w0 := w) w.heap.size rfl (.tmp 33) (.tmp 35) 22 68 (.agg #[.int .u64 0, .int .i64 0]) 16 rfl Try.underlying22 info68 rfl (by decide) (by decide) u7 (onlyS l cs worst k) (⟨x0, x1⟩ : S68) [.int .u64 x0, .int .i64 x1] (fun _ => True) (fun _ => False) (by first | rfl | (go_simp; done) | (go_simp; rfl)) (by first | rfl | (go_simp; done) | (go_simp; rfl)) ?aP (fun _ hk => hk.elim) (fun _ _ => trivial) ?aO ?aB ?aS ?aL ?_)
          case aP => exact k68_mkM _ _ _ (⟨x0, x1⟩ : S68)
          case aO => exact HO5.out
          case aB => exact HB5.out
          case aS => exact HB5.out.size
          case aL => rw [onlyS_length]; omega
          intro v1 w1 hR hB _ _
          rw [← HE.out, ← onlyS_succ] at hR
          have HR1 := Lib.hid hR
          have HB1 := Lib.hid hB
          clear hR hB
          clear p0 pf0 p1 pf1
          clear m9
          go_wp2_with fail
          go_roundw
          case rel => exact ⟨k + 1, by omega, by go_num, HR1, HB1⟩
          case measure => simp [intOf]; omega
    · obtain rfl : k = l.length := by omega
      go_wp2
      go_ret
      exact ⟨_, rfl, HO.out, HB.out⟩
/-- The document's Only. -/
def rOnly.f (l0 : List S68) (l1 : List Int) (a2 : Int) : Option (List S68) := if l0.length ≤ 1000000 then some (onlyS l0 l1 a2 l0.length) else none
end Go.Proofs.Ytiaoaoebghnpkaa.P
