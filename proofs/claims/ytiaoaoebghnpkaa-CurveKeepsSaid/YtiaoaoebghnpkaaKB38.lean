/- Part of the proof. -/
import Derived.RegionTactic
import Derived.Test.YtiaoaoebghnpkaaKB37
/- curve.Breaks and curve.Least where a packet may not be; and both told as the printed parts tell a function. -/
namespace Go.Proofs.Ytiaoaoebghnpkaa.P.Cv
open Go.RowKit Go.Shelf Go.Proofs.YtiaoaoebghnpkaaW.PrintWords Go.Proofs.YtiaoaoebghnpkaaW.PrintLast Go.Proofs.YtiaoaoebghnpkaaW.PrintMore
attribute [local go_sem] Oper.semAt_some

set_option maxRecDepth 100000 in
set_option maxHeartbeats 8000000 in
theorem breaks_bad (A : Option Addr) (cap : Nat) (l : List S68) (rate burst : Int) (w : World) (K : Nat) (hC : Kd.C k68 w A l.length l) (hle : l.length ≤ cap) {a : Int} (hk : curve_check.f K l = some (1, a)) :
    Calls Try.prog 11 #[.slice A l.length cap, .int .u64 rate, .int .u64 burst] w fun e w' => e = .returned (.tuple #[.int .i64 0, .int .i64 0, .agg #[.int .i64 1, .int .i64 a]]) ∧ Below w.heap.size w w' := by
  have HC := Lib.hid hC
  have HK := Lib.hid hk
  have HLE := Lib.hid hle
  clear hC hk hle
  go_enter Try.func11, Try.ntmps11
  go_upto_region 1 with fail
  obtain ⟨m3, m4, m6, m7, m8, nB⟩ := new5 w 22 23 3 3 26 #[.slice A l.length cap] #[.int .u64 rate] #[.int .i64 0] #[.int .i64 0] #[.int .i64 0, .int .i64 0]
  generalize (((((w.alloc (.cells #[.slice A l.length cap] 22)).alloc (.cells #[.int .u64 rate] 23)).alloc (.cells #[.int .i64 0] 3)).alloc (.cells #[.int .i64 0] 3)).alloc (.cells #[.int .i64 0, .int .i64 0] 26)) = W1 at *
  obtain ⟨g4, h4⟩ : ∃ g, g = w.heap.size + 1 := ⟨_, rfl⟩
  rw [← h4] at m4 m6 m7 m8 ⊢
  obtain ⟨g6, h6⟩ : ∃ g, g = g4 + 1 := ⟨_, rfl⟩
  rw [← h6] at m6 m7 m8 ⊢
  obtain ⟨g7, h7⟩ : ∃ g, g = g6 + 1 := ⟨_, rfl⟩
  rw [← h7] at m7 m8 ⊢
  obtain ⟨g8, h8⟩ : ∃ g, g = g7 + 1 := ⟨_, rfl⟩
  rw [← h8] at m8 ⊢
  have l34 : w.heap.size < g4 := by omega
  have l46 : g4 < g6 := by omega
  have l67 : g6 < g7 := by omega
  have l78 : g7 < g8 := by omega
  clear h4 h6 h7 h8
  have p0 := m3.cell 0
  simp only [List.getElem?_toArray, List.getElem?_cons_zero] at p0
  go_wp2_with fail
  refine (curve_check.calls K _ _ _ _ _ _ (Kd.C_below HC.out nB) HLE.out HK.out).mono ?_
  rintro e W2 ⟨rfl, hW2⟩
  clear p0
  replace m3 := m3.step hW2
  replace m4 := m4.step hW2
  replace m6 := m6.step hW2
  replace m7 := m7.step hW2
  replace m8 := m8.step hW2
  replace nB := below_of nB hW2
  clear hW2
  go_upto_region 2 with fail
  have m9 := Blk.new W2 26 #[.int .i64 1, .int .i64 a]
  have l8_9 := m8.lt
  replace m3 := m3.alloc (.cells #[.int .i64 1, .int .i64 a] 26)
  replace m4 := m4.alloc (.cells #[.int .i64 1, .int .i64 a] 26)
  replace m6 := m6.alloc (.cells #[.int .i64 1, .int .i64 a] 26)
  replace m7 := m7.alloc (.cells #[.int .i64 1, .int .i64 a] 26)
  replace m8 := m8.alloc (.cells #[.int .i64 1, .int .i64 a] 26)
  replace nB := nB.alloc nB.size (.cells #[.int .i64 1, .int .i64 a] 26)
  generalize W2.alloc (.cells #[.int .i64 1, .int .i64 a] 26) = W3 at *
  generalize W2.heap.size = g9 at *
  have p0 := m9.cell 0
  have p1 := m9.cell 1
  have pf0 := m9.frozen 0
  have pf1 := m9.frozen 1
  simp only [List.getElem?_toArray, List.getElem?_cons_zero, List.getElem?_cons_succ] at p0 p1
  have s4 := m6.cell 0
  have s5 := m7.cell 0
  simp only [List.getElem?_toArray, List.getElem?_cons_zero] at s4 s5
  have t4 := m6.frozen 0
  have t5 := m7.frozen 0
  have q0 := m8.cell 0
  have q1 := m8.cell 1
  have qf0 := m8.frozen 0
  have qf1 := m8.frozen 1
  simp only [List.getElem?_toArray, List.getElem?_cons_zero, List.getElem?_cons_succ] at q0 q1
  have k6 := m6.lt
  have k7 := m7.lt
  have k8 := m8.lt
  have k9 := m9.lt
  go_upto_region 3 with fail
  go_region
  go_wp2
  have n67 : g6 ≠ g7 := by omega
  have n68 : g6 ≠ g8 := by omega
  have n78 : g7 ≠ g8 := by omega
  have e4 := (((m6.put 0 (.int .i64 0)).far (p := ⟨g7, 0, none⟩) n67 (.int .i64 0)).far (p := ⟨g8, 0, none⟩) n68 (.int .i64 1)).far (p := ⟨g8, 1, none⟩) n68 (.int .i64 a)
  have e5 := (((m7.far (p := ⟨g6, 0, none⟩) n67.symm (.int .i64 0)).put 0 (.int .i64 0)).far (p := ⟨g8, 0, none⟩) n78 (.int .i64 1)).far (p := ⟨g8, 1, none⟩) n78 (.int .i64 a)
  have e6 := (((m8.far (p := ⟨g6, 0, none⟩) n68.symm (.int .i64 0)).far (p := ⟨g7, 0, none⟩) n78.symm (.int .i64 0)).put 0 (.int .i64 1)).put 1 (.int .i64 a)
  simp only [List.setIfInBounds_toArray, List.set_cons_zero, List.set_cons_succ] at e4 e5 e6
  have B3 := ((((nB.setCell (p := ⟨g6, 0, none⟩) (by show w.heap.size ≤ g6; omega) (.int .i64 0)).setCell (p := ⟨g7, 0, none⟩) (by show w.heap.size ≤ g7; omega) (.int .i64 0)).setCell (p := ⟨g8, 0, none⟩) (by show w.heap.size ≤ g8; omega) (.int .i64 1)).setCell (p := ⟨g8, 1, none⟩) (by show w.heap.size ≤ g8; omega) (.int .i64 a)).drew
  replace e4 := e4.drew
  replace e5 := e5.drew
  replace e6 := e6.drew
  clear s4 s5 q0 q1 qf0 qf1 t4 t5
  generalize ((((W3.setCell ⟨g6, 0, none⟩ (.int .i64 0)).setCell ⟨g7, 0, none⟩ (.int .i64 0)).setCell ⟨g8, 0, none⟩ (.int .i64 1)).setCell ⟨g8, 1, none⟩ (.int .i64 a)).drew = W6 at *
  have s4 := e4.cell 0
  have s5 := e5.cell 0
  have s6 := e6.cell 0
  have s7 := e6.cell 1
  simp only [List.getElem?_toArray, List.getElem?_cons_zero, List.getElem?_cons_succ] at s4 s5 s6 s7
  refine bodyPost_ret (v := .tuple #[.int .i64 0, .int .i64 0, .agg #[.int .i64 1, .int .i64 a]]) (by simp [results, Try.results11, go_sem, s4, s5, s6, s7]) rfl ⟨rfl, B3⟩

set_option maxRecDepth 100000 in
set_option maxHeartbeats 8000000 in
theorem least_bad (A : Option Addr) (cap : Nat) (l : List S68) (rate : Int) (w : World) (K : Nat) (hC : Kd.C k68 w A l.length l) (hle : l.length ≤ cap) {a : Int} (hk : curve_check.f K l = some (1, a)) :
    Calls Try.prog 16 #[.slice A l.length cap, .int .u64 rate] w fun e w' => e = .returned (.tuple #[.int .u64 0, .agg #[.int .i64 1, .int .i64 a]]) ∧ Below w.heap.size w w' := by
  have HC := Lib.hid hC
  have HK := Lib.hid hk
  have HLE := Lib.hid hle
  clear hC hk hle
  go_enter Try.func16, Try.ntmps16
  go_upto_region 1 with fail
  have m5 := Blk.new w 26 #[.int .i64 0, .int .i64 0]
  have nB : Below w.heap.size w (w.alloc (.cells #[.int .i64 0, .int .i64 0] 26)) := by go_grown
  generalize w.alloc (.cells #[.int .i64 0, .int .i64 0] 26) = W1 at *
  go_wp2_with fail
  refine (curve_check.calls K _ _ _ _ _ _ (Kd.C_below HC.out nB) HLE.out HK.out).mono ?_
  rintro e W2 ⟨rfl, hW2⟩
  replace m5 := m5.step hW2
  replace nB := below_of nB hW2
  clear hW2
  go_upto_region 2 with fail
  have m6 := Blk.new W2 26 #[.int .i64 1, .int .i64 a]
  have l5_6 := m5.lt
  replace m5 := m5.alloc (.cells #[.int .i64 1, .int .i64 a] 26)
  replace nB := nB.alloc nB.size (.cells #[.int .i64 1, .int .i64 a] 26)
  generalize W2.alloc (.cells #[.int .i64 1, .int .i64 a] 26) = W3 at *
  generalize W2.heap.size = g6 at *
  have p0 := m6.cell 0
  have p1 := m6.cell 1
  have pf0 := m6.frozen 0
  have pf1 := m6.frozen 1
  simp only [List.getElem?_toArray, List.getElem?_cons_zero, List.getElem?_cons_succ] at p0 p1
  have q0 := m5.cell 0
  have q1 := m5.cell 1
  have qf0 := m5.frozen 0
  have qf1 := m5.frozen 1
  simp only [List.getElem?_toArray, List.getElem?_cons_zero, List.getElem?_cons_succ] at q0 q1
  have k5 := m5.lt
  have k6 := m6.lt
  go_upto_region 3 with fail
  go_region
  go_wp2
  have e6 := (m5.put 0 (.int .i64 1)).put 1 (.int .i64 a)
  simp only [List.setIfInBounds_toArray, List.set_cons_zero, List.set_cons_succ] at e6
  have B3 := ((nB.setCell (p := ⟨w.heap.size, 0, none⟩) (Nat.le_refl _) (.int .i64 1)).setCell (p := ⟨w.heap.size, 1, none⟩) (Nat.le_refl _) (.int .i64 a)).drew
  replace e6 := e6.drew
  clear p0 p1 pf0 pf1 q0 q1 qf0 qf1
  generalize ((W3.setCell ⟨w.heap.size, 0, none⟩ (.int .i64 1)).setCell ⟨w.heap.size, 1, none⟩ (.int .i64 a)).drew = W6 at *
  have s6 := e6.cell 0
  have s7 := e6.cell 1
  simp only [List.getElem?_toArray, List.getElem?_cons_zero, List.getElem?_cons_succ] at s6 s7
  refine bodyPost_ret (v := .tuple #[.int .u64 0, .agg #[.int .i64 1, .int .i64 a]]) (by simp [results, Try.results16, go_sem, s6, s7]) rfl ⟨rfl, B3⟩
end Go.Proofs.Ytiaoaoebghnpkaa.P.Cv
namespace Go.Proofs.Ytiaoaoebghnpkaa.P
open Go.RowKit Go.Proofs.YtiaoaoebghnpkaaW.PrintWords Go.Proofs.YtiaoaoebghnpkaaW.PrintLast Go.Proofs.YtiaoaoebghnpkaaW.PrintMore
def okT (l : List S68) : Prop := l.length ≤ 1000000 ∧ ∀ x ∈ l, U x.f0
instance (l : List S68) : Decidable (okT l) := inferInstanceAs (Decidable (_ ∧ _))
/-- What Breaks tells. -/
def curve_Breaks.f (l : List S68) (rate burst : Int) : Option (Int × Int × Int × Int) := if okT l ∧ U rate ∧ U burst then some (Cv.brkV rate burst l) else none
theorem curve_Breaks.calls (A0 : Option Addr) (c0 : Nat) (l0 : List S68) (a1 a2 : Int) (r1 r2 r3 r4 : Int) (w : World) (hr0 : Kd.C k68 w A0 l0.length l0) (hc0 : l0.length ≤ c0) (h : curve_Breaks.f l0 a1 a2 = some (r1, r2, r3, r4)) :
    Calls Try.prog 11 #[.slice A0 l0.length c0, .int .u64 a1, .int .u64 a2] w fun e w' => e = .returned (.tuple #[.int .i64 r1, .int .i64 r2, .agg #[.int .i64 r3, .int .i64 r4]]) ∧ Below w.heap.size w w' := by
  unfold curve_Breaks.f at h
  split at h
  case isTrue hc =>
    obtain ⟨⟨hl, hU⟩, hr, hb⟩ := hc
    have h := Option.some.inj h
    unfold Cv.brkV at h
    obtain ⟨K, hK⟩ := check_ev (l := l0) (by omega)
    have hk := hK K (Nat.le_refl _)
    dsimp only at hk
    rcases Cv.chk_cases l0 with hok | ⟨j, _, e⟩
    · rw [Cv.chk_ok hok] at h hk
      rw [if_pos rfl, ← Cv.fjW_eq (by have := hb.1; omega) _ _ (by omega)] at h
      exact Cv.breaks_any A0 c0 l0 a1 a2 w K hl hr hb hU hok hr0 hc0 hk h
    · rw [e] at h hk
      rw [if_neg (show ¬ ((1 : Int) = 0) by decide)] at h
      simp only [Prod.mk.injEq] at h
      obtain ⟨rfl, rfl, rfl, rfl⟩ := h
      exact Cv.breaks_bad A0 c0 l0 a1 a2 w K hr0 hc0 hk
  case isFalse => exact absurd h (by simp)
/-- What Least tells. -/
def curve_Least.f (l : List S68) (rate : Int) : Option (Int × Int × Int) := if okT l ∧ U rate then some (Cv.lstV rate l) else none
theorem curve_Least.calls (A0 : Option Addr) (c0 : Nat) (l0 : List S68) (a1 : Int) (r1 r2 r3 : Int) (w : World) (hr0 : Kd.C k68 w A0 l0.length l0) (hc0 : l0.length ≤ c0) (h : curve_Least.f l0 a1 = some (r1, r2, r3)) :
    Calls Try.prog 16 #[.slice A0 l0.length c0, .int .u64 a1] w fun e w' => e = .returned (.tuple #[.int .u64 r1, .agg #[.int .i64 r2, .int .i64 r3]]) ∧ Below w.heap.size w w' := by
  unfold curve_Least.f at h
  split at h
  case isTrue hc =>
    obtain ⟨⟨hl, hU⟩, hr⟩ := hc
    have h := Option.some.inj h
    unfold Cv.lstV at h
    obtain ⟨K, hK⟩ := check_ev (l := l0) (by omega)
    have hk := hK K (Nat.le_refl _)
    dsimp only at hk
    rcases Cv.chk_cases l0 with hok | ⟨j, _, e⟩
    · rw [Cv.chk_ok hok] at h hk
      rw [if_pos rfl] at h
      simp only [Prod.mk.injEq] at h
      obtain ⟨rfl, rfl, rfl⟩ := h
      exact Cv.least_any A0 c0 l0 a1 w K hl hr hU hok hr0 hc0 hk
    · rw [e] at h hk
      rw [if_neg (show ¬ ((1 : Int) = 0) by decide)] at h
      simp only [Prod.mk.injEq] at h
      obtain ⟨rfl, rfl, rfl⟩ := h
      exact Cv.least_bad A0 c0 l0 a1 w K hr0 hc0 hk
  case isFalse => exact absurd h (by simp)
end Go.Proofs.Ytiaoaoebghnpkaa.P
