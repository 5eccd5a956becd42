/- Part of the proof. -/
import Derived.Test.YtiaoaoebghnpkaaKA45
/- curve.Breaks: the first packets between which more comes than a curve lets go. -/
namespace Go.Proofs.Ytiaoaoebghnpkaa.P.Cv
open Go.RowKit Go.Shelf Go.Proofs.YtiaoaoebghnpkaaW.PrintWords Go.Proofs.YtiaoaoebghnpkaaW.PrintLast Go.Proofs.YtiaoaoebghnpkaaW.PrintMore
attribute [local go_sem] Oper.semAt_some

theorem new5 (w : World) (t1 t2 t3 t4 t5 : TypeId) (c1 c2 c3 c4 c5 : Array Value) :
    Blk (((((w.alloc (.cells c1 t1)).alloc (.cells c2 t2)).alloc (.cells c3 t3)).alloc (.cells c4 t4)).alloc (.cells c5 t5)) w.heap.size t1 c1 ∧
    Blk (((((w.alloc (.cells c1 t1)).alloc (.cells c2 t2)).alloc (.cells c3 t3)).alloc (.cells c4 t4)).alloc (.cells c5 t5)) (w.heap.size + 1) t2 c2 ∧
    Blk (((((w.alloc (.cells c1 t1)).alloc (.cells c2 t2)).alloc (.cells c3 t3)).alloc (.cells c4 t4)).alloc (.cells c5 t5)) (w.heap.size + 1 + 1) t3 c3 ∧
    Blk (((((w.alloc (.cells c1 t1)).alloc (.cells c2 t2)).alloc (.cells c3 t3)).alloc (.cells c4 t4)).alloc (.cells c5 t5)) (w.heap.size + 1 + 1 + 1) t4 c4 ∧
    Blk (((((w.alloc (.cells c1 t1)).alloc (.cells c2 t2)).alloc (.cells c3 t3)).alloc (.cells c4 t4)).alloc (.cells c5 t5)) (w.heap.size + 1 + 1 + 1 + 1) t5 c5 ∧
    Below w.heap.size w (((((w.alloc (.cells c1 t1)).alloc (.cells c2 t2)).alloc (.cells c3 t3)).alloc (.cells c4 t4)).alloc (.cells c5 t5)) := by
  refine ⟨((((Blk.new w t1 c1).alloc _).alloc _).alloc _).alloc _, ?_, ?_, ?_, ?_, by go_grown⟩
  · have h := (((Blk.new (w.alloc (.cells c1 t1)) t2 c2).alloc (.cells c3 t3)).alloc (.cells c4 t4)).alloc (.cells c5 t5)
    simpa only [World.size_alloc] using h
  · have h := ((Blk.new ((w.alloc (.cells c1 t1)).alloc (.cells c2 t2)) t3 c3).alloc (.cells c4 t4)).alloc (.cells c5 t5)
    simpa only [World.size_alloc] using h
  · have h := (Blk.new (((w.alloc (.cells c1 t1)).alloc (.cells c2 t2)).alloc (.cells c3 t3)) t4 c4).alloc (.cells c5 t5)
    simpa only [World.size_alloc] using h
  · have h := Blk.new ((((w.alloc (.cells c1 t1)).alloc (.cells c2 t2)).alloc (.cells c3 t3)).alloc (.cells c4 t4)) t5 c5
    simpa only [World.size_alloc] using h

set_option maxRecDepth 100000 in
set_option maxHeartbeats 8000000 in
theorem breaks_any (A : Option Addr) (cap : Nat) (l : List S68) (rate burst : Int) (w : World) (K : Nat) (hl : l.length ≤ 1000000) (hr : U rate) (hb : U burst) (hU : ∀ x ∈ l, U x.f0) (hok : okS l) (hC : Kd.C k68 w A l.length l) (hle : l.length ≤ cap) (hk : curve_check.f K l = some (0, 0)) {r0 r1 r2 r3 : Int} (hans : fjW (burst * 1000000000) rate l l.length 0 = (r0, r1, r2, r3)) :
    Calls Try.prog 11 #[.slice A l.length cap, .int .u64 rate, .int .u64 burst] w fun e w' => e = .returned (.tuple #[.int .i64 r0, .int .i64 r1, .agg #[.int .i64 r2, .int .i64 r3]]) ∧ Below w.heap.size w w' := by
  have HC := Lib.hid hC
  have HK := Lib.hid hk
  have HLE := Lib.hid hle
  have HA := Lib.hid hans
  clear hC hk hle hans
  refine (callsIn_wide (n := 3)).1 (callsIn_of_wp_marks Try.func11 rfl trivial (wpIn_wide.2 ?_) rfl)
  simp only [Try.ntmps11, List.size_toArray, List.length_cons, List.length_nil, Nat.reduceAdd, Nat.reduceSub, Array.replicate_succ, Array.replicate_zero, List.push_toArray, List.append_toArray, List.nil_append, List.cons_append]
  go_upto_region 1 with fail
  obtain ⟨m3, m4, m6, m7, m8, nB⟩ := new5 w 22 23 3 3 26 #[.slice A l.length cap] #[.int .u64 rate] #[.int .i64 0] #[.int .i64 0] #[.int .i64 0, .int .i64 0]
  generalize (((((w.alloc (.cells #[.slice A l.length cap] 22)).alloc (.cells #[.int .u64 rate] 23)).alloc (.cells #[.int .i64 0] 3)).alloc (.cells #[.int .i64 0] 3)).alloc (.cells #[.int .i64 0, .int .i64 0] 26)) = W1 at *
  obtain ⟨g4, h4⟩ : ∃ g, g = w.heap.size + 1 := ⟨_, rfl⟩
  rw [← h4] at m4 m6 m7 m8 ⊢
  obtain ⟨g6, h6⟩ : ∃ g, g = g4 + 1 := ⟨_, rfl⟩
  rw [← h6] at m6 m7 m8 ⊢
  obtain ⟨g7, h7⟩ : ∃ g, g = g6 + 1 := ⟨_, rfl⟩
  rw [← h7] at m7 m8 ⊢
  obtain ⟨g8, h8⟩ : ∃ g, g = g7 + 1 := ⟨_, rfl⟩
  rw [← h8] at m8 ⊢
  have l34 : w.heap.size < g4 := by omega
  have l46 : g4 < g6 := by omega
  have l67 : g6 < g7 := by omega
  have l78 : g7 < g8 := by omega
  clear h4 h6 h7 h8
  have p0 := m3.cell 0
  simp only [List.getElem?_toArray, List.getElem?_cons_zero] at p0
  go_wp2_with fail
  refine (curve_check.calls K _ _ _ _ _ _ (Kd.C_below HC.out nB) HLE.out HK.out).mono ?_
  rintro e W2 ⟨rfl, hW2⟩
  clear p0
  replace m3 := m3.step hW2
  replace m4 := m4.step hW2
  replace m6 := m6.step hW2
  replace m7 := m7.step hW2
  replace m8 := m8.step hW2
  replace nB := below_of nB hW2
  clear hW2
  go_upto_region 2 with fail
  have m9 := Blk.new W2 26 #[.int .i64 0, .int .i64 0]
  have l8_9 := m8.lt
  replace m3 := m3.alloc (.cells #[.int .i64 0, .int .i64 0] 26)
  replace m4 := m4.alloc (.cells #[.int .i64 0, .int .i64 0] 26)
  replace m6 := m6.alloc (.cells #[.int .i64 0, .int .i64 0] 26)
  replace m7 := m7.alloc (.cells #[.int .i64 0, .int .i64 0] 26)
  replace m8 := m8.alloc (.cells #[.int .i64 0, .int .i64 0] 26)
  replace nB := nB.alloc nB.size (.cells #[.int .i64 0, .int .i64 0] 26)
  generalize W2.alloc (.cells #[.int .i64 0, .int .i64 0] 26) = W3 at *
  generalize W2.heap.size = g9 at *
  have p0 := m9.cell 0
  have p1 := m9.cell 1
  have pf0 := m9.frozen 0
  have pf1 := m9.frozen 1
  simp only [List.getElem?_toArray, List.getElem?_cons_zero, List.getElem?_cons_succ] at p0 p1
  go_wp2_with fail
  refine (mul_any _ _ _ hb nanoU).mono ?_
  rintro e W4 ⟨rfl, hW4⟩
  clear p0 pf0 p1 pf1
  clear m9
  replace m3 := m3.step hW4
  replace m4 := m4.step hW4
  replace m6 := m6.step hW4
  replace m7 := m7.step hW4
  replace m8 := m8.step hW4
  replace nB := below_of nB hW4
  clear hW4
  obtain ⟨most, hmost⟩ : ∃ m, m = burst * 1000000000 := ⟨_, rfl⟩
  have vm : V most := by rw [hmost]; exact V_mul hb nanoU
  have hm0 : 0 ≤ most := vm.1
  rw [← hmost] at HA ⊢
  clear hmost
  go_upto_region 5 with fail
  have m10 := Blk.new W4 42 #[.int .u64 (hi most), .int .u64 (lo most)]
  have l8_10 := m8.lt
  replace m3 := m3.alloc (.cells #[.int .u64 (hi most), .int .u64 (lo most)] 42)
  replace m4 := m4.alloc (.cells #[.int .u64 (hi most), .int .u64 (lo most)] 42)
  replace m6 := m6.alloc (.cells #[.int .u64 (hi most), .int .u64 (lo most)] 42)
  replace m7 := m7.alloc (.cells #[.int .u64 (hi most), .int .u64 (lo most)] 42)
  replace m8 := m8.alloc (.cells #[.int .u64 (hi most), .int .u64 (lo most)] 42)
  replace nB := nB.alloc nB.size (.cells #[.int .u64 (hi most), .int .u64 (lo most)] 42)
  generalize W4.alloc (.cells #[.int .u64 (hi most), .int .u64 (lo most)] 42) = W5 at *
  generalize W4.heap.size = g10 at *
  have p0 := m3.cell 0
  have q0 := m4.cell 0
  simp only [List.getElem?_toArray, List.getElem?_cons_zero] at p0 q0
  go_wp2_with (go_at_call 38; refine (waits_any _ _ _ _ _).mono ?_; rintro e w' ⟨rfl, rfl⟩)
  clear p0 q0
  have bl := (Blk.new W5 22 #[.slice A l.length cap]).alloc (.cells #[.int .u64 rate] 23)
  have br : Blk ((W5.alloc (.cells #[.slice A l.length cap] 22)).alloc (.cells #[.int .u64 rate] 23)) (W5.heap.size + 1) 23 #[.int .u64 rate] := by
    have h := Blk.new (W5.alloc (.cells #[.slice A l.length cap] 22)) 23 #[.int .u64 rate]
    simpa only [World.size_alloc] using h
  have sz0 : ((W5.alloc (.cells #[.slice A l.length cap] 22)).alloc (.cells #[.int .u64 rate] 23)).heap.size = W5.heap.size + 2 := by simp
  have l10 := m10.lt
  replace m3 := (m3.alloc (.cells #[.slice A l.length cap] 22)).alloc (.cells #[.int .u64 rate] 23)
  replace m4 := (m4.alloc (.cells #[.slice A l.length cap] 22)).alloc (.cells #[.int .u64 rate] 23)
  replace m6 := (m6.alloc (.cells #[.slice A l.length cap] 22)).alloc (.cells #[.int .u64 rate] 23)
  replace m7 := (m7.alloc (.cells #[.slice A l.length cap] 22)).alloc (.cells #[.int .u64 rate] 23)
  replace m8 := (m8.alloc (.cells #[.slice A l.length cap] 22)).alloc (.cells #[.int .u64 rate] 23)
  replace m10 := (m10.alloc (.cells #[.slice A l.length cap] 22)).alloc (.cells #[.int .u64 rate] 23)
  replace nB := (nB.alloc nB.size (.cells #[.slice A l.length cap] 22)).alloc (by have := nB.size; simp; omega) (.cells #[.int .u64 rate] 23)
  generalize ((W5.alloc (.cells #[.slice A l.length cap] 22)).alloc (.cells #[.int .u64 rate] 23)) = W0 at *
  generalize W5.heap.size = gl at *
  have sza : gl + 2 ≤ W0.heap.size := by omega
  have szb : W0.heap.size ≤ gl + 2 := by omega
  clear sz0
  have HV : ∀ k, k ≤ (pairS l).length → V (wq rate (pairS l) k) := fun k hk => wq_V hok hl hr hU k (by rw [pairS_length] at hk; exact hk)
  have lp := pairS_length l
  have hseq := waits_seq (3 - 1) (by omega) (gl + 1) gl w.heap.size A cap rate (pairS l) W0 (by omega) (by omega) (by omega) (br.cell 0) (by rw [lp]; exact bl.cell 0)
    (fun k hk => by
      obtain ⟨b, off, h1, h2, h3, h4⟩ := read_pairS HC.out k hk
      exact ⟨b, off, h1, h2, (nB.cell (p := ⟨b, off + k * 2, none⟩) h2).trans h3, (nB.cell (p := ⟨b, off + k * 2 + 1, none⟩) h2).trans h4⟩) hr (pairS_U hok hU) HV (by rw [lp]; omega)
  clear bl br
  refine wpIn_wide.1 (rangeT (n := 3) (by omega) (gf := 67) (lb := #[.pointer (some ⟨gl + 1, 0, none⟩), .pointer (some ⟨gl, 0, none⟩)]) rfl (enters_of Try.func67 (by kernel_rfl) rfl) hseq (by omega) (fun g hg => by omega) (fun _ => rfl)
    (fun pre W => fjW most rate l (l.length - pre.length) pre.length = (r0, r1, r2, r3) ∧ Blk W w.heap.size 22 #[.slice A l.length cap] ∧ Blk W g4 23 #[.int .u64 rate] ∧ Blk W g10 42 #[.int .u64 (hi most), .int .u64 (lo most)] ∧ Blk W g6 3 #[.int .i64 0] ∧ Blk W g7 3 #[.int .i64 0] ∧ Blk W g8 26 #[.int .i64 0, .int .i64 0] ∧ Below w.heap.size w W)
    (fun c _ W => c = .ret ∧ Blk W g6 3 #[.int .i64 r0] ∧ Blk W g7 3 #[.int .i64 r1] ∧ Blk W g8 26 #[.int .i64 r2, .int .i64 r3] ∧ Below w.heap.size w W)
    ?sI ?sIx ⟨HA.out, m3, m4, m10, m6, m7, m8, nB⟩
    (fun x a' W => ∃ Bx, W0.heap.size + 2 ≤ Bx ∧ Blk W Bx 42 #[.int .u64 (hi x.2), .int .u64 (lo x.2)] ∧
      a' = { tmps := #[.slice A l.length cap, .int .u64 rate, .int .u64 burst, .pointer (some ⟨w.heap.size, 0, none⟩), .pointer (some ⟨g4, 0, none⟩), undef, .pointer (some ⟨g6, 0, none⟩), .pointer (some ⟨g7, 0, none⟩), .pointer (some ⟨g8, 0, none⟩), .pointer (some ⟨g9, 0, none⟩), .pointer (some ⟨g10, 0, none⟩), .int .i64 (x.1 : Int), .pointer (some ⟨Bx, 0, none⟩), .slice A l.length cap, .agg #[.int .i64 0, .int .i64 0], .pointer (some ⟨g9, 0, none⟩), .int .i64 0, .bool false, undef, .int .u64 burst, .agg #[.int .u64 (hi most), .int .u64 (lo most)], .slice A l.length cap, .int .u64 rate, .func (.func 67) #[] #[.pointer (some ⟨gl + 1, 0, none⟩), .pointer (some ⟨gl, 0, none⟩)], .int .i64 (x.1 : Int), .agg #[.int .u64 (hi x.2), .int .u64 (lo x.2)], undef, undef, undef, undef, undef, undef, undef, undef, undef, undef, undef, undef], defers := [] })
    ?sAx ?assign ?body ?done ?stop)
  case sI =>
    rintro s A' A'' row ⟨h0, h1, h2, h3, h4, h5, h6, h7⟩ hg hr'
    have ne : ∀ g, g < W0.heap.size → some g ≠ row := fun g hg' e => by
      have := hr' g e.symm
      unfold Tw at this
      omega
    exact ⟨h0, (hg.block _ h1.lt (ne _ (by omega))).trans h1, (hg.block _ h2.lt (ne _ (by omega))).trans h2, (hg.block _ h3.lt (ne _ (by omega))).trans h3, (hg.block _ h4.lt (ne _ (by omega))).trans h4, (hg.block _ h5.lt (ne _ (by omega))).trans h5, (hg.block _ h6.lt (ne _ (by omega))).trans h6, h7.grown hg h7.size (fun k e => by have := hr' k e; unfold Tw at this; omega)⟩
  case sIx =>
    rintro c s A' A'' row ⟨h0, h4, h5, h6, h7⟩ hg hr'
    have ne : ∀ g, g < W0.heap.size → some g ≠ row := fun g hg' e => by
      have := hr' g e.symm
      unfold Tw at this
      omega
    exact ⟨h0, (hg.block _ h4.lt (ne _ (by omega))).trans h4, (hg.block _ h5.lt (ne _ (by omega))).trans h5, (hg.block _ h6.lt (ne _ (by omega))).trans h6, h7.grown hg h7.size (fun k e => by have := hr' k e; unfold Tw at this; omega)⟩
  case sAx =>
    rintro x a' s A' A'' row ⟨Bx, h1, h2, h3⟩ hg hr'
    exact ⟨Bx, h1, (hg.block Bx h2.lt (fun e => by have := hr' Bx e.symm; omega)).trans h2, h3⟩
  case assign =>
    rintro l' pre x W K' ⟨h0, h1, h2, h3, h4, h5, h6, h7⟩ hlt hK
    have hW5 := hlt (W0.heap.size + 1) (.inr (.inr rfl))
    have HH := Lib.hid h0
    clear h0
    dsimp only [wEnc]
    gi_wp2
    exact hK _ _ ((Below.refl _ _).alloc (Nat.le_refl _) _) ⟨HH.out, h1.alloc _, h2.alloc _, h3.alloc _, h4.alloc _, h5.alloc _, h6.alloc _, h7.alloc h7.size _⟩ ⟨W.heap.size, by omega, Blk.new W _ _, rfl⟩
  case body =>
    rintro l' pre x a' W ⟨h0, h1, h2, h3, h4, h5, h6, h7⟩ ⟨Bx, hBx, bx, rfl⟩ ⟨k, hk, hpre⟩ hlt
    rw [wEls_succ] at hpre
    obtain ⟨rfl, hx⟩ := List.append_inj' hpre rfl
    obtain rfl : x = wEl rate (pairS l) k := by simpa using hx
    rw [wEls_length] at h0
    rw [lp] at hk
    have v2 := wq_V hok hl hr hU (k + 1) (by omega)
    rw [show l.length - k = (l.length - (k + 1)) + 1 by omega] at h0
    unfold fjW at h0
    simp only [wEl] at bx ⊢
    obtain ⟨q, hq⟩ : ∃ q, q = wq rate (pairS l) (k + 1) := ⟨_, rfl⟩
    rw [← hq] at bx v2 h0 ⊢
    have H0 := Lib.hid h0
    have HQ := Lib.hid hq
    have HX := Lib.hid hx
    have HP := Lib.hid hpre
    have HT := Lib.hid hlt
    clear hq hx hpre hlt h0
    have lx := bx.lt
    have lz := h3.lt
    have p0 := h3.cell 0
    have p1 := h3.cell 1
    have pf0 := h3.frozen 0
    have pf1 := h3.frozen 1
    simp only [List.getElem?_toArray, List.getElem?_cons_zero, List.getElem?_cons_succ] at p0 p1
    have q0 := bx.cell 0
    have q1 := bx.cell 1
    have qf0 := bx.frozen 0
    have qf1 := bx.frozen 1
    simp only [List.getElem?_toArray, List.getElem?_cons_zero, List.getElem?_cons_succ] at q0 q1
    gi_wp2_with fail
    refine ⟨trivial, ?_⟩
    refine (CallsIn.inRound l' (callsIn_wide.2 (less_any _ _ _ _ _ (U_lo _) (U_lo _)))).mono ?_
    rintro e W3 ⟨rfl, hW3⟩
    rw [wd_hi_lo vm, wd_hi_lo v2]
    clear p0 pf0 p1 pf1
    clear q0 qf0 q1 qf1
    have hT : ∀ g, Tw (fun g => g = W0.heap.size + 2) W0.heap.size g → g < W.heap.size ∧ W0.heap.size ≤ g := fun g hg => ⟨HT.out g hg, by unfold Tw at hg; omega⟩
    have F1 : FarT (Tw (fun g => g = W0.heap.size + 2) W0.heap.size) W W3 := FarT.below hW3 (fun g hg => (hT g hg).1)
    have B1 : Below w.heap.size W W3 := hW3.mono h7.size
    replace h1 := h1.step hW3
    replace h2 := h2.step hW3
    replace h3 := h3.step hW3
    replace h4 := h4.step hW3
    replace h5 := h5.step hW3
    replace h6 := h6.step hW3
    replace h7 := h7.trans B1
    have lp' : (wEls rate (pairS l) k ++ [(k, q)]).length = k + 1 := by rw [List.length_append, wEls_length]; rfl
    have HT2 := Lib.hid hT
    clear hW3 hT bx
    by_cases hc : most < q
    · have hd : decide (most < q) = true := decide_eq_true hc
      obtain ⟨K3, hK3⟩ := from_ev hok hl hr vm hU hk
      have h0 := H0.out
      rw [if_pos hc] at h0
      obtain ⟨z, hz⟩ : ∃ z, z = getI (fiI most rate l k (k + 1) 0) k := ⟨_, rfl⟩
      have hf := hK3 K3 (Nat.le_refl _)
      dsimp only at hf
      rw [← hz] at h0 hf
      have HF := Lib.hid hf
      simp only [Prod.mk.injEq] at h0
      obtain ⟨rfl, rfl, rfl, rfl⟩ := h0
      clear hf hz hK3 HA
      have s1 := h1.cell 0
      have s2 := h2.cell 0
      simp only [List.getElem?_toArray, List.getElem?_cons_zero] at s1 s2
      have p0 := h3.cell 0
      have p1 := h3.cell 1
      have pf0 := h3.frozen 0
      have pf1 := h3.frozen 1
      simp only [List.getElem?_toArray, List.getElem?_cons_zero, List.getElem?_cons_succ] at p0 p1
      gi_wp2_with fail
      refine ⟨trivial, ?_⟩
      refine (CallsIn.inRound l' (callsIn_wide.2 (curve_from.calls K3 _ _ l rate (hi most) (lo most) (k : Int) z _ (Kd.C_below HC.out h7) HLE.out HF.out))).mono ?_
      rintro e W4 ⟨rfl, hW4⟩
      clear s1 s2
      clear p0 pf0 p1 pf1
      have B2 := B1.trans (hW4.mono h7.size)
      have F2 := F1.trans (FarT.below hW4 (fun g hg => Nat.lt_of_lt_of_le (HT2.out g hg).1 F1.1))
      replace h4 := h4.step hW4
      replace h5 := h5.step hW4
      replace h6 := h6.step hW4
      replace h7 := h7.trans (hW4.mono h7.size)
      clear hW4 h1 h2 h3 B1 F1
      have s4 := h4.cell 0
      have s5 := h5.cell 0
      simp only [List.getElem?_toArray, List.getElem?_cons_zero] at s4 s5
      have t4 := h4.frozen 0
      have t5 := h5.frozen 0
      have p0 := h6.cell 0
      have p1 := h6.cell 1
      have pf0 := h6.frozen 0
      have pf1 := h6.frozen 1
      simp only [List.getElem?_toArray, List.getElem?_cons_zero, List.getElem?_cons_succ] at p0 p1
      have l4 := h4.lt
      have l5 := h5.lt
      have l6 := h6.lt
      have n67 : g6 ≠ g7 := by omega
      have n68 : g6 ≠ g8 := by omega
      have n78 : g7 ≠ g8 := by omega
      have F3 := (((F2.trans (FarT.set (T := Tw (fun g => g = W0.heap.size + 2) W0.heap.size) W4 (p := ⟨g6, 0, none⟩) (.int .i64 z) (fun h => by have := (HT2.out _ h).2; dsimp only at this; omega))).trans (FarT.set (T := Tw (fun g => g = W0.heap.size + 2) W0.heap.size) _ (p := ⟨g7, 0, none⟩) (.int .i64 (k : Int)) (fun h => by have := (HT2.out _ h).2; dsimp only at this; omega))).trans (FarT.set (T := Tw (fun g => g = W0.heap.size + 2) W0.heap.size) _ (p := ⟨g8, 0, none⟩) (.int .i64 17) (fun h => by have := (HT2.out _ h).2; dsimp only at this; omega))).trans (FarT.set (T := Tw (fun g => g = W0.heap.size + 2) W0.heap.size) _ (p := ⟨g8, 1, none⟩) (.int .i64 (k : Int)) (fun h => by have := (HT2.out _ h).2; dsimp only at this; omega))
      have B3 := (((h7.setCell (p := ⟨g6, 0, none⟩) (by show w.heap.size ≤ g6; omega) (.int .i64 z)).setCell (p := ⟨g7, 0, none⟩) (by show w.heap.size ≤ g7; omega) (.int .i64 (k : Int))).setCell (p := ⟨g8, 0, none⟩) (by show w.heap.size ≤ g8; omega) (.int .i64 17)).setCell (p := ⟨g8, 1, none⟩) (by show w.heap.size ≤ g8; omega) (.int .i64 (k : Int))
      have e4 := (((h4.put 0 (.int .i64 z)).far (p := ⟨g7, 0, none⟩) n67 (.int .i64 (k : Int))).far (p := ⟨g8, 0, none⟩) n68 (.int .i64 17)).far (p := ⟨g8, 1, none⟩) n68 (.int .i64 (k : Int))
      have e5 := (((h5.far (p := ⟨g6, 0, none⟩) n67.symm (.int .i64 z)).put 0 (.int .i64 (k : Int))).far (p := ⟨g8, 0, none⟩) n78 (.int .i64 17)).far (p := ⟨g8, 1, none⟩) n78 (.int .i64 (k : Int))
      have e6 := (((h6.far (p := ⟨g6, 0, none⟩) n68.symm (.int .i64 z)).far (p := ⟨g7, 0, none⟩) n78.symm (.int .i64 (k : Int))).put 0 (.int .i64 17)).put 1 (.int .i64 (k : Int))
      simp only [List.setIfInBounds_toArray, List.set_cons_zero, List.set_cons_succ] at e4 e5 e6
      have HH := Lib.hid (And.intro F3 (And.intro B3 (And.intro e4 (And.intro e5 e6))))
      clear F2 B2 F3 B3 e4 e5 e6 h4 h5 h6 h7
      gi_wp2
      obtain ⟨F3, B3, e4, e5, e6⟩ := HH.out
      exact ⟨F3, rfl, e4, e5, e6, B3⟩
    · have hd : decide (most < q) = false := decide_eq_false hc
      have h0 := H0.out
      rw [if_neg hc] at h0
      have HH := Lib.hid (And.intro F1 (And.intro B1 (And.intro h0 (And.intro h1 (And.intro h2 (And.intro h3 (And.intro h4 (And.intro h5 (And.intro h6 h7)))))))))
      clear F1 B1 h1 h2 h3 h4 h5 h6 h7 h0
      gi_wp2
      obtain ⟨F1, B1, h0, h1, h2, h3, h4, h5, h6, h7⟩ := HH.out
      refine ⟨B1, F1, ?_, h1, h2, h3, h4, h5, h6, h7⟩
      rw [lp']
      exact h0
  case done =>
    rintro xs W rfl ⟨h0, h1, h2, h3, h4, h5, h6, h7⟩ hK
    rw [wEls_length, lp, Nat.sub_self] at h0
    have h0' : ((0 : Int), (0 : Int), (0 : Int), (0 : Int)) = (r0, r1, r2, r3) := h0
    simp only [Prod.mk.injEq] at h0'
    obtain ⟨rfl, rfl, rfl, rfl⟩ := h0'
    clear h0 h1 h2 h3
    have s4 := h4.cell 0
    have s5 := h5.cell 0
    simp only [List.getElem?_toArray, List.getElem?_cons_zero] at s4 s5
    have t4 := h4.frozen 0
    have t5 := h5.frozen 0
    have p0 := h6.cell 0
    have p1 := h6.cell 1
    have pf0 := h6.frozen 0
    have pf1 := h6.frozen 1
    simp only [List.getElem?_toArray, List.getElem?_cons_zero, List.getElem?_cons_succ] at p0 p1
    have l4 := h4.lt
    have l5 := h5.lt
    have l6 := h6.lt
    have n67 : g6 ≠ g7 := by omega
    have n68 : g6 ≠ g8 := by omega
    have n78 : g7 ≠ g8 := by omega
    have e4 := (((h4.put 0 (.int .i64 0)).far (p := ⟨g7, 0, none⟩) n67 (.int .i64 0)).far (p := ⟨g8, 0, none⟩) n68 (.int .i64 0)).far (p := ⟨g8, 1, none⟩) n68 (.int .i64 0)
    have e5 := (((h5.far (p := ⟨g6, 0, none⟩) n67.symm (.int .i64 0)).put 0 (.int .i64 0)).far (p := ⟨g8, 0, none⟩) n78 (.int .i64 0)).far (p := ⟨g8, 1, none⟩) n78 (.int .i64 0)
    have e6 := (((h6.far (p := ⟨g6, 0, none⟩) n68.symm (.int .i64 0)).far (p := ⟨g7, 0, none⟩) n78.symm (.int .i64 0)).put 0 (.int .i64 0)).put 1 (.int .i64 0)
    simp only [List.setIfInBounds_toArray, List.set_cons_zero, List.set_cons_succ] at e4 e5 e6
    have B3 := (((h7.setCell (p := ⟨g6, 0, none⟩) (by show w.heap.size ≤ g6; omega) (.int .i64 0)).setCell (p := ⟨g7, 0, none⟩) (by show w.heap.size ≤ g7; omega) (.int .i64 0)).setCell (p := ⟨g8, 0, none⟩) (by show w.heap.size ≤ g8; omega) (.int .i64 0)).setCell (p := ⟨g8, 1, none⟩) (by show w.heap.size ≤ g8; omega) (.int .i64 0)
    have eK : ((((W.setCell ⟨g6, 0, none⟩ (.int .i64 0)).setCell ⟨g7, 0, none⟩ (.int .i64 0)).setCell ⟨g8, 0, none⟩ (.int .i64 0)).setCell ⟨g8, 1, none⟩ (.int .i64 0)).heap[W0.heap.size]? = some (.deferred (some [])) :=
      (Below.heap_setCell _ ⟨g8, 1, none⟩ _ _ (by show W0.heap.size ≠ g8; omega)).trans ((Below.heap_setCell _ ⟨g8, 0, none⟩ _ _ (by show W0.heap.size ≠ g8; omega)).trans ((Below.heap_setCell _ ⟨g7, 0, none⟩ _ _ (by show W0.heap.size ≠ g7; omega)).trans ((Below.heap_setCell _ ⟨g6, 0, none⟩ _ _ (by show W0.heap.size ≠ g6; omega)).trans hK)))
    have HH := Lib.hid (And.intro e4 (And.intro e5 (And.intro e6 (And.intro B3 eK))))
    clear e4 e5 e6 B3 eK h4 h5 h6 h7 hK
    go_wp2
    obtain ⟨e4, e5, e6, B3, eK⟩ := HH.out
    generalize (((W.setCell ⟨g6, 0, none⟩ (.int .i64 0)).setCell ⟨g7, 0, none⟩ (.int .i64 0)).setCell ⟨g8, 0, none⟩ (.int .i64 0)).setCell ⟨g8, 1, none⟩ (.int .i64 0) = W6 at *
    refine ⟨by simp, .inl ⟨_, _, rfl, run_takeDeferred eK, ?_⟩⟩
    replace e4 : Blk (W6.putObj W0.heap.size (.deferred none)) g6 3 #[.int .i64 _] := (World.putObj_heap_other (by omega)).trans e4
    replace e5 : Blk (W6.putObj W0.heap.size (.deferred none)) g7 3 #[.int .i64 _] := (World.putObj_heap_other (by omega)).trans e5
    replace e6 : Blk (W6.putObj W0.heap.size (.deferred none)) g8 26 #[.int .i64 _, .int .i64 _] := (World.putObj_heap_other (by omega)).trans e6
    have s4 := e4.cell 0
    have s5 := e5.cell 0
    have s6 := e6.cell 0
    have s7 := e6.cell 1
    simp only [List.getElem?_toArray, List.getElem?_cons_zero, List.getElem?_cons_succ] at s4 s5 s6 s7
    refine ⟨_, by simp [results, Try.results11, go_sem, s4, s5, s6, s7], rfl, ?_⟩
    exact B3.grown (grown_put W6 W0.heap.size _) B3.size (fun k e => by cases e; omega)
  case stop =>
    rintro c pre W _ ⟨rfl, e4, e5, e6, B3⟩ eK
    have l4 := e4.lt
    have l5 := e5.lt
    have l6 := e6.lt
    have HH := Lib.hid (And.intro e4 (And.intro e5 (And.intro e6 (And.intro B3 eK))))
    clear e4 e5 e6 B3 eK
    gi_wp2
    obtain ⟨e4, e5, e6, B3, eK⟩ := HH.out
    obtain ⟨W6, hW6⟩ : ∃ W6, W6 = W := ⟨_, rfl⟩
    rw [← hW6] at e4 e5 e6 B3 eK ⊢
    refine ⟨by simp, .inl ⟨_, _, rfl, run_takeDeferred eK, ?_⟩⟩
    replace e4 : Blk (W6.putObj W0.heap.size (.deferred none)) g6 3 #[.int .i64 _] := (World.putObj_heap_other (by omega)).trans e4
    replace e5 : Blk (W6.putObj W0.heap.size (.deferred none)) g7 3 #[.int .i64 _] := (World.putObj_heap_other (by omega)).trans e5
    replace e6 : Blk (W6.putObj W0.heap.size (.deferred none)) g8 26 #[.int .i64 _, .int .i64 _] := (World.putObj_heap_other (by omega)).trans e6
    have s4 := e4.cell 0
    have s5 := e5.cell 0
    have s6 := e6.cell 0
    have s7 := e6.cell 1
    simp only [List.getElem?_toArray, List.getElem?_cons_zero, List.getElem?_cons_succ] at s4 s5 s6 s7
    refine ⟨_, by simp [results, Try.results11, go_sem, s4, s5, s6, s7], rfl, ?_⟩
    exact B3.grown (grown_put W6 W0.heap.size _) B3.size (fun k e => by cases e; omega)
end Go.Proofs.Ytiaoaoebghnpkaa.P.Cv
