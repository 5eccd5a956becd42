/- Part of the proof. -/
import Derived.Deep.DeepCutAuto
import Derived.Test.YtiaoaoebghnpkaaKA43
import Derived.Test.YtiaoaoebghnpkaaKA34
/- curve.Least: the least burst with which packets keep to a curve. -/
namespace Go.Proofs.Ytiaoaoebghnpkaa.P.Cv
open Go.RowKit Go.Shelf Go.Proofs.YtiaoaoebghnpkaaW.PrintWords Go.Proofs.YtiaoaoebghnpkaaW.PrintLast Go.Proofs.YtiaoaoebghnpkaaW.PrintMore
attribute [local go_sem] Oper.semAt_some

theorem read_pairS {w : World} {A : Option Addr} {l : List S68} (h : Kd.C k68 w A l.length l) : ∀ k, k < (pairS l).length → ∃ b off, A = some ⟨b, off, none⟩ ∧ b < w.heap.size ∧ w.cell? ⟨b, off + k * 2, none⟩ = some (.int .u64 ((pairS l).getD k (0, 0)).1) ∧ w.cell? ⟨b, off + k * 2 + 1, none⟩ = some (.int .i64 ((pairS l).getD k (0, 0)).2) := by
  intro j hj
  rw [pairS_length] at hj
  obtain ⟨ad, e, h0, h1⟩ := at_T68 h (j : Int) (by omega) (by omega)
  simp only [Int.toNat_natCast] at h0 h1
  have hz := (at_T68 h (0 : Int) (by omega) (by omega))
  obtain ⟨ad', e', hz0, _⟩ := hz
  obtain rfl : ad = ad' := by rw [e] at e'; exact Option.some.inj e'
  have hsp : ad.spot = none := by
    have := World.cell?_spot hz0
    simpa [Addr.add] using this
  obtain ⟨b, off, sp⟩ := ad
  have hsp' : sp = none := hsp
  subst hsp'
  have ha : ∀ n, (⟨b, off, none⟩ : Addr).add n = ⟨b, off + n, none⟩ := fun n => by
    unfold Addr.add
    by_cases h : n = 0 <;> simp [h]
  rw [ha] at h0 h1
  rw [rdT_nat] at h0 h1
  rw [pairS_get]
  refine ⟨b, off, e, ?_, h0, h1⟩
  rcases Nat.lt_or_ge b w.heap.size with h' | h'
  · exact h'
  · unfold World.cell? at h0
    rw [Array.getElem?_eq_none h'] at h0
    simp at h0
theorem pairS_U {l : List S68} (h : okS l) (hU : ∀ x ∈ l, U x.f0) : ∀ p ∈ pairS l, U p.1 ∧ U p.2 := fun p hp => by
  unfold pairS at hp
  obtain ⟨x, hx, rfl⟩ := List.mem_map.1 hp
  obtain ⟨j, hj, rfl⟩ := List.mem_iff_getElem.1 hx
  have h1 := h j hj
  rw [List.getD_eq_getElem?_getD, List.getElem?_eq_getElem hj] at h1
  exact ⟨hU _ hx, by unfold U; simp at h1; omega⟩

set_option maxRecDepth 100000 in
set_option maxHeartbeats 8000000 in
theorem least_any (A : Option Addr) (cap : Nat) (l : List S68) (rate : Int) (w : World) (K : Nat) (hl : l.length ≤ 1000000) (hr : U rate) (hU : ∀ x ∈ l, U x.f0) (hok : okS l) (hC : Kd.C k68 w A l.length l) (hle : l.length ≤ cap) (hk : curve_check.f K l = some (0, 0)) :
    Calls Try.prog 16 #[.slice A l.length cap, .int .u64 rate] w fun e w' => e = .returned (.tuple #[.int .u64 (ceilN (mW rate l l.length)), .agg #[.int .i64 0, .int .i64 0]]) ∧ Below w.heap.size w w' := by
  have HC := Lib.hid hC
  have HK := Lib.hid hk
  have HLE := Lib.hid hle
  clear hC hk hle
  refine (callsIn_wide (n := 3)).1 (callsIn_of_wp_marks Try.func16 rfl trivial (wpIn_wide.2 ?_) rfl)
  simp only [Try.ntmps16, List.size_toArray, List.length_cons, List.length_nil, Nat.reduceAdd, Nat.reduceSub, Array.replicate_succ, Array.replicate_zero, List.push_toArray, List.append_toArray, List.nil_append, List.cons_append]
  go_upto_region 1 with fail
  have m5 := Blk.new w 26 #[.int .i64 0, .int .i64 0]
  have nB : Below w.heap.size w (w.alloc (.cells #[.int .i64 0, .int .i64 0] 26)) := by go_grown
  generalize w.alloc (.cells #[.int .i64 0, .int .i64 0] 26) = W1 at *
  go_wp2_with fail
  refine (curve_check.calls K _ _ _ _ _ _ (Kd.C_below HC.out nB) HLE.out HK.out).mono ?_
  rintro e W2 ⟨rfl, hW2⟩
  replace m5 := m5.step hW2
  replace nB := below_of nB hW2
  clear hW2
  go_upto_region 2 with fail
  have m6 := Blk.new W2 26 #[.int .i64 0, .int .i64 0]
  have l5_6 := m5.lt
  replace m5 := m5.alloc (.cells #[.int .i64 0, .int .i64 0] 26)
  replace nB := nB.alloc nB.size (.cells #[.int .i64 0, .int .i64 0] 26)
  generalize W2.alloc (.cells #[.int .i64 0, .int .i64 0] 26) = W3 at *
  generalize W2.heap.size = g6 at *
  have p0 := m6.cell 0
  have p1 := m6.cell 1
  have pf0 := m6.frozen 0
  have pf1 := m6.frozen 1
  simp only [List.getElem?_toArray, List.getElem?_cons_zero, List.getElem?_cons_succ] at p0 p1
  go_upto_region 5 with fail
  clear p0 pf0 p1 pf1
  have m7 := Blk.new W3 42 #[.int .u64 0, .int .u64 0]
  have l5_7 := m5.lt
  replace m5 := m5.alloc (.cells #[.int .u64 0, .int .u64 0] 42)
  replace nB := nB.alloc nB.size (.cells #[.int .u64 0, .int .u64 0] 42)
  clear m6 l5_6
  generalize W3.alloc (.cells #[.int .u64 0, .int .u64 0] 42) = W4 at *
  generalize W3.heap.size = g7 at *
  go_wp2_with (go_at_call 38; refine (waits_any _ _ _ _ _).mono ?_; rintro e w' ⟨rfl, rfl⟩)
  have bl := (Blk.new W4 22 #[.slice A l.length cap]).alloc (.cells #[.int .u64 rate] 23)
  have br : Blk ((W4.alloc (.cells #[.slice A l.length cap] 22)).alloc (.cells #[.int .u64 rate] 23)) (W4.heap.size + 1) 23 #[.int .u64 rate] := by
    have h := Blk.new (W4.alloc (.cells #[.slice A l.length cap] 22)) 23 #[.int .u64 rate]
    simpa only [World.size_alloc] using h
  have sz0 : ((W4.alloc (.cells #[.slice A l.length cap] 22)).alloc (.cells #[.int .u64 rate] 23)).heap.size = W4.heap.size + 2 := by simp
  have l7 := m7.lt
  have l5 := m5.lt
  replace m5 := (m5.alloc (.cells #[.slice A l.length cap] 22)).alloc (.cells #[.int .u64 rate] 23)
  replace m7 := (m7.alloc (.cells #[.slice A l.length cap] 22)).alloc (.cells #[.int .u64 rate] 23)
  replace nB := (nB.alloc nB.size (.cells #[.slice A l.length cap] 22)).alloc (by have := nB.size; simp; omega) (.cells #[.int .u64 rate] 23)
  generalize ((W4.alloc (.cells #[.slice A l.length cap] 22)).alloc (.cells #[.int .u64 rate] 23)) = W0 at *
  generalize W4.heap.size = gl at *
  have sza : gl + 2 ≤ W0.heap.size := by omega
  have szb : W0.heap.size ≤ gl + 2 := by omega
  clear sz0
  have HV : ∀ k, k ≤ (pairS l).length → V (wq rate (pairS l) k) := fun k hk => wq_V hok hl hr hU k (by rw [pairS_length] at hk; exact hk)
  have lp := pairS_length l
  have hseq := waits_seq (3 - 1) (by omega) (gl + 1) gl w.heap.size A cap rate (pairS l) W0 (by omega) (by omega) (by omega) (br.cell 0) (by rw [lp]; exact bl.cell 0)
    (fun k hk => by
      obtain ⟨b, off, h1, h2, h3, h4⟩ := read_pairS HC.out k hk
      exact ⟨b, off, h1, h2, (nB.cell (p := ⟨b, off + k * 2, none⟩) h2).trans h3, (nB.cell (p := ⟨b, off + k * 2 + 1, none⟩) h2).trans h4⟩) hr (pairS_U hok hU) HV (by rw [lp]; omega)
  clear bl br
  refine wpIn_wide.1 (rangeT (n := 3) (by omega) (gf := 67) (lb := #[.pointer (some ⟨gl + 1, 0, none⟩), .pointer (some ⟨gl, 0, none⟩)]) rfl (enters_of Try.func67 (by kernel_rfl) rfl) hseq (by omega) (fun g hg => by omega) (fun _ => rfl)
    (fun pre W => Blk W g7 42 #[.int .u64 (hi (mW rate l pre.length)), .int .u64 (lo (mW rate l pre.length))] ∧ Blk W w.heap.size 26 #[.int .i64 0, .int .i64 0] ∧ Below w.heap.size w W)
    (fun _ _ _ => False)
    ?sI (fun _ _ _ _ _ hs _ _ => hs) ⟨m7, m5, nB⟩
    (fun x a' W => ∃ Bx, W0.heap.size + 2 ≤ Bx ∧ Blk W Bx 42 #[.int .u64 (hi x.2), .int .u64 (lo x.2)] ∧
      a' = { tmps := #[.slice A l.length cap, .int .u64 rate, undef, undef, .int .u64 0, .pointer (some ⟨w.heap.size, 0, none⟩), .pointer (some ⟨g6, 0, none⟩), .pointer (some ⟨g7, 0, none⟩), undef, .pointer (some ⟨Bx, 0, none⟩), undef, undef, .slice A l.length cap, .agg #[.int .i64 0, .int .i64 0], .pointer (some ⟨g6, 0, none⟩), .int .i64 0, .bool false, undef, .slice A l.length cap, .int .u64 rate, .func (.func 67) #[] #[.pointer (some ⟨gl + 1, 0, none⟩), .pointer (some ⟨gl, 0, none⟩)], .int .i64 (x.1 : Int), .agg #[.int .u64 (hi x.2), .int .u64 (lo x.2)], undef, undef, undef, undef, undef, undef, undef, undef, undef, undef, undef, undef, undef, undef, undef, undef, undef, undef, undef, undef], defers := [] })
    ?sAx ?assign ?body ?done ?stop)
  case sI =>
    rintro s A' A'' row ⟨h1, h2, h3⟩ hg hr'
    have ne : ∀ g, g < W0.heap.size → some g ≠ row := fun g hg' e => by
      have := hr' g e.symm
      unfold Tw at this
      omega
    exact ⟨(hg.block g7 h1.lt (ne _ (by omega))).trans h1, (hg.block w.heap.size h2.lt (ne _ (by omega))).trans h2, h3.grown hg (by have := h1.lt; have := h2.lt; omega) (fun k e => by have := hr' k e; unfold Tw at this; omega)⟩
  case sAx =>
    rintro x a' s A' A'' row ⟨Bx, h1, h2, h3⟩ hg hr'
    exact ⟨Bx, h1, (hg.block Bx h2.lt (fun e => by have := hr' Bx e.symm; omega)).trans h2, h3⟩
  case assign =>
    rintro l' pre x W K' ⟨h1, h2, h3⟩ hlt hK
    have hW5 := hlt (W0.heap.size + 1) (.inr (.inr rfl))
    dsimp only [wEnc]
    gi_wp2
    exact hK _ _ ((Below.refl _ _).alloc (Nat.le_refl _) _) ⟨h1.alloc _, h2.alloc _, h3.alloc (by have := h3.size; omega) _⟩ ⟨W.heap.size, by omega, Blk.new W _ _, rfl⟩
  case body =>
    rintro l' pre x a' W ⟨h1, h2, h3⟩ ⟨Bx, hBx, bx, rfl⟩ ⟨k, hk, hpre⟩ hlt
    rw [wEls_succ] at hpre
    obtain ⟨rfl, hx⟩ := List.append_inj' hpre rfl
    obtain rfl : x = wEl rate (pairS l) k := by simpa using hx
    rw [wEls_length] at h1
    rw [lp] at hk
    have HS := Lib.hid (show mW rate l (k + 1) = if mW rate l k < wq rate (pairS l) (k + 1) then wq rate (pairS l) (k + 1) else mW rate l k from rfl)
    have v1 := mW_V hok hl hr hU k (by omega)
    have v2 := wq_V hok hl hr hU (k + 1) (by omega)
    simp only [wEl] at bx ⊢
    obtain ⟨m, hm⟩ : ∃ m, m = mW rate l k := ⟨_, rfl⟩
    obtain ⟨q, hq⟩ : ∃ q, q = wq rate (pairS l) (k + 1) := ⟨_, rfl⟩
    rw [← hm] at h1 v1 HS
    rw [← hq] at bx v2 HS ⊢
    have HM := Lib.hid hm
    have HQ := Lib.hid hq
    have HX := Lib.hid hx
    have HP := Lib.hid hpre
    have HT := Lib.hid hlt
    clear hm hq hx hpre hlt
    have lx := bx.lt
    have lz := h1.lt
    have p0 := h1.cell 0
    have p1 := h1.cell 1
    have pf0 := h1.frozen 0
    have pf1 := h1.frozen 1
    simp only [List.getElem?_toArray, List.getElem?_cons_zero, List.getElem?_cons_succ] at p0 p1
    have q0 := bx.cell 0
    have q1 := bx.cell 1
    have qf0 := bx.frozen 0
    have qf1 := bx.frozen 1
    simp only [List.getElem?_toArray, List.getElem?_cons_zero, List.getElem?_cons_succ] at q0 q1
    gi_wp2_with fail
    refine ⟨trivial, ?_⟩
    refine (CallsIn.inRound l' (callsIn_wide.2 (less_any _ _ _ _ _ (U_lo _) (U_lo _)))).mono ?_
    rintro e W3 ⟨rfl, hW3⟩
    rw [wd_hi_lo v1, wd_hi_lo v2]
    clear p0 pf0 p1 pf1
    clear q0 qf0 q1 qf1
    have hT : ∀ g, Tw (fun g => g = W0.heap.size + 2) W0.heap.size g → g < W.heap.size ∧ g ≠ g7 := fun g hg => ⟨HT.out g hg, by unfold Tw at hg; omega⟩
    have F1 : FarT (Tw (fun g => g = W0.heap.size + 2) W0.heap.size) W W3 := FarT.below hW3 (fun g hg => (hT g hg).1)
    have sW := h3.size
    have B1 : Below w.heap.size W W3 := hW3.mono sW
    replace h1 := h1.step hW3
    replace h2 := h2.step hW3
    replace bx := bx.step hW3
    replace h3 := h3.trans B1
    have lp' : (wEls rate (pairS l) k ++ [(k, q)]).length = k + 1 := by rw [List.length_append, wEls_length]; rfl
    have HT2 := Lib.hid hT
    clear hW3 hT
    have p0 := h1.cell 0
    have p1 := h1.cell 1
    have pf0 := h1.frozen 0
    have pf1 := h1.frozen 1
    simp only [List.getElem?_toArray, List.getElem?_cons_zero, List.getElem?_cons_succ] at p0 p1
    have r0 := bx.cell 0
    have r1 := bx.cell 1
    have rf0 := bx.frozen 0
    have rf1 := bx.frozen 1
    simp only [List.getElem?_toArray, List.getElem?_cons_zero, List.getElem?_cons_succ] at r0 r1
    by_cases hc : m < q
    · have hd : decide (m < q) = true := decide_eq_true hc
      have F2 := (F1.trans (FarT.set (T := Tw (fun g => g = W0.heap.size + 2) W0.heap.size) W3 (p := ⟨g7, 0, none⟩) (.int .u64 (hi q)) (fun h => (HT2.out _ h).2 rfl))).trans (FarT.set (T := Tw (fun g => g = W0.heap.size + 2) W0.heap.size) (W3.setCell ⟨g7, 0, none⟩ (.int .u64 (hi q))) (p := ⟨g7, 1, none⟩) (.int .u64 (lo q)) (fun h => (HT2.out _ h).2 rfl))
      have B2 := (B1.setCell (p := ⟨g7, 0, none⟩) (by show w.heap.size ≤ g7; omega) (.int .u64 (hi q))).setCell (p := ⟨g7, 1, none⟩) (by show w.heap.size ≤ g7; omega) (.int .u64 (lo q))
      have B3 := (h3.setCell (p := ⟨g7, 0, none⟩) (by show w.heap.size ≤ g7; omega) (.int .u64 (hi q))).setCell (p := ⟨g7, 1, none⟩) (by show w.heap.size ≤ g7; omega) (.int .u64 (lo q))
      have h1' := (h1.put 0 (.int .u64 (hi q))).put 1 (.int .u64 (lo q))
      simp only [List.setIfInBounds_toArray, List.set_cons_zero, List.set_cons_succ] at h1'
      have h2' := (h2.far (p := ⟨g7, 0, none⟩) (by show w.heap.size ≠ g7; omega) (.int .u64 (hi q))).far (p := ⟨g7, 1, none⟩) (by show w.heap.size ≠ g7; omega) (.int .u64 (lo q))
      have HH := Lib.hid (And.intro F2 (And.intro B2 (And.intro B3 (And.intro h1' h2'))))
      clear F1 F2 B1 B2 B3 h1' h2' h1 h2 h3 bx
      gi_wp2
      obtain ⟨F2, B2, B3, h1', h2'⟩ := HH.out
      refine ⟨B2, F2, ?_, h2', B3⟩
      rw [lp', HS.out, if_pos hc]
      exact h1'
    · have hd : decide (m < q) = false := decide_eq_false hc
      have HH := Lib.hid (And.intro F1 (And.intro B1 (And.intro h3 (And.intro h1 h2))))
      clear F1 B1 h1 h2 h3 bx
      gi_wp2
      obtain ⟨F2, B2, B3, h1', h2'⟩ := HH.out
      refine ⟨B2, F2, ?_, h2', B3⟩
      rw [lp', HS.out, if_neg (by omega)]
      exact h1'
  case done =>
    rintro xs W rfl ⟨h1, h2, h3⟩ hK
    rw [wEls_length, lp] at h1
    have v1 := mW_V hok hl hr hU l.length (Nat.le_refl _)
    obtain ⟨m, hm⟩ : ∃ m, m = mW rate l l.length := ⟨_, rfl⟩
    rw [← hm] at h1 v1
    obtain ⟨K2, hdiv⟩ := div_ev (a := hi m) (b := lo m) (n := 1000000000) (U_hi _) (U_lo _) nanoU (by omega)
    rw [wd_hi_lo v1] at hdiv
    have HD := Lib.hid (hdiv K2 (Nat.le_refl _))
    have HM := Lib.hid hm
    clear hdiv hm
    have p0 := h1.cell 0
    have p1 := h1.cell 1
    have pf0 := h1.frozen 0
    have pf1 := h1.frozen 1
    simp only [List.getElem?_toArray, List.getElem?_cons_zero, List.getElem?_cons_succ] at p0 p1
    go_wp2_with fail
    refine (wide_Div.calls K2 _ _ _ _ _ _ _ HD.out).mono ?_
    rintro e W3 ⟨rfl, hW3⟩
    clear p0 pf0 p1 pf1
    have hD := (Array.getElem?_eq_some_iff.1 hK).1
    have kK : W3.heap[W0.heap.size]? = some (.deferred (some [])) := (hW3.block _ hD).trans hK
    replace h2 := h2.step hW3
    replace h3 := h3.trans (hW3.mono h3.size)
    clear hW3 hK hD h1
    have hmb : 0 ≤ m ∧ m ≤ 65575000000000000000000 := by
      have e1 := mW_in hok hr.1 hU l.length (Nat.le_refl _)
      have e2 := psum_in hok l.length (Nat.le_refl _)
      rw [← HM.out] at e1
      omega
    obtain ⟨_, vd, ed, ed1⟩ := ceil_end hmb
    have HC2 := Lib.hid (show ceilN m = if m % 1000000000 > 0 then m / 1000000000 + 1 else m / 1000000000 from rfl)
    have hr0 : 0 ≤ m % 1000000000 := by omega
    obtain ⟨d, hd⟩ : ∃ d, d = m / 1000000000 := ⟨_, rfl⟩
    obtain ⟨rr, hrr⟩ : ∃ rr, rr = m % 1000000000 := ⟨_, rfl⟩
    rw [← hd] at vd ed ed1 HC2 ⊢
    rw [← hrr] at hr0 HC2 ⊢
    have HED := Lib.hid ed
    have HED1 := Lib.hid ed1
    clear hd hrr ed ed1 HD
    go_upto_region 10 with fail
    have m10 := Blk.new W3 42 #[.int .u64 (hi d), .int .u64 (lo d)]
    have l5_10 := h2.lt
    have lK := (Array.getElem?_eq_some_iff.1 kK).1
    replace h2 := h2.alloc (.cells #[.int .u64 (hi d), .int .u64 (lo d)] 42)
    replace h3 := h3.alloc h3.size (.cells #[.int .u64 (hi d), .int .u64 (lo d)] 42)
    replace kK := (Below.heap_alloc W3 (.cells #[.int .u64 (hi d), .int .u64 (lo d)] 42) _ lK).trans kK
    generalize W3.alloc (.cells #[.int .u64 (hi d), .int .u64 (lo d)] 42) = W5 at *
    generalize W3.heap.size = g10 at *
    have lt2 := h2.lt
    have lW0 : w.heap.size < W0.heap.size := by omega
    by_cases hz : rr = 0
    · subst hz
      have p0 := m10.cell 0
      have p1 := m10.cell 1
      have pf0 := m10.frozen 0
      have pf1 := m10.frozen 1
      simp only [List.getElem?_toArray, List.getElem?_cons_zero, List.getElem?_cons_succ] at p0 p1
      have q0 := h2.cell 0
      have q1 := h2.cell 1
      have qf0 := h2.frozen 0
      have qf1 := h2.frozen 1
      simp only [List.getElem?_toArray, List.getElem?_cons_zero, List.getElem?_cons_succ] at q0 q1
      go_wp2
      have e0 := (h2.put 0 (.int .i64 0)).put 1 (.int .i64 0)
      simp only [List.setIfInBounds_toArray, List.set_cons_zero, List.set_cons_succ] at e0
      have eK : ((W5.setCell ⟨w.heap.size, 0, none⟩ (.int .i64 0)).setCell ⟨w.heap.size, 1, none⟩ (.int .i64 0)).heap[W0.heap.size]? = some (.deferred (some [])) :=
        (Below.heap_setCell _ ⟨w.heap.size, 1, none⟩ _ _ (by show W0.heap.size ≠ w.heap.size; omega)).trans ((Below.heap_setCell _ ⟨w.heap.size, 0, none⟩ _ _ (by show W0.heap.size ≠ w.heap.size; omega)).trans kK)
      have eB := (h3.setCell (p := ⟨w.heap.size, 0, none⟩) (Nat.le_refl _) (.int .i64 0)).setCell (p := ⟨w.heap.size, 1, none⟩) (Nat.le_refl _) (.int .i64 0)
      generalize (W5.setCell ⟨w.heap.size, 0, none⟩ (.int .i64 0)).setCell ⟨w.heap.size, 1, none⟩ (.int .i64 0) = W6 at *
      refine ⟨by simp, .inl ⟨_, _, rfl, run_takeDeferred eK, ?_⟩⟩
      have e1 : Blk (W6.putObj W0.heap.size (.deferred none)) w.heap.size 26 #[.int .i64 0, .int .i64 0] := (World.putObj_heap_other (by omega)).trans e0
      refine ⟨_, results_list (rs := [.tmp 4, .cell 5 26]) rfl (by simp) (.tmp (.cell w.heap.size 26 #[.int .i64 0, .int .i64 0] (0, 0) _ rfl e1 Try.underlying26 rfl (by kernel_rfl) .nil)), ?_, ?_⟩
      · rw [← HM.out, HC2.out, if_neg (by omega)]
        show Ending.returned (.tuple #[.int .u64 (lo d), _]) = _
        rw [HED.out]
      · exact eB.grown (grown_put W6 W0.heap.size _) eB.size (fun k e => by cases e; omega)
    · have hz' : 0 < rr := by omega
      have p0 := m10.cell 0
      have p1 := m10.cell 1
      have pf0 := m10.frozen 0
      have pf1 := m10.frozen 1
      simp only [List.getElem?_toArray, List.getElem?_cons_zero, List.getElem?_cons_succ] at p0 p1
      have hb : (rr == 0) = false := by simpa using hz
      go_upto_region 11 with fail
      have lt10 := m10.lt
      refine wp_region_text (by kernel_rfl) (by kernel_rfl) fun Q2 hQ2 => ?_
      refine drawn_calls 6 (by kernel_rfl) ?_
      simp only [List.take_succ_cons, List.take_zero, List.drop_succ_cons, List.drop_zero]
      refine walk1_open fun K hK => ?_
      repeat
        apply walk1_value (by rfl)
        · intro W hcl hsz; go_simp; rfl
        simp only [Act.put, List.setIfInBounds_toArray, List.set_cons_zero, List.set_cons_succ]
      apply walk1_call (by rfl)
      · intro W hsz; go_simp; first | exact ⟨rfl, rfl⟩ | rfl
      · intro W hlW; exact of_any _ _
      simp only [Act.put, List.setIfInBounds_toArray, List.set_cons_zero, List.set_cons_succ]
      apply walk1_call (by rfl)
      · intro W hsz; go_simp; first | exact ⟨rfl, rfl⟩ | rfl
      · intro W hlW; exact add_any _ _ _ _ _ (U_hi _) (U_lo _) U_zero (show U 1 by unfold U; omega)
      simp only [Act.put, List.setIfInBounds_toArray, List.set_cons_zero, List.set_cons_succ]
      repeat
        apply walk1_value (by rfl)
        · intro W hcl hsz; go_simp; rfl
        simp only [Act.put, List.setIfInBounds_toArray, List.set_cons_zero, List.set_cons_succ]
      refine walk1_nil (hK _ ?_); clear hK K
      intro W7 hW7
      have e7 : wd (hi d) (lo d) + wd 0 1 = d + 1 := by rw [wd_hi_lo vd]; rfl
      rw [e7]
      clear p0 pf0 p1 pf1
      have B7 : Below w.heap.size W5 W7 := hW7.mono h3.size
      replace m10 := m10.step hW7
      replace h2 := h2.step hW7
      replace h3 := h3.trans B7
      have lK7 := (Array.getElem?_eq_some_iff.1 kK).1
      replace kK := (hW7.block _ lK7).trans kK
      clear hW7 B7 lK7
      have p0 := m10.cell 0
      have p1 := m10.cell 1
      have pf0 := m10.frozen 0
      have pf1 := m10.frozen 1
      simp only [List.getElem?_toArray, List.getElem?_cons_zero, List.getElem?_cons_succ] at p0 p1
      have q0 := h2.cell 0
      have q1 := h2.cell 1
      have qf0 := h2.frozen 0
      have qf1 := h2.frozen 1
      simp only [List.getElem?_toArray, List.getElem?_cons_zero, List.getElem?_cons_succ] at q0 q1
      have lt102 := m10.lt
      have lt22 := h2.lt
      have ne1 : w.heap.size ≠ g10 := by omega
      have ne2 : W0.heap.size ≠ g10 := by omega
      go_upto_region 12 with fail
      replace m10 := (m10.put 0 (.int .u64 (hi (d + 1)))).put 1 (.int .u64 (lo (d + 1)))
      simp only [List.setIfInBounds_toArray, List.set_cons_zero, List.set_cons_succ] at m10
      replace h2 := (h2.far (p := ⟨g10, 0, none⟩) ne1 (.int .u64 (hi (d + 1)))).far (p := ⟨g10, 1, none⟩) ne1 (.int .u64 (lo (d + 1)))
      replace h3 := (h3.setCell (p := ⟨g10, 0, none⟩) (by show w.heap.size ≤ g10; omega) (.int .u64 (hi (d + 1)))).setCell (p := ⟨g10, 1, none⟩) (by show w.heap.size ≤ g10; omega) (.int .u64 (lo (d + 1)))
      replace kK := (Below.heap_setCell _ ⟨g10, 1, none⟩ (.int .u64 (lo (d + 1))) _ (by show W0.heap.size ≠ g10; omega)).trans ((Below.heap_setCell _ ⟨g10, 0, none⟩ (.int .u64 (hi (d + 1))) _ (by show W0.heap.size ≠ g10; omega)).trans kK)
      generalize (W7.setCell ⟨g10, 0, none⟩ (.int .u64 (hi (d + 1)))).setCell ⟨g10, 1, none⟩ (.int .u64 (lo (d + 1))) = W8 at *
      clear lt102 lt22
      clear p0 pf0 p1 pf1
      clear q0 qf0 q1 qf1
      have p0 := m10.cell 0
      have p1 := m10.cell 1
      have pf0 := m10.frozen 0
      have pf1 := m10.frozen 1
      simp only [List.getElem?_toArray, List.getElem?_cons_zero, List.getElem?_cons_succ] at p0 p1
      have lt102 := m10.lt
      have lt22 := h2.lt
      have q0 := h2.cell 0
      have q1 := h2.cell 1
      have qf0 := h2.frozen 0
      have qf1 := h2.frozen 1
      simp only [List.getElem?_toArray, List.getElem?_cons_zero, List.getElem?_cons_succ] at q0 q1
      go_wp2
      have e0 := (h2.put 0 (.int .i64 0)).put 1 (.int .i64 0)
      simp only [List.setIfInBounds_toArray, List.set_cons_zero, List.set_cons_succ] at e0
      have eK : ((W8.setCell ⟨w.heap.size, 0, none⟩ (.int .i64 0)).setCell ⟨w.heap.size, 1, none⟩ (.int .i64 0)).heap[W0.heap.size]? = some (.deferred (some [])) :=
        (Below.heap_setCell _ ⟨w.heap.size, 1, none⟩ _ _ (by show W0.heap.size ≠ w.heap.size; omega)).trans ((Below.heap_setCell _ ⟨w.heap.size, 0, none⟩ _ _ (by show W0.heap.size ≠ w.heap.size; omega)).trans kK)
      have eB := (h3.setCell (p := ⟨w.heap.size, 0, none⟩) (Nat.le_refl _) (.int .i64 0)).setCell (p := ⟨w.heap.size, 1, none⟩) (Nat.le_refl _) (.int .i64 0)
      generalize (W8.setCell ⟨w.heap.size, 0, none⟩ (.int .i64 0)).setCell ⟨w.heap.size, 1, none⟩ (.int .i64 0) = W6 at *
      refine ⟨by simp, .inl ⟨_, _, rfl, run_takeDeferred eK, ?_⟩⟩
      have e1 : Blk (W6.putObj W0.heap.size (.deferred none)) w.heap.size 26 #[.int .i64 0, .int .i64 0] := (World.putObj_heap_other (by omega)).trans e0
      refine ⟨_, results_list (rs := [.tmp 4, .cell 5 26]) rfl (by simp) (.tmp (.cell w.heap.size 26 #[.int .i64 0, .int .i64 0] (0, 0) _ rfl e1 Try.underlying26 rfl (by kernel_rfl) .nil)), ?_, ?_⟩
      · rw [← HM.out, HC2.out, if_pos hz']
        show Ending.returned (.tuple #[.int .u64 (lo (d + 1)), _]) = _
        rw [HED1.out]
      · exact eB.grown (grown_put W6 W0.heap.size _) eB.size (fun k e => by cases e; omega)
  case stop =>
    rintro c pre W _ h _
    exact h.elim
end Go.Proofs.Ytiaoaoebghnpkaa.P.Cv
