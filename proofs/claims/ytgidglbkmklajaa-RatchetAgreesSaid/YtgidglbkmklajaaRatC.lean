/- What goes over ratchet's moments: Back, Longest. -/
import Derived.Test.YtgidglbkmklajaaRatB
import Derived.Test.YtgidglbkmklajaaLoose
import Derived.Test.YtgidglbkmklajaaWWords
import Derived.Maps.AppendAt
namespace Go.Proofs.Ytgidglbkmklajaa
open Go.RowKit Go.Shelf
open Go.Proofs.YtgidglbkmklajaaW.PrintWords (own_base own_move own_weaken)
attribute [local go_sem] Oper.semAt_some

/-- Behind an append into a variable's own row: the variable, the row, and what lies elsewhere. -/
theorem appendT {W w1 : World} {n₀ base Bx : Nat} {T : Nat → Prop} {t e : TypeId} {size : Nat} {v v' : Value} {k m : Nat} {xs ys : List Value} {tmp : Obj} (hv : Blk W Bx t #[v]) (hrow : W.ownsRow base e size v k xs) (hb : Bx < base) (hn : n₀ ≤ Bx)
    (hT : ∀ g, T g → g < W.heap.size ∧ g ≠ Bx ∧ g < base) (hown' : w1.ownsRow base e size v' m ys) (hgrow : (W.alloc tmp).grownBy w1 v.ownBlock) :
    Blk w1 Bx t #[v] ∧ Blk (w1.setCell ⟨Bx, 0, none⟩ v') Bx t #[v'] ∧ (w1.setCell ⟨Bx, 0, none⟩ v').ownsRow base e size v' m ys ∧ Below n₀ W (w1.setCell ⟨Bx, 0, none⟩ v') ∧ FarT T W (w1.setCell ⟨Bx, 0, none⟩ v') := by
  have ge : ∀ j, v.ownBlock = some j → base ≤ j := own_base hrow
  have ge' : ∀ j, v'.ownBlock = some j → base ≤ j := own_base hown'
  have hlt := hv.lt
  have h1 : Blk w1 Bx t #[v] := (hgrow.block Bx (by simp; omega) (fun e => by have := ge Bx e.symm; omega)).trans (hv.alloc tmp)
  have h2 := h1.put 0 v'
  simp only [List.setIfInBounds_toArray, List.set_cons_zero] at h2
  refine ⟨h1, h2, own_move hown' (fun j hj => Below.heap_setCell w1 ⟨Bx, 0, none⟩ v' j (by have := ge' j hj; simp; omega)), ?_, ?_⟩
  · exact (((Below.refl n₀ W).alloc (by omega) tmp).grown hgrow (by simp; omega) (fun j hj => by have := ge j hj; omega)).setCell (p := ⟨Bx, 0, none⟩) hn v'
  · have f1 : FarT T W (W.alloc tmp) := FarT.alloc W tmp (fun g hg => (hT g hg).1)
    have f2 : FarT T (W.alloc tmp) w1 := FarT.grown hgrow (fun g hg => by have := (hT g hg).1; simp; omega) (fun g hg e => by have := ge g e.symm; have := (hT g hg).2.2; omega)
    exact (f1.trans f2).trans (FarT.set w1 (p := ⟨Bx, 0, none⟩) v' (fun hg => (hT Bx hg).2.1 rfl))

theorem Try.infoI64 : (Try.prog.info? 3).map (fun i => (i.zero, i.size, i.bytes)) = some (some (.int .i64 0), 1, 8) := by kernel_rfl

set_option maxRecDepth 100000 in
set_option maxHeartbeats 8000000 in
theorem back_any (ao : Option Addr) (cap : Nat) (l : List Int) (w : World) (hl : ∀ k, k < l.length → ∃ b off, ao = some ⟨b, off, none⟩ ∧ b < w.heap.size ∧ w.cell? ⟨b, off + k, none⟩ = some (.int .u64 (l.getD k 0)))
    (hU : ∀ x ∈ l, U x) (hlen : l.length * 8 ≤ 140737488351232) :
    Calls Try.prog 20 #[.slice ao l.length cap] w fun e w' => ∃ v, e = .returned v ∧ w'.ownsRow w.heap.size 3 1 v (backL l l.length).length ((backL l l.length).map (Value.int .i64)) ∧ Below w.heap.size w w' := by
  obtain ⟨B, hB⟩ : ∃ B, B = w.heap.size := ⟨_, rfl⟩
  obtain ⟨i0, hi, hz0, hz1, hz2⟩ := info_parts Try.infoI64
  have HL := Lib.hid hl
  clear hl
  refine (callsIn_wide (n := 3)).1 (callsIn_of_wp_marks Try.func20 rfl trivial (wpIn_wide.2 ?_) rfl)
  simp only [Try.ntmps20, List.size_toArray, List.length_cons, List.length_nil, Nat.reduceAdd, Nat.reduceSub, Array.replicate_succ, Array.replicate_zero, List.push_toArray, List.append_toArray, List.nil_append, List.cons_append]
  go_wp2_with (go_at_call 37; refine (moments_any _ _ _ _).mono ?_; rintro e w' ⟨rfl, rfl⟩)
  obtain ⟨W0, hW0⟩ : ∃ W0, W0 = ((w.alloc (.cells #[.slice none 0 0] 33)).alloc (.cells #[.slice ao l.length cap] 27)) := ⟨_, rfl⟩
  rw [← hW0]
  have bO : Blk W0 B 33 #[.slice none 0 0] := by rw [hW0, hB]; exact (Blk.new w _ _).alloc _
  have bL : Blk W0 (B + 1) 27 #[.slice ao l.length cap] := by
    rw [hW0, hB]
    have := Blk.new (w.alloc (.cells #[.slice none 0 0] 33)) 27 #[.slice ao l.length cap]
    rwa [World.size_alloc] at this
  have hBel0 : Below B w W0 := by
    rw [hW0, hB]
    exact ((Below.refl _ _).alloc (Nat.le_refl _) _).alloc (by simp) _
  have sz0 : W0.heap.size = B + 2 := by rw [hW0, hB]; simp
  rw [← hB] at HL ⊢
  have HB := Lib.hid hB
  have HW0 := Lib.hid hW0
  clear hB hW0
  have hseq := moments_seq (3 - 1) (by omega) (B + 1) B ao cap l W0 (by omega) (by omega) (bL.cell 0)
    (fun k hk => by obtain ⟨b, off, h1, h2, h3⟩ := HL.out k hk; exact ⟨b, off, h1, h2, (hBel0.cell (p := ⟨b, off + k, none⟩) h2).trans h3⟩) hU (by omega)
  refine wpIn_wide.1 (rangeT (n := 3) (by omega) (gf := 48) (lb := #[.pointer (some ⟨B + 1, 0, none⟩)]) rfl (enters_of Try.func48 (by kernel_rfl) rfl) hseq (by omega) (fun g hg => by omega) (fun _ => rfl)
    (fun pre W => (∃ v, Blk W B 33 #[v] ∧ W.ownsRow (B + 5) 3 1 v (backL l pre.length).length ((backL l pre.length).map (Value.int .i64))) ∧ Below B w W)
    (fun _ _ _ => False)
    ?sI (fun _ _ _ _ _ hs _ _ => hs) ⟨⟨_, bO, World.ownsRow_nil _ _ _ _⟩, hBel0⟩
    (fun x a' W => ∃ Bx, B + 5 ≤ Bx ∧ Blk W Bx 65 #[.int .u64 x.2.1, .int .u64 x.2.2.1, .int .u64 x.2.2.2] ∧
      a' = { tmps := #[.slice ao l.length cap, undef, .slice none 0 0, .pointer (some ⟨B, 0, none⟩), .int .i64 (x.1 : Int), .pointer (some ⟨Bx, 0, none⟩), .slice ao l.length cap, .func (.func 48) #[] #[.pointer (some ⟨B + 1, 0, none⟩)], .int .i64 (x.1 : Int), .agg #[.int .u64 x.2.1, .int .u64 x.2.2.1, .int .u64 x.2.2.2], undef, undef, undef, undef, undef, undef, undef, undef, undef, undef], defers := [] })
    ?sAx ?assign ?body ?done ?stop)
  case sI =>
    rintro s A A' row ⟨⟨v, h1, h2⟩, h3⟩ hg hr
    have ne : ∀ g, g = B ∨ B + 5 ≤ g → some g ≠ row := fun g hg' e => by
      have := hr g e.symm
      unfold Tw at this
      omega
    exact ⟨⟨v, (hg.block B h1.lt (ne _ (.inl rfl))).trans h1, own_move h2 (fun j hj => by
      have ge := own_base h2 j hj
      rcases Nat.lt_or_ge j A.heap.size with hlt | hge
      · exact hg.block j hlt (ne _ (.inr ge))
      · obtain ⟨_, hcell⟩ := Go.Proofs.YtgidglbkmklajaaW.PrintWords.own_typed h2 j hj
        rw [Array.getElem?_eq_none hge] at hcell; cases hcell)⟩, h3.grown hg (by have := h1.lt; omega) (fun k e => by have := hr k e; unfold Tw at this; omega)⟩
  case sAx =>
    rintro x a' s A A' row ⟨Bx, h1, h2, h3⟩ hg hr
    exact ⟨Bx, h1, (hg.block Bx h2.lt (fun e => by have := hr Bx e.symm; omega)).trans h2, h3⟩
  case assign =>
    rintro l' pre x W K ⟨⟨v, h1, h2⟩, h3⟩ hlt hK
    have hW5 := hlt (B + 4) (.inl (by omega))
    have s1 := h1.lt
    dsimp only [momEnc]
    gi_wp2
    exact hK _ _ ((Below.refl _ _).alloc (Nat.le_refl _) _) ⟨⟨v, h1.alloc _, h2.alloc _⟩, h3.alloc (by omega) _⟩ ⟨W.heap.size, by omega, Blk.new W _ _, rfl⟩
  case body =>
    rintro l' pre x a' W ⟨⟨v, h1, h2⟩, h3⟩ ⟨Bx, hBx, bx, rfl⟩ ⟨k, hk, hpre⟩ hlt
    have hW5 := hlt (B + 4) (.inl (by omega))
    rw [moms_succ] at hpre
    obtain ⟨rfl, hx⟩ := List.append_inj' hpre rfl
    obtain rfl : x = mom l k := by simpa using hx
    rw [moms_length] at h2
    have hlen1 := backL_length l k
    have HS := Lib.hid (backL_succ l k)
    simp only [mom] at bx ⊢
    have c1 := h1.cell 0
    have f1 := h1.frozen 0
    have c3 := bx.cell 0
    have c4 := bx.cell 1
    simp only [List.getElem?_toArray, List.getElem?_cons_zero, List.getElem?_cons_succ] at c1 c3 c4
    obtain ⟨t, ht⟩ : ∃ t, t = l.getD k 0 := ⟨_, rfl⟩
    rw [← ht] at c3 HS ⊢
    have HT := Lib.hid ht
    clear hpre hx ht
    have hm1 : (backL l k).length + 1 ≤ 140737488355328 / 8 := by omega
    have hT : ∀ g, Tw (fun g => g = W0.heap.size + 2) W0.heap.size g → g < W.heap.size ∧ g ≠ B ∧ g < B + 5 := fun g hg => ⟨hlt g hg, by unfold Tw at hg; omega, by unfold Tw at hg; omega⟩
    have HTT := Lib.hid hT
    have H1 := Lib.hid h1
    clear hlt hT
    gi_wp2_with (gi_at_builtin; refine wpListIn_append_own _ rfl _ _ 33 rfl (B + 5) 3 i0 (.int .i64 0) 1 8 Try.underlying33 hi hz0 hz1 hz2 rfl (by decide) _ _ _ rfl (h2.alloc _) ⟨W.heap.size, 0, none⟩ 1 1 [.int .i64 (k : Int)] rfl rfl (cell_one_new _ _ _) (by simp [Value.oneCell']) (by unfold maxLen; omega) (by omega) (by simp; omega) ?_; intro v' w1 hown' hgrow _; obtain ⟨g', cap', rfl⟩ := ownsRow_succ hown'; obtain ⟨q1, q2, q3, q4, q5⟩ := appendT H1.out h2 (by omega) (Nat.le_refl B) HTT.out hown' hgrow; have d1 := q1.cell 0; have d2 := q1.frozen 0; simp only [List.getElem?_toArray, List.getElem?_cons_zero] at d1)
    · have hlt : t < mst l (k + 1) := by assumption
      refine ⟨q4, q5, ⟨_, q2, ?_⟩, h3.trans q4⟩
      rw [List.length_append, moms_length]
      show World.ownsRow _ _ _ _ _ (backL l (k + 1)).length ((backL l (k + 1)).map _)
      rw [HS.out, if_pos hlt, List.map_append, List.length_append]
      exact q3
    · have hge : mst l (k + 1) ≤ t := by assumption
      refine ⟨Below.refl _ _, FarT.refl _ _, ⟨v, H1.out, ?_⟩, h3⟩
      rw [List.length_append, moms_length]
      show World.ownsRow _ _ _ _ _ (backL l (k + 1)).length ((backL l (k + 1)).map _)
      rw [HS.out, if_neg (by omega)]
      exact h2
  case done =>
    rintro xs W rfl ⟨⟨v, h1, h2⟩, h3⟩ hK
    rw [moms_length] at h2
    have c2 := h1.cell 0
    simp only [List.getElem?_toArray, List.getElem?_cons_zero] at c2
    go_wp2
    refine ⟨by simp, .inl ⟨_, _, rfl, run_takeDeferred hK, ?_⟩⟩
    have hD := (Array.getElem?_eq_some_iff.1 hK).1
    refine ⟨_, results_tmp rfl _ _ _, v, rfl, ?_, ?_⟩
    · rw [← HB.out]
      exact own_weaken (own_move h2 (fun j hj => World.putObj_heap_other (by have := own_base h2 j hj; omega))) (by omega)
    · rw [← HB.out]
      exact h3.grown (grown_put W W0.heap.size _) (by omega) (fun k e => by cases e; omega)
  case stop =>
    rintro c pre W _ h _
    exact h.elim

set_option maxRecDepth 100000 in
set_option maxHeartbeats 8000000 in
theorem longest_any (ao : Option Addr) (cap : Nat) (l : List Int) (w : World) (hl : ∀ k, k < l.length → ∃ b off, ao = some ⟨b, off, none⟩ ∧ b < w.heap.size ∧ w.cell? ⟨b, off + k, none⟩ = some (.int .u64 (l.getD k 0)))
    (hU : ∀ x ∈ l, U x) (hlen : l.length * 8 ≤ 140737488351232) :
    Calls Try.prog 14 #[.slice ao l.length cap] w fun e w' => e = .returned (.tuple #[.int .u64 (longL l l.length).1, .int .i64 (longL l l.length).2]) ∧ Below w.heap.size w w' := by
  obtain ⟨B, hB⟩ : ∃ B, B = w.heap.size := ⟨_, rfl⟩
  have HL := Lib.hid hl
  clear hl
  refine (callsIn_wide (n := 3)).1 (callsIn_of_wp_marks Try.func14 rfl trivial (wpIn_wide.2 ?_) rfl)
  simp only [Try.ntmps14, List.size_toArray, List.length_cons, List.length_nil, Nat.reduceAdd, Nat.reduceSub, Array.replicate_succ, Array.replicate_zero, List.push_toArray, List.append_toArray, List.nil_append, List.cons_append]
  go_wp2_with (go_at_call 37; refine (moments_any _ _ _ _).mono ?_; rintro e w' ⟨rfl, rfl⟩)
  obtain ⟨W0, hW0⟩ : ∃ W0, W0 = (((w.alloc (.cells #[.int .u64 0] 22)).alloc (.cells #[.int .i64 (-1)] 3)).alloc (.cells #[.slice ao l.length cap] 27)) := ⟨_, rfl⟩
  rw [← hW0]
  have bM : Blk W0 B 22 #[.int .u64 0] := by rw [hW0, hB]; exact ((Blk.new w _ _).alloc _).alloc _
  have bA : Blk W0 (B + 1) 3 #[.int .i64 (-1)] := by
    rw [hW0, hB]
    have := (Blk.new (w.alloc (.cells #[.int .u64 0] 22)) 3 #[.int .i64 (-1)]).alloc (.cells #[.slice ao l.length cap] 27)
    rwa [World.size_alloc] at this
  have bL : Blk W0 (B + 2) 27 #[.slice ao l.length cap] := by
    rw [hW0, hB]
    have := Blk.new ((w.alloc (.cells #[.int .u64 0] 22)).alloc (.cells #[.int .i64 (-1)] 3)) 27 #[.slice ao l.length cap]
    rwa [World.size_alloc, World.size_alloc] at this
  have hBel0 : Below B w W0 := by
    rw [hW0, hB]
    exact (((Below.refl _ _).alloc (Nat.le_refl _) _).alloc (by simp) _).alloc (by simp; omega) _
  have sz0 : W0.heap.size = B + 3 := by rw [hW0, hB]; simp
  rw [← hB] at HL ⊢
  have HB := Lib.hid hB
  have HW0 := Lib.hid hW0
  clear hB hW0
  have hseq := moments_seq (3 - 1) (by omega) (B + 2) B ao cap l W0 (by omega) (by omega) (bL.cell 0)
    (fun k hk => by obtain ⟨b, off, h1, h2, h3⟩ := HL.out k hk; exact ⟨b, off, h1, h2, (hBel0.cell (p := ⟨b, off + k, none⟩) h2).trans h3⟩) hU (by omega)
  refine wpIn_wide.1 (rangeT (n := 3) (by omega) (gf := 48) (lb := #[.pointer (some ⟨B + 2, 0, none⟩)]) rfl (enters_of Try.func48 (by kernel_rfl) rfl) hseq (by omega) (fun g hg => by omega) (fun _ => rfl)
    (fun pre W => Blk W B 22 #[.int .u64 (longL l pre.length).1] ∧ Blk W (B + 1) 3 #[.int .i64 (longL l pre.length).2] ∧ Below B w W)
    (fun _ _ _ => False)
    ?sI (fun _ _ _ _ _ hs _ _ => hs) ⟨bM, bA, hBel0⟩
    (fun x a' W => ∃ Bx, B + 6 ≤ Bx ∧ Blk W Bx 65 #[.int .u64 x.2.1, .int .u64 x.2.2.1, .int .u64 x.2.2.2] ∧
      a' = { tmps := #[.slice ao l.length cap, undef, .int .u64 0, .int .i64 0, .pointer (some ⟨B, 0, none⟩), .pointer (some ⟨B + 1, 0, none⟩), .int .i64 (x.1 : Int), .pointer (some ⟨Bx, 0, none⟩), .slice ao l.length cap, .func (.func 48) #[] #[.pointer (some ⟨B + 2, 0, none⟩)], .int .i64 (x.1 : Int), .agg #[.int .u64 x.2.1, .int .u64 x.2.2.1, .int .u64 x.2.2.2], undef, undef, undef, undef, undef, undef, undef, undef, undef, undef, undef, undef, undef, undef, undef, undef, undef], defers := [] })
    ?sAx ?assign ?body ?done ?stop)
  case sI =>
    rintro s A A' row ⟨h1, h2, h3⟩ hg hr
    have ne : ∀ g, g = B ∨ g = B + 1 → some g ≠ row := fun g hg' e => by
      have := hr g e.symm
      unfold Tw at this
      omega
    exact ⟨(hg.block B h1.lt (ne _ (.inl rfl))).trans h1, (hg.block (B + 1) h2.lt (ne _ (.inr rfl))).trans h2, h3.grown hg (by have := h1.lt; omega) (fun k e => by have := hr k e; unfold Tw at this; omega)⟩
  case sAx =>
    rintro x a' s A A' row ⟨Bx, h1, h2, h3⟩ hg hr
    exact ⟨Bx, h1, (hg.block Bx h2.lt (fun e => by have := hr Bx e.symm; omega)).trans h2, h3⟩
  case assign =>
    rintro l' pre x W K ⟨h1, h2, h3⟩ hlt hK
    have hW5 := hlt (B + 5) (.inl (by omega))
    have s1 := h1.lt
    dsimp only [momEnc]
    gi_wp2
    exact hK _ _ ((Below.refl _ _).alloc (Nat.le_refl _) _) ⟨h1.alloc _, h2.alloc _, h3.alloc (by omega) _⟩ ⟨W.heap.size, by omega, Blk.new W _ _, rfl⟩
  case body =>
    rintro l' pre x a' W ⟨h1, h2, h3⟩ ⟨Bx, hBx, bx, rfl⟩ ⟨k, hk, hpre⟩ hlt
    rw [moms_succ] at hpre
    obtain ⟨rfl, hx⟩ := List.append_inj' hpre rfl
    obtain rfl : x = mom l k := by simpa using hx
    rw [moms_length] at h1 h2
    obtain ⟨M, hM⟩ : ∃ M, M = (longL l k).1 := ⟨_, rfl⟩
    obtain ⟨A, hA⟩ : ∃ A, A = (longL l k).2 := ⟨_, rfl⟩
    obtain ⟨d, hd⟩ : ∃ d, d = dtt l k := ⟨_, rfl⟩
    have HS := Lib.hid (show longL l (k + 1) = if 0 < k ∧ (A < 0 ∨ M < d) then (d, (k : Int)) else (M, A) by rw [hM, hA, hd]; rfl)
    simp only [mom] at bx ⊢
    rw [← hd] at bx ⊢
    rw [← hM] at h1
    rw [← hA] at h2
    have c1 := h1.cell 0
    have f1 := h1.frozen 0
    have c2 := h2.cell 0
    have f2 := h2.frozen 0
    have c3 := bx.cell 2
    simp only [List.getElem?_toArray, List.getElem?_cons_zero, List.getElem?_cons_succ] at c1 c2 c3
    have hlt1 := h2.lt
    have sza : W0.heap.size ≤ B + 3 := by omega
    have szb : B + 3 ≤ W0.heap.size := by omega
    clear hpre hx hM hA hd sz0
    by_cases k0 : 0 < k
    · by_cases a0 : A < 0
      · skip
        have Q := Lib.hid (And.intro (h3.setCell (p := ⟨B, 0, none⟩) (Nat.le_refl _) (.int .u64 d)) (And.intro (h1.put 0 (.int .u64 d)) (h2.far (p := ⟨B, 0, none⟩) (by simp) (.int .u64 d))))
        gi_wp2
        obtain ⟨b3, p1, p2⟩ := Q.out
        have p3 := p1.far (p := ⟨B + 1, 0, none⟩) (by simp) (.int .i64 (k : Int))
        have p4 := p2.put 0 (.int .i64 (k : Int))
        simp only [List.setIfInBounds_toArray, List.set_cons_zero] at p3 p4
        have f1 := FarT.set (T := Tw (fun g => g = W0.heap.size + 2) W0.heap.size) W (p := ⟨B, 0, none⟩) (.int .u64 d) (by unfold Tw; simp; omega)
        have f2 := FarT.set (T := Tw (fun g => g = W0.heap.size + 2) W0.heap.size) (W.setCell ⟨B, 0, none⟩ (.int .u64 d)) (p := ⟨B + 1, 0, none⟩) (.int .i64 (k : Int)) (by unfold Tw; simp; omega)
        refine ⟨((Below.refl _ _).setCell (p := ⟨B, 0, none⟩) (Nat.le_refl _) _).setCell (p := ⟨B + 1, 0, none⟩) (by simp) _, f1.trans f2, ?_, ?_, b3.setCell (p := ⟨B + 1, 0, none⟩) (by simp) _⟩
        · rw [List.length_append, moms_length]
          show Blk _ _ _ #[.int .u64 (longL l (k + 1)).1]
          rw [HS.out, if_pos ⟨k0, .inl a0⟩]
          exact p3
        · rw [List.length_append, moms_length]
          show Blk _ _ _ #[.int .i64 (longL l (k + 1)).2]
          rw [HS.out, if_pos ⟨k0, .inl a0⟩]
          exact p4
      · have a0' : 0 ≤ A := by omega
        by_cases m0 : M < d
        · skip
          have Q := Lib.hid (And.intro (h3.setCell (p := ⟨B, 0, none⟩) (Nat.le_refl _) (.int .u64 d)) (And.intro (h1.put 0 (.int .u64 d)) (h2.far (p := ⟨B, 0, none⟩) (by simp) (.int .u64 d))))
          gi_wp2
          obtain ⟨b3, p1, p2⟩ := Q.out
          have p3 := p1.far (p := ⟨B + 1, 0, none⟩) (by simp) (.int .i64 (k : Int))
          have p4 := p2.put 0 (.int .i64 (k : Int))
          simp only [List.setIfInBounds_toArray, List.set_cons_zero] at p3 p4
          have f1 := FarT.set (T := Tw (fun g => g = W0.heap.size + 2) W0.heap.size) W (p := ⟨B, 0, none⟩) (.int .u64 d) (by unfold Tw; simp; omega)
          have f2 := FarT.set (T := Tw (fun g => g = W0.heap.size + 2) W0.heap.size) (W.setCell ⟨B, 0, none⟩ (.int .u64 d)) (p := ⟨B + 1, 0, none⟩) (.int .i64 (k : Int)) (by unfold Tw; simp; omega)
          refine ⟨((Below.refl _ _).setCell (p := ⟨B, 0, none⟩) (Nat.le_refl _) _).setCell (p := ⟨B + 1, 0, none⟩) (by simp) _, f1.trans f2, ?_, ?_, b3.setCell (p := ⟨B + 1, 0, none⟩) (by simp) _⟩
          · rw [List.length_append, moms_length]
            show Blk _ _ _ #[.int .u64 (longL l (k + 1)).1]
            rw [HS.out, if_pos ⟨k0, .inr m0⟩]
            exact p3
          · rw [List.length_append, moms_length]
            show Blk _ _ _ #[.int .i64 (longL l (k + 1)).2]
            rw [HS.out, if_pos ⟨k0, .inr m0⟩]
            exact p4
        · have m0' : d ≤ M := by omega
          gi_wp2
          refine ⟨Below.refl _ _, FarT.refl _ _, ?_, ?_, h3⟩
          · rw [List.length_append, moms_length]
            show Blk _ _ _ #[.int .u64 (longL l (k + 1)).1]
            rw [HS.out, if_neg (by omega)]
            exact h1
          · rw [List.length_append, moms_length]
            show Blk _ _ _ #[.int .i64 (longL l (k + 1)).2]
            rw [HS.out, if_neg (by omega)]
            exact h2
    · have kn := Lib.hid k0
      have kf : decide (0 < k) = false := by simpa using k0
      clear k0
      gi_wp2
      refine ⟨Below.refl _ _, FarT.refl _ _, ?_, ?_, h3⟩
      · rw [List.length_append, moms_length]
        show Blk _ _ _ #[.int .u64 (longL l (k + 1)).1]
        rw [HS.out, if_neg (fun h => kn.out h.1)]
        exact h1
      · rw [List.length_append, moms_length]
        show Blk _ _ _ #[.int .i64 (longL l (k + 1)).2]
        rw [HS.out, if_neg (fun h => kn.out h.1)]
        exact h2
  case done =>
    rintro xs W rfl ⟨h1, h2, h3⟩ hK
    rw [moms_length] at h1 h2
    obtain ⟨M, hM⟩ : ∃ M, M = (longL l l.length).1 := ⟨_, rfl⟩
    obtain ⟨A, hA⟩ : ∃ A, A = (longL l l.length).2 := ⟨_, rfl⟩
    rw [← hM] at h1
    rw [← hA] at h2
    have c1 := h1.cell 0
    have c2 := h2.cell 0
    simp only [List.getElem?_toArray, List.getElem?_cons_zero] at c1 c2
    have HM := Lib.hid hM
    have HA := Lib.hid hA
    have lt2 := h2.lt
    have lt1 := h1.lt
    clear hM hA
    go_wp2_with fail
    refine wp_region_calls 4 (by kernel_rfl) (by kernel_rfl) ?_
    simp only [List.take_succ_cons, List.take_zero, List.drop_succ_cons, List.drop_zero]
    refine walk1_open fun K hK => ?_
    repeat
      apply walk1_value (by rfl)
      · intro W hcl hsz; go_simp; rfl
      simp only [Act.put, List.setIfInBounds_toArray, List.set_cons_zero, List.set_cons_succ]
    refine walk1_nil (hK _ ?_); clear hK K
    intro W6 hW6
    have k1 := h1.step hW6
    have k2 := h2.step hW6
    have kB : Below B w W6 := h3.trans (hW6.mono (by omega))
    have hD := (Array.getElem?_eq_some_iff.1 hK).1
    have kK : W6.heap[W0.heap.size]? = some (.deferred (some [])) := (hW6.block _ hD).trans hK
    have kD := (Array.getElem?_eq_some_iff.1 kK).1
    clear hW6 c1 c2
    go_wp2
    refine ⟨by simp, .inl ⟨_, _, rfl, run_takeDeferred kK, ?_⟩⟩
    refine ⟨_, results_tmp2 rfl _ _ _, ?_, ?_⟩
    · rw [← HM.out, ← HA.out]
      rfl
    · rw [← HB.out]
      exact kB.grown (grown_put W6 W0.heap.size _) (by omega) (fun k e => by cases e; omega)
  case stop =>
    rintro c pre W _ h _
    exact h.elim
end Go.Proofs.Ytgidglbkmklajaa
