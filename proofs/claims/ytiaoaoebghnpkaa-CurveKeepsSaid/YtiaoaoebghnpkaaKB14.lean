/- Part of the proof. -/
import Derived.Laws.MakeOwn
import Derived.Test.YtiaoaoebghnpkaaKB13
/- What goes over ratchet's moments: Run. -/
namespace Go.Proofs.Ytiaoaoebghnpkaa
open Go.RowKit Go.Shelf
attribute [local go_sem] Oper.semAt_some

theorem moments_any (ao : Option Addr) (n cap : Nat) (w : World) : Calls Try.prog 75 #[.slice ao n cap] w fun e w' => e = .returned (.func (.func 88) #[] #[.pointer (some ⟨w.heap.size, 0, none⟩)]) ∧ w' = w.alloc (.cells #[.slice ao n cap] 57) := by
  go_enter Try.func75, Try.ntmps75
  go_wp2
  go_ret
  exact ⟨rfl, rfl⟩

/-- The row that Run fills, behind k rounds. -/
def rowK (l : List Int) (k : Nat) : List Value := (List.range l.length).map fun j => .int .u64 (if j < k then mst l (j + 1) else 0)
theorem rowK_length (l : List Int) (k : Nat) : (rowK l k).length = l.length := by simp [rowK]
theorem rowK_get {l : List Int} {k j : Nat} (h : j < l.length) : (rowK l k)[j]? = some (.int .u64 (if j < k then mst l (j + 1) else 0)) := by
  simp [rowK, h]
theorem rowK_set {l : List Int} {k : Nat} : (rowK l k).set k (.int .u64 (mst l (k + 1))) = rowK l (k + 1) := by
  apply List.ext_getElem?
  intro j
  rcases Nat.lt_or_ge j l.length with hj | hj
  · rw [List.getElem?_set, rowK_get hj]
    by_cases e : k = j
    · subst e
      rw [if_pos rfl, if_pos (by rw [rowK_length]; exact hj), rowK_get hj, if_pos (by omega)]
    · rw [if_neg e, rowK_get hj]
      by_cases h1 : j < k
      · rw [if_pos h1, if_pos (by omega)]
      · rw [if_neg h1, if_neg (by omega)]
  · rw [List.getElem?_eq_none (by rw [List.length_set, rowK_length]; exact hj), List.getElem?_eq_none (by rw [rowK_length]; exact hj)]
theorem rowK_done (l : List Int) : rowK l l.length = (runL l).map (Value.int .u64) := by
  unfold rowK runL
  rw [List.map_map]
  apply List.map_congr_left
  intro j hj
  rw [if_pos (by simpa using hj)]
  rfl
theorem made_rowK (l : List Int) : madeCells #[.int .u64 0] l.length = (rowK l 0).toArray := by
  apply Array.ext'
  apply List.ext_getElem?
  intro j
  rcases Nat.lt_or_ge j l.length with hj | hj
  · rw [rowK_get hj, if_neg (by omega)]
    simp [madeCells, hj, Nat.mod_one]
  · rw [List.getElem?_eq_none (by simp [madeCells]; exact hj), List.getElem?_eq_none (by rw [rowK_length]; exact hj)]

theorem Try.infoU64 : (Try.prog.info? 23).map (fun i => (i.zero, i.size, i.bytes)) = some (some (.int .u64 0), 1, 8) := by kernel_rfl

set_option maxRecDepth 100000 in
set_option maxHeartbeats 8000000 in
theorem run_any (ao : Option Addr) (cap : Nat) (l : List Int) (w : World) (hl : ∀ k, k < l.length → ∃ b off, ao = some ⟨b, off, none⟩ ∧ b < w.heap.size ∧ w.cell? ⟨b, off + k, none⟩ = some (.int .u64 (l.getD k 0)))
    (hU : ∀ x ∈ l, U x) (hlen : l.length * 8 ≤ 140737488351232) :
    Calls Try.prog 50 #[.slice ao l.length cap] w fun e w' => ∃ g, e = .returned (.slice (some ⟨g, 0, none⟩) l.length l.length) ∧ w.heap.size ≤ g ∧ Blk w' g 23 ((runL l).map (Value.int .u64)).toArray ∧ Below w.heap.size w w' := by
  obtain ⟨B, hB⟩ : ∃ B, B = w.heap.size := ⟨_, rfl⟩
  obtain ⟨i0, hi, hz0, hz1, hz2⟩ := info_parts Try.infoU64
  have hmk : ∀ W, (Instr.makeSlice 57 (.int .i64 (l.length : Int)) (.int .i64 (l.length : Int))).run Try.prog W = .ok (.slice (some ⟨W.heap.size, 0, none⟩) l.length l.length) (W.alloc (.cells (rowK l 0).toArray 23)) := fun W => by
    have := run_make (P := Try.prog) W 57 23 i0 (.int .u64 0) Try.underlying57 hi hz0 .i64 .i64 (l.length : Int) (l.length : Int) (by omega) (Int.le_refl _) (by rw [hz2]; omega) (by omega)
    rw [hz1, Int.toNat_natCast, Nat.mul_one] at this
    rw [this, ← made_rowK]
    rfl
  have HL := Lib.hid hl
  clear hl
  refine (callsIn_wide (n := 3)).1 (callsIn_of_wp_marks Try.func50 rfl trivial (wpIn_wide.2 ?_) rfl)
  simp only [Try.ntmps50, List.size_toArray, List.length_cons, List.length_nil, Nat.reduceAdd, Nat.reduceSub, Array.replicate_succ, Array.replicate_zero, List.push_toArray, List.append_toArray, List.nil_append, List.cons_append]
  go_wp2_with (go_at_call 75; refine (moments_any _ _ _ _).mono ?_; rintro e w' ⟨rfl, rfl⟩)
  obtain ⟨W0, hW0⟩ : ∃ W0, W0 = (((w.alloc (.cells (rowK l 0).toArray 23)).alloc (.cells #[.slice (some ⟨w.heap.size, 0, none⟩) l.length l.length] 57)).alloc (.cells #[.slice ao l.length cap] 57)) := ⟨_, rfl⟩
  rw [← hW0]
  have bR : Blk W0 B 23 (rowK l 0).toArray := by rw [hW0, hB]; exact ((Blk.new w _ _).alloc _).alloc _
  have bO : Blk W0 (B + 1) 57 #[.slice (some ⟨B, 0, none⟩) l.length l.length] := by
    rw [hW0, hB]
    have := (Blk.new (w.alloc (.cells (rowK l 0).toArray 23)) 57 #[.slice (some ⟨w.heap.size, 0, none⟩) l.length l.length]).alloc (.cells #[.slice ao l.length cap] 57)
    rwa [World.size_alloc] at this
  have bL : Blk W0 (B + 2) 57 #[.slice ao l.length cap] := by
    rw [hW0, hB]
    have := Blk.new ((w.alloc (.cells (rowK l 0).toArray 23)).alloc (.cells #[.slice (some ⟨w.heap.size, 0, none⟩) l.length l.length] 57)) 57 #[.slice ao l.length cap]
    rwa [World.size_alloc, World.size_alloc] at this
  have hBel0 : Below B w W0 := by
    rw [hW0, hB]
    exact (((Below.refl _ _).alloc (Nat.le_refl _) _).alloc (by simp) _).alloc (by simp; omega) _
  have sz0 : W0.heap.size = B + 3 := by rw [hW0, hB]; simp
  rw [← hB] at HL ⊢
  have HB := Lib.hid hB
  have HW0 := Lib.hid hW0
  clear hB hW0 hmk
  have hseq := moments_seq (3 - 1) (by omega) (B + 2) B ao cap l W0 (by omega) (by omega) (bL.cell 0)
    (fun k hk => by obtain ⟨b, off, h1, h2, h3⟩ := HL.out k hk; exact ⟨b, off, h1, h2, (hBel0.cell (p := ⟨b, off + k, none⟩) h2).trans h3⟩) hU (by omega)
  refine wpIn_wide.1 (rangeT (n := 3) (by omega) (gf := 88) (lb := #[.pointer (some ⟨B + 2, 0, none⟩)]) rfl (enters_of Try.func88 (by kernel_rfl) rfl) hseq (by omega) (fun g hg => by omega) (fun _ => rfl)
    (fun pre W => Blk W B 23 (rowK l pre.length).toArray ∧ Blk W (B + 1) 57 #[.slice (some ⟨B, 0, none⟩) l.length l.length] ∧ Below B w W)
    (fun _ _ _ => False)
    ?sI (fun _ _ _ _ _ hs _ _ => hs) ⟨bR, bO, hBel0⟩
    (fun x a' W => ∃ Bx, B + 6 ≤ Bx ∧ Blk W Bx 120 #[.int .u64 x.2.1, .int .u64 x.2.2.1, .int .u64 x.2.2.2] ∧
      a' = { tmps := #[.slice ao l.length cap, undef, .slice none 0 0, .pointer (some ⟨B + 1, 0, none⟩), .int .i64 (x.1 : Int), .pointer (some ⟨Bx, 0, none⟩), .slice ao l.length cap, .int .i64 (l.length : Int), .slice (some ⟨B, 0, none⟩) l.length l.length, .slice ao l.length cap, .func (.func 88) #[] #[.pointer (some ⟨B + 2, 0, none⟩)], .int .i64 (x.1 : Int), .agg #[.int .u64 x.2.1, .int .u64 x.2.2.1, .int .u64 x.2.2.2], undef, undef, undef, undef, undef, undef], defers := [] })
    ?sAx ?assign ?body ?done ?stop)
  case sI =>
    rintro s A A' row ⟨h1, h2, h3⟩ hg hr
    have ne : ∀ g, g = B ∨ g = B + 1 → some g ≠ row := fun g hg' e => by
      have := hr g e.symm
      unfold Tw at this
      omega
    exact ⟨(hg.block B h1.lt (ne _ (.inl rfl))).trans h1, (hg.block (B + 1) h2.lt (ne _ (.inr rfl))).trans h2, h3.grown hg (by have := h1.lt; omega) (fun k e => by have := hr k e; unfold Tw at this; omega)⟩
  case sAx =>
    rintro x a' s A A' row ⟨Bx, h1, h2, h3⟩ hg hr
    exact ⟨Bx, h1, (hg.block Bx h2.lt (fun e => by have := hr Bx e.symm; omega)).trans h2, h3⟩
  case assign =>
    rintro l' pre x W K ⟨h1, h2, h3⟩ hlt hK
    have hW5 := hlt (B + 5) (.inl (by omega))
    have s1 := h1.lt
    dsimp only [momEnc]
    gi_wp2
    exact hK _ _ ((Below.refl _ _).alloc (Nat.le_refl _) _) ⟨h1.alloc _, h2.alloc _, h3.alloc (by omega) _⟩ ⟨W.heap.size, by omega, Blk.new W _ _, rfl⟩
  case body =>
    rintro l' pre x a' W ⟨h1, h2, h3⟩ ⟨Bx, hBx, bx, rfl⟩ ⟨k, hk, hpre⟩ hlt
    rw [moms_succ] at hpre
    obtain ⟨rfl, hx⟩ := List.append_inj' hpre rfl
    obtain rfl : x = mom l k := by simpa using hx
    rw [moms_length] at h1
    have hrow := rowK_get (l := l) (k := k) hk
    have HS := Lib.hid (rowK_set (l := l) (k := k))
    have hlk : (rowK l k).length = l.length := rowK_length l k
    simp only [mom] at bx ⊢
    have c1 : W.cell? ⟨B, k, none⟩ = some (.int .u64 0) := by
      have := h1.cell k
      simp only [List.getElem?_toArray] at this
      rw [this, hrow, if_neg (by omega)]
    have f1 : W.frozen? ⟨B, k, none⟩ = false := h1.frozen k
    have c2 := h2.cell 0
    have c3 := bx.cell 1
    simp only [List.getElem?_toArray, List.getElem?_cons_zero, List.getElem?_cons_succ] at c2 c3
    have hk0 : (k : Int) < (l.length : Int) := by omega
    have HK := Lib.hid hk
    have HR := Lib.hid hrow
    have HLK := Lib.hid hlk
    have b3 := h3.setCell (p := ⟨B, k, none⟩) (Nat.le_refl _) (.int .u64 (mst l (k + 1)))
    have p1 := h1.put k (.int .u64 (mst l (k + 1)))
    have p2 := h2.far (p := ⟨B, k, none⟩) (by simp) (.int .u64 (mst l (k + 1)))
    have far : FarT (Tw (fun g => g = W0.heap.size + 2) W0.heap.size) W (W.setCell ⟨B, k, none⟩ (.int .u64 (mst l (k + 1)))) := FarT.set W _ (by unfold Tw; simp; omega)
    have below : Below B W (W.setCell ⟨B, k, none⟩ (.int .u64 (mst l (k + 1)))) := (Below.refl _ _).setCell (p := ⟨B, k, none⟩) (Nat.le_refl _) _
    have Q := Lib.hid (And.intro b3 (And.intro p1 (And.intro p2 (And.intro far below))))
    clear hrow hlk b3 p1 p2 far below hpre hx
    gi_wp2
    obtain ⟨b3, p1, p2, far, below⟩ := Q.out
    refine ⟨below, far, ?_, p2, b3⟩
    rw [List.length_append, moms_length]
    have e : ((rowK l k).toArray.setIfInBounds k (.int .u64 (mst l (k + 1)))) = (rowK l (k + 1)).toArray := by
      rw [List.setIfInBounds_toArray, HS.out]
    rw [e] at p1
    exact p1
  case done =>
    rintro xs W rfl ⟨h1, h2, h3⟩ hK
    rw [moms_length, rowK_done] at h1
    have c2 := h2.cell 0
    simp only [List.getElem?_toArray, List.getElem?_cons_zero] at c2
    go_wp2
    refine ⟨by simp, .inl ⟨_, _, rfl, run_takeDeferred hK, ?_⟩⟩
    have hD := (Array.getElem?_eq_some_iff.1 hK).1
    refine ⟨_, results_tmp rfl _ _ _, B, rfl, by have := HB.out; omega, ?_, ?_⟩
    · exact (World.putObj_heap_other (r := W0.heap.size) (k := B) (by omega)).trans h1
    · rw [← HB.out]
      exact h3.grown (grown_put W W0.heap.size _) (by omega) (fun k e => by cases e; omega)
  case stop =>
    rintro c pre W _ h _
    exact h.elim
end Go.Proofs.Ytiaoaoebghnpkaa
