/- The law WholeDrops: it answers true, whatever the input. Condition: none. -/
import Derived.Test.YtgidglbkmklajaaRows
import Derived.Test.YtgidglbkmklajaaLive24
import Derived.Test.YtgidglbkmklajaaSlice
namespace Go.Proofs.Ytgidglbkmklajaa
open Go.ChangeShapes Go.WideShapes Go.ChangeAt Go.RowKit

def U32 (x : Int) : Prop := 0 ≤ x ∧ x < 4294967296

theorem mul32 {x y : Int} (h0 : 0 ≤ x) (h1 : x < 4294967296) (k0 : 0 ≤ y) (k1 : y < 4294967296) : x * y < 18446744073709551616 := by
  have := Int.mul_le_mul (show x ≤ 4294967295 by omega) (show y ≤ 4294967295 by omega) k0 (by omega : (0 : Int) ≤ 4294967295)
  omega
theorem drop_law {m r g : Int} (h0 : 0 ≤ m) (h1 : m ≤ r) (hg : 0 ≤ g) : 0 ≤ growV m r g ∧ growV m r g ≤ r ∧ growV m r g + spillV m r g = m + g := by
  unfold spillV growV putV
  simp only [Int.min_def]
  repeat' split
  all_goals omega

theorem take_law {a s : Int} (hk : okV s = true) : (needV s ≤ a → takeV a s = a - needV s ∧ canV a s = true) ∧ (¬ needV s ≤ a → takeV a s = a ∧ canV a s = false) := by
  unfold takeV canV
  rw [hk]
  constructor
  · intro h
    have : decide (needV s ≤ a) = true := by simpa using h
    rw [this]; exact ⟨rfl, rfl⟩
  · intro h
    have : decide (needV s ≤ a) = false := by simpa using h
    rw [this]; exact ⟨rfl, rfl⟩

set_option maxRecDepth 100000 in
set_option maxHeartbeats 8000000 in
theorem drops_any (l r0 : Int) (ao : Option Addr) (n cap : Nat) (w : World) (hl : U l) (hr0 : U r0) (hcap : n ≤ cap) (hmax : n ≤ 9223372036854775807)
    (hA : ∀ k : Nat, k < n → ∃ (b off : Nat) (x y : Int), ao = some ⟨b, off, none⟩ ∧ U32 x ∧ U32 y ∧ w.cell? ⟨b, off + k * 2, none⟩ = some (.int .u32 x) ∧ w.cell? ⟨b, off + k * 2 + 1, none⟩ = some (.int .u32 y) ∧ b < w.heap.size) :
    Calls Try.prog 10 #[.int .u64 l, .int .u64 r0, .slice ao n cap] w fun e w' => e = .returned (.bool true) ∧ Below w.heap.size w w' := by
  obtain ⟨r, hr'⟩ : ∃ r, r = r0 % 4611686018427387904 := ⟨_, rfl⟩
  have hrb : 0 ≤ r ∧ r < 4611686018427387904 := by omega
  have e1 : r0.tmod 4611686018427387904 = r := by rw [Int.tmod_eq_emod_of_nonneg hr0.1, hr']
  have E1 := Lib.hid e1
  have hUr : U r := by unfold U; omega
  clear hr' e1
  have HA := Lib.hid hA
  clear hA
  go_enter Try.func10, Try.ntmps10
  by_cases hn : n ≤ 100
  · go_wp2_with fail
    · have hr1 := hrb.1
      rw [E1.out]
      refine (of_any _ _).mono ?_
      rintro e W1 ⟨rfl, hW1⟩
      have hB1 : Below w.heap.size w W1 := hW1
      clear hW1
      go_wp2
      have g1 := (Blk.new W1 38 #[.int .u64 0, .int .u64 r]).alloc (.cells #[.int .u64 0, .int .u64 0] 38)
      have g2 := Blk.new (W1.alloc (.cells #[.int .u64 0, .int .u64 r] 38)) 38 #[.int .u64 0, .int .u64 0]
      have hB2 : Below w.heap.size w ((W1.alloc (.cells #[.int .u64 0, .int .u64 r] 38)).alloc (.cells #[.int .u64 0, .int .u64 0] 38)) := (hB1.alloc hB1.size _).alloc (hB1.alloc hB1.size _).size _
      rw [World.size_alloc] at g2
      generalize ((W1.alloc (.cells #[.int .u64 0, .int .u64 r] 38)).alloc (.cells #[.int .u64 0, .int .u64 0] 38)) = W2 at *
      have hB1s := hB1.size
      generalize W1.heap.size = g at *
      clear hB1
      go_loopw [7, 10] (fun nv iv wr => ∃ (k : Nat) (m I O : Int), k ≤ n ∧ iv = .int .i64 k ∧ nv = .int .u64 m ∧ 0 ≤ m ∧ m ≤ r ∧ 0 ≤ O ∧ I ≤ 4611686018427387904 + k * 18446744073709551616 ∧ Hid (I = O + m) ∧
          Blk wr g 38 #[.int .u64 (hi I), .int .u64 (lo I)] ∧ Blk wr (g + 1) 38 #[.int .u64 (hi O), .int .u64 (lo O)] ∧ Below w.heap.size w wr) (fun _ iv _ => n - (intOf iv).toNat)
      case atStart =>
        refine ⟨0, r, r, 0, by omega, rfl, rfl, hr1, (Int.le_refl r), by omega, ?_, (by omega : r = 0 + r), ?_, ?_, hB2⟩
        · have := (Int.le_refl r); omega
        · rw [hi_of_U hUr, lo_of_U hUr]; exact g1
        · rw [hi_of_U U_zero, lo_of_U U_zero]; exact g2
      case round =>
        obtain ⟨k, m, I, O, hk, rfl, rfl, hm0, hm1, hO, hI, hIO, x1, x2, xB⟩ := hrel
        by_cases hlt : k < n
        · obtain ⟨b, off, x, y, rfl, ux, uy, cx, cy, hbw⟩ := HA.out k hlt
          have CX := Lib.hid cx
          have CY := Lib.hid cy
          obtain ⟨hx0, hx1⟩ := ux
          obtain ⟨hy0, hy1⟩ := uy
          have uX : U x := by unfold U; omega
          have uY : U y := by unfold U; omega
          have wx' := wrap_in uX
          have wy' := wrap_in uY
          have uM : U m := by unfold U at *; omega
          have hk0 : (k : Int) < n := by omega
          have vG := V_mul uX uY
          have hg2 : x * y < 18446744073709551616 := mul32 hx0 hx1 hy0 hy1
          obtain ⟨a1, a2, a3⟩ := drop_law hm0 hm1 vG.1
          obtain ⟨_, _, vS, uN⟩ := put_bounds uM hUr vG
          have e2 := Lib.hid (show growV m r (x * y) + spillV m r (x * y) = m + x * y from a3)
          obtain ⟨N, hN⟩ : ∃ N, N = growV m r (x * y) := ⟨_, rfl⟩
          obtain ⟨S, hS⟩ : ∃ S, S = spillV m r (x * y) := ⟨_, rfl⟩
          rw [← hN] at a1 a2 uN e2
          rw [← hS] at vS e2
          have HN := Lib.hid hN
          have HS := Lib.hid hS
          clear cx cy hN hS a3
          have hgs : g + 1 < wr.heap.size := x2.lt
          go_upto_region 11 with (fail)
          replace x1 := x1.alloc (.cells #[.int .u64 0, .int .u64 0] 38)
          replace x2 := x2.alloc (.cells #[.int .u64 0, .int .u64 0] 38)
          have x3 := Blk.new wr 38 #[.int .u64 0, .int .u64 0]
          have hB3 : Below w.heap.size w (wr.alloc (.cells #[.int .u64 0, .int .u64 0] 38)) := xB.alloc xB.size _
          generalize wr.alloc (.cells #[.int .u64 0, .int .u64 0] 38) = W3 at *
          generalize wr.heap.size = g3 at *
          clear xB
          have cx := (hB3.cell (p := ⟨b, off + k * 2, none⟩) hbw).trans CX.out
          have cy := (hB3.cell (p := ⟨b, off + k * 2 + 1, none⟩) hbw).trans CY.out
          have hbs : b < W3.heap.size := by have := hB3.size; omega
          refine wp_region_calls 19 (by kernel_rfl) (by kernel_rfl) ?_
          simp only [List.take_succ_cons, List.take_zero, List.drop_succ_cons, List.drop_zero]
          refine walk1_open fun K hK => ?_
          repeat
            apply walk1_value (by rfl)
            · intro W hcl hsz; go_simp; rfl
            simp only [Act.put, List.setIfInBounds_toArray, List.set_cons_zero, List.set_cons_succ]
          apply walk1_call (by rfl)
          · intro W hsz; go_simp; first | exact ⟨rfl, rfl⟩ | rfl
          · intro W hlW; exact bgrow_any _ _ _ _ _ uM hUr uX uY
          simp only [Act.put, List.setIfInBounds_toArray, List.set_cons_zero, List.set_cons_succ]
          repeat
            apply walk1_value (by rfl)
            · intro W hcl hsz; go_simp; rfl
            simp only [Act.put, List.setIfInBounds_toArray, List.set_cons_zero, List.set_cons_succ]
          refine walk1_nil (hK _ ?_); clear hK K
          intro W4 hW4
          rw [← HN.out, ← HS.out]
          replace x1 := x1.step hW4
          replace x2 := x2.step hW4
          replace x3 := x3.step hW4
          have hB4 := below_of hB3 hW4
          clear hW4 hB3 cx cy hbs
          have z1 := x1.lt
          have c0x3 := x3.cell 0
          have c1x3 := x3.cell 1
          have f0x3 := x3.frozen 0
          have f1x3 := x3.frozen 1
          have zzx3 := x3.lt
          simp only [List.getElem?_toArray, List.getElem?_cons_zero, List.getElem?_cons_succ] at c0x3 c1x3
          go_upto_region 12 with (fail)
          replace x2 := (x2.far (p := ⟨g3, 0, none⟩) (by simp <;> omega) (.int .u64 (hi S))).far (p := ⟨g3, 1, none⟩) (by simp <;> omega) (.int .u64 (lo S))
          replace x1 := (x1.far (p := ⟨g3, 0, none⟩) (by simp <;> omega) (.int .u64 (hi S))).far (p := ⟨g3, 1, none⟩) (by simp <;> omega) (.int .u64 (lo S))
          skip
          replace x3 := (x3.put 0 (.int .u64 (hi S))).put 1 (.int .u64 (lo S))
          simp only [List.setIfInBounds_toArray, List.set_cons_zero, List.set_cons_succ] at x3
          have hB5 : Below w.heap.size w ((W4.setCell ⟨g3, 0, none⟩ (.int .u64 (hi S))).setCell ⟨g3, 1, none⟩ (.int .u64 (lo S))) := by go_grown
          generalize ((W4.setCell ⟨g3, 0, none⟩ (.int .u64 (hi S))).setCell ⟨g3, 1, none⟩ (.int .u64 (lo S))) = W5 at *
          clear hB4
          clear c0x3 c1x3 f0x3 f1x3 zzx3
          have c0x1 := x1.cell 0
          have c1x1 := x1.cell 1
          have f0x1 := x1.frozen 0
          have f1x1 := x1.frozen 1
          have zzx1 := x1.lt
          simp only [List.getElem?_toArray, List.getElem?_cons_zero, List.getElem?_cons_succ] at c0x1 c1x1
          have cx := (hB5.cell (p := ⟨b, off + k * 2, none⟩) hbw).trans CX.out
          have cy := (hB5.cell (p := ⟨b, off + k * 2 + 1, none⟩) hbw).trans CY.out
          have hbs : b < W5.heap.size := by have := hB5.size; omega
          refine wp_region_text (by kernel_rfl) (by kernel_rfl) fun Q2 hQ2 => ?_
          refine drawn_calls 18 (by kernel_rfl) ?_
          simp only [List.take_succ_cons, List.take_zero, List.drop_succ_cons, List.drop_zero]
          refine walk1_open fun K hK => ?_
          repeat
            apply walk1_value (by rfl)
            · intro W hcl hsz; go_simp; rfl
            simp only [Act.put, List.setIfInBounds_toArray, List.set_cons_zero, List.set_cons_succ]
          apply walk1_call (by rfl)
          · intro W hsz; go_simp; first | exact ⟨rfl, rfl⟩ | rfl
          · intro W hlW; exact mul_any _ _ _ uX uY
          simp only [Act.put, List.setIfInBounds_toArray, List.set_cons_zero, List.set_cons_succ]
          apply walk1_call (by rfl)
          · intro W hsz; go_simp; first | exact ⟨rfl, rfl⟩ | rfl
          · intro W hlW; exact add_any _ _ _ _ _ (U_hi _) (U_lo _) (U_hi _) (U_lo _)
          simp only [Act.put, List.setIfInBounds_toArray, List.set_cons_zero, List.set_cons_succ]
          repeat
            apply walk1_value (by rfl)
            · intro W hcl hsz; go_simp; rfl
            simp only [Act.put, List.setIfInBounds_toArray, List.set_cons_zero, List.set_cons_succ]
          refine walk1_nil (hK _ ?_); clear hK K
          intro W6 hW6
          have vI : V I := by unfold V; have := hIO.out; omega
          have vO : V O := by unfold V; have := hIO.out; omega
          rw [wd_hi_lo vI, wd_hi_lo vG]
          replace x1 := x1.step hW6
          replace x2 := x2.step hW6
          replace x3 := x3.step hW6
          have hB6 := below_of hB5 hW6
          clear c0x1 c1x1 f0x1 f1x1 zzx1
          clear hW6 hB5 cx cy hbs z1
          have c0x1 := x1.cell 0
          have c1x1 := x1.cell 1
          have f0x1 := x1.frozen 0
          have f1x1 := x1.frozen 1
          have zzx1 := x1.lt
          simp only [List.getElem?_toArray, List.getElem?_cons_zero, List.getElem?_cons_succ] at c0x1 c1x1
          go_upto_region 13 with (fail)
          replace x3 := (x3.far (p := ⟨g, 0, none⟩) (by simp <;> omega) (.int .u64 (hi (I+x*y)))).far (p := ⟨g, 1, none⟩) (by simp <;> omega) (.int .u64 (lo (I+x*y)))
          replace x2 := (x2.far (p := ⟨g, 0, none⟩) (by simp <;> omega) (.int .u64 (hi (I+x*y)))).far (p := ⟨g, 1, none⟩) (by simp <;> omega) (.int .u64 (lo (I+x*y)))
          skip
          replace x1 := (x1.put 0 (.int .u64 (hi (I+x*y)))).put 1 (.int .u64 (lo (I+x*y)))
          simp only [List.setIfInBounds_toArray, List.set_cons_zero, List.set_cons_succ] at x1
          have hB7 : Below w.heap.size w ((W6.setCell ⟨g, 0, none⟩ (.int .u64 (hi (I+x*y)))).setCell ⟨g, 1, none⟩ (.int .u64 (lo (I+x*y)))) := by go_grown
          generalize ((W6.setCell ⟨g, 0, none⟩ (.int .u64 (hi (I+x*y)))).setCell ⟨g, 1, none⟩ (.int .u64 (lo (I+x*y)))) = W7 at *
          clear hB6
          clear c0x1 c1x1 f0x1 f1x1 zzx1
          have c0x2 := x2.cell 0
          have c1x2 := x2.cell 1
          have f0x2 := x2.frozen 0
          have f1x2 := x2.frozen 1
          have zzx2 := x2.lt
          simp only [List.getElem?_toArray, List.getElem?_cons_zero, List.getElem?_cons_succ] at c0x2 c1x2
          have c0x3 := x3.cell 0
          have c1x3 := x3.cell 1
          have f0x3 := x3.frozen 0
          have f1x3 := x3.frozen 1
          have zzx3 := x3.lt
          simp only [List.getElem?_toArray, List.getElem?_cons_zero, List.getElem?_cons_succ] at c0x3 c1x3
          go_wp2_with fail
          refine (add_any _ _ _ _ _ (U_hi _) (U_lo _) (U_hi _) (U_lo _)).mono ?_
          rintro e W8 ⟨rfl, hW8⟩
          rw [wd_hi_lo vO, wd_hi_lo vS]
          replace x1 := x1.step hW8
          replace x2 := x2.step hW8
          have hB8 := below_of hB7 hW8
          clear c0x2 c1x2 f0x2 f1x2 zzx2
          clear c0x3 c1x3 f0x3 f1x3 zzx3
          clear hW8 hB7 x3
          have c0x2 := x2.cell 0
          have c1x2 := x2.cell 1
          have f0x2 := x2.frozen 0
          have f1x2 := x2.frozen 1
          have zzx2 := x2.lt
          simp only [List.getElem?_toArray, List.getElem?_cons_zero, List.getElem?_cons_succ] at c0x2 c1x2
          go_upto_region 14 with (fail)
          replace x1 := (x1.far (p := ⟨(g+1), 0, none⟩) (by simp <;> omega) (.int .u64 (hi (O+S)))).far (p := ⟨(g+1), 1, none⟩) (by simp <;> omega) (.int .u64 (lo (O+S)))
          skip
          replace x2 := (x2.put 0 (.int .u64 (hi (O+S)))).put 1 (.int .u64 (lo (O+S)))
          simp only [List.setIfInBounds_toArray, List.set_cons_zero, List.set_cons_succ] at x2
          have hB9 : Below w.heap.size w ((W8.setCell ⟨(g+1), 0, none⟩ (.int .u64 (hi (O+S)))).setCell ⟨(g+1), 1, none⟩ (.int .u64 (lo (O+S)))) := by go_grown
          generalize ((W8.setCell ⟨(g+1), 0, none⟩ (.int .u64 (hi (O+S)))).setCell ⟨(g+1), 1, none⟩ (.int .u64 (lo (O+S)))) = W9 at *
          clear hB8
          clear c0x2 c1x2 f0x2 f1x2 zzx2
          have cx := (hB9.cell (p := ⟨b, off + k * 2, none⟩) hbw).trans CX.out
          have hbs : b < W9.heap.size := by have := hB9.size; omega
          go_wp2_with fail
          obtain ⟨s, hs⟩ : ∃ s, s = x % 3000 := ⟨_, rfl⟩
          have hsb : 0 ≤ s ∧ s < 3000 := by omega
          rw [← hs]
          have hsI : I64 s := by unfold I64; omega
          obtain ⟨ok1, ok2⟩ := needV_lo (s := s) hsb.1 (by omega)
          clear hs
          refine (btake_any _ _ _ uN hsI).mono ?_
          rintro e W10 ⟨rfl, hW10⟩
          replace x1 := x1.step hW10
          replace x2 := x2.step hW10
          have hB10 := below_of hB9 hW10
          clear hW10 hB9 cx hbs
          go_wp2_with fail
          refine (bneed_any _ _ hsI).mono ?_
          rintro e W11 ⟨rfl, hW11⟩
          replace x1 := x1.step hW11
          replace x2 := x2.step hW11
          have hB11 := below_of hB10 hW11
          clear hW11 hB10
          have uQ := U_need s
          obtain ⟨d, hd⟩ : ∃ d, d = needV s := ⟨_, rfl⟩
          have tk := take_law (a := N) ok1
          rw [← hd] at uQ tk ⊢
          rw [ok1]
          clear ok1 ok2 hd hsI hsb
          have hk1 : IntKind.i64.wrap ((k : Int) + 1) = k + 1 := IntWalk.i64_in _ (by omega)
          have HK1 := Lib.hid hk1
          clear hk1
          have hI' : I + x * y ≤ 4611686018427387904 + ((k + 1 : Nat) : Int) * 18446744073709551616 := by
            rw [Int.natCast_add, Int.add_mul]; omega
          have hIo := hIO.out
          have hE2 := e2.out
          by_cases hc : d ≤ N
          · obtain ⟨t1, t2⟩ := tk.1 hc
            have T1 := Lib.hid t1
            have T2 := Lib.hid t2
            clear t1 t2 tk
            rw [T1.out, T2.out]
            have vOS : V (O + S) := by unfold V at *; omega
            have vQ : V (wd 0 d) := V_wd U_zero uQ
            have HF := Lib.hid (show I + x * y = O + S + d + (N - d) by omega)
            have u8 : U (N - d) := by unfold U at *; omega
            clear hIo hE2
            have c0x2 := x2.cell 0
            have c1x2 := x2.cell 1
            have f0x2 := x2.frozen 0
            have f1x2 := x2.frozen 1
            have zzx2 := x2.lt
            simp only [List.getElem?_toArray, List.getElem?_cons_zero, List.getElem?_cons_succ] at c0x2 c1x2
            go_upto_region 20 with (fail)
            refine wp_region_text (by kernel_rfl) (by kernel_rfl) fun Q2 hQ2 => ?_
            refine drawn_calls 7 (by kernel_rfl) ?_
            simp only [List.take_succ_cons, List.take_zero, List.drop_succ_cons, List.drop_zero]
            refine walk1_open fun K hK => ?_
            repeat
              apply walk1_value (by rfl)
              · intro W hcl hsz; go_simp; rfl
              simp only [Act.put, List.setIfInBounds_toArray, List.set_cons_zero, List.set_cons_succ]
            apply walk1_call (by rfl)
            · intro W hsz; go_simp; first | exact ⟨rfl, rfl⟩ | rfl
            · intro W hlW; exact of_any _ _
            simp only [Act.put, List.setIfInBounds_toArray, List.set_cons_zero, List.set_cons_succ]
            apply walk1_call (by rfl)
            · intro W hsz; go_simp; first | exact ⟨rfl, rfl⟩ | rfl
            · intro W hlW; exact add_any _ _ _ _ _ (U_hi _) (U_lo _) U_zero uQ
            simp only [Act.put, List.setIfInBounds_toArray, List.set_cons_zero, List.set_cons_succ]
            repeat
              apply walk1_value (by rfl)
              · intro W hcl hsz; go_simp; rfl
              simp only [Act.put, List.setIfInBounds_toArray, List.set_cons_zero, List.set_cons_succ]
            refine walk1_nil (hK _ ?_); clear hK K
            intro W12 hW12
            rw [wd_hi_lo vOS, wd_zero]
            replace x1 := x1.step hW12
            replace x2 := x2.step hW12
            have hB12 := below_of hB11 hW12
            clear c0x2 c1x2 f0x2 f1x2 zzx2
            clear hW12 hB11
            have c0x2 := x2.cell 0
            have c1x2 := x2.cell 1
            have f0x2 := x2.frozen 0
            have f1x2 := x2.frozen 1
            have zzx2 := x2.lt
            simp only [List.getElem?_toArray, List.getElem?_cons_zero, List.getElem?_cons_succ] at c0x2 c1x2
            go_upto_region 21 with (fail)
            replace x1 := (x1.far (p := ⟨(g+1), 0, none⟩) (by simp <;> omega) (.int .u64 (hi (O+S+d)))).far (p := ⟨(g+1), 1, none⟩) (by simp <;> omega) (.int .u64 (lo (O+S+d)))
            skip
            replace x2 := (x2.put 0 (.int .u64 (hi (O+S+d)))).put 1 (.int .u64 (lo (O+S+d)))
            simp only [List.setIfInBounds_toArray, List.set_cons_zero, List.set_cons_succ] at x2
            have hB13 : Below w.heap.size w ((W12.setCell ⟨(g+1), 0, none⟩ (.int .u64 (hi (O+S+d)))).setCell ⟨(g+1), 1, none⟩ (.int .u64 (lo (O+S+d)))) := by go_grown
            generalize ((W12.setCell ⟨(g+1), 0, none⟩ (.int .u64 (hi (O+S+d)))).setCell ⟨(g+1), 1, none⟩ (.int .u64 (lo (O+S+d)))) = W13 at *
            clear hB12
            clear c0x2 c1x2 f0x2 f1x2 zzx2
            go_wp2
            go_roundw
            case rel =>
              refine ⟨k + 1, N - d, I + x * y, O + S + d, by omega, by go_num, rfl, u8.1, by have := uQ.1; omega, ?_, hI', HF, x1, x2, hB13⟩
              unfold V U at *; omega
            case measure => simp [intOf]; omega
          · obtain ⟨t1, t2⟩ := tk.2 hc
            have T1 := Lib.hid t1
            have T2 := Lib.hid t2
            clear t1 t2 tk
            rw [T1.out, T2.out]
            have HF := Lib.hid (show I + x * y = O + S + N by omega)
            have hc' : N < d := by omega
            clear hIo hE2
            go_wp2
            go_roundw
            case rel =>
              refine ⟨k + 1, N, I + x * y, O + S, by omega, by go_num, rfl, a1, a2, ?_, hI', HF, x1, x2, hB11⟩
              unfold V at *; omega
            case measure => simp [intOf]; omega
        · obtain rfl : k = n := by omega
          have hIo := hIO.out
          have vI : V I := by unfold V; omega
          have vO : V O := by unfold V; omega
          have uM : U m := by unfold U at *; omega
          have f1 := Lib.hid (show I - O = m by omega)
          have f2 := Lib.hid (show decide (I < O) = false by simp; omega)
          have hmr : ¬ r < m := by omega
          clear hIo hIO
          have c0x1 := x1.cell 0
          have c1x1 := x1.cell 1
          have f0x1 := x1.frozen 0
          have f1x1 := x1.frozen 1
          have zzx1 := x1.lt
          simp only [List.getElem?_toArray, List.getElem?_cons_zero, List.getElem?_cons_succ] at c0x1 c1x1
          have c0x2 := x2.cell 0
          have c1x2 := x2.cell 1
          have f0x2 := x2.frozen 0
          have f1x2 := x2.frozen 1
          have zzx2 := x2.lt
          simp only [List.getElem?_toArray, List.getElem?_cons_zero, List.getElem?_cons_succ] at c0x2 c1x2
          go_wp2_with fail
          refine (sub_any _ _ _ _ _ (U_lo _) (U_lo _)).mono ?_
          rintro e W3 ⟨rfl, hW3⟩
          rw [wd_hi_lo vI, wd_hi_lo vO, f1.out, f2.out, hi_of_U uM, lo_of_U uM]
          have hB3 := below_of xB hW3
          clear c0x1 c1x1 f0x1 f1x1 zzx1
          clear c0x2 c1x2 f0x2 f1x2 zzx2
          clear hW3 xB x1 x2
          go_wp2_with fail
          refine (bfull_any _ _ (U_of (by decide))).mono ?_
          rintro e W4 ⟨rfl, rfl⟩
          rw [show fullV 2 = 2000000000 from rfl, show fullE 2 = 0 from rfl]
          go_upto_region 24 with (fail)
          have x3 := Blk.new W3 38 #[.int .u64 0, .int .u64 m]
          have hB4 : Below w.heap.size w (W3.alloc (.cells #[.int .u64 0, .int .u64 m] 38)) := hB3.alloc hB3.size _
          generalize W3.alloc (.cells #[.int .u64 0, .int .u64 m] 38) = W5 at *
          have c0x3 := x3.cell 0
          have c1x3 := x3.cell 1
          have f0x3 := x3.frozen 0
          have f1x3 := x3.frozen 1
          have zzx3 := x3.lt
          simp only [List.getElem?_toArray, List.getElem?_cons_zero, List.getElem?_cons_succ] at c0x3 c1x3
          clear x3 hB3
          refine wp_region_calls 21 (by kernel_rfl) (by kernel_rfl) ?_
          simp only [List.take_succ_cons, List.take_zero, List.drop_succ_cons, List.drop_zero]
          refine walk1_open fun K hK => ?_
          repeat
            apply walk1_value (by rfl)
            · intro W hcl hsz; go_simp; rfl
            simp only [Act.put, List.setIfInBounds_toArray, List.set_cons_zero, List.set_cons_succ]
          apply walk1_call (by rfl)
          · intro W hsz; go_simp; first | exact ⟨rfl, rfl⟩ | rfl
          · intro W hlW; exact of_any _ _
          simp only [Act.put, List.setIfInBounds_toArray, List.set_cons_zero, List.set_cons_succ]
          repeat
            apply walk1_value (by rfl)
            · intro W hcl hsz; go_simp; rfl
            simp only [Act.put, List.setIfInBounds_toArray, List.set_cons_zero, List.set_cons_succ]
          refine walk1_nil (hK _ ?_); clear hK K
          intro W6 hW6
          have hB6 := below_of hB4 hW6
          clear c0x3 c1x3 f0x3 f1x3 zzx3
          clear hW6 hB4
          go_wp2
          go_returns
          exact ⟨rfl, by go_grown⟩
    · have hl1 : l ≤ r := by have := E1.out; omega
      rw [E1.out]
      refine (of_any _ _).mono ?_
      rintro e W1 ⟨rfl, hW1⟩
      have hB1 : Below w.heap.size w W1 := hW1
      clear hW1
      go_wp2
      have g1 := (Blk.new W1 38 #[.int .u64 0, .int .u64 l]).alloc (.cells #[.int .u64 0, .int .u64 0] 38)
      have g2 := Blk.new (W1.alloc (.cells #[.int .u64 0, .int .u64 l] 38)) 38 #[.int .u64 0, .int .u64 0]
      have hB2 : Below w.heap.size w ((W1.alloc (.cells #[.int .u64 0, .int .u64 l] 38)).alloc (.cells #[.int .u64 0, .int .u64 0] 38)) := (hB1.alloc hB1.size _).alloc (hB1.alloc hB1.size _).size _
      rw [World.size_alloc] at g2
      generalize ((W1.alloc (.cells #[.int .u64 0, .int .u64 l] 38)).alloc (.cells #[.int .u64 0, .int .u64 0] 38)) = W2 at *
      have hB1s := hB1.size
      generalize W1.heap.size = g at *
      clear hB1
      go_loopw [7, 10] (fun nv iv wr => ∃ (k : Nat) (m I O : Int), k ≤ n ∧ iv = .int .i64 k ∧ nv = .int .u64 m ∧ 0 ≤ m ∧ m ≤ r ∧ 0 ≤ O ∧ I ≤ 4611686018427387904 + k * 18446744073709551616 ∧ Hid (I = O + m) ∧
          Blk wr g 38 #[.int .u64 (hi I), .int .u64 (lo I)] ∧ Blk wr (g + 1) 38 #[.int .u64 (hi O), .int .u64 (lo O)] ∧ Below w.heap.size w wr) (fun _ iv _ => n - (intOf iv).toNat)
      case atStart =>
        refine ⟨0, l, l, 0, by omega, rfl, rfl, hl.1, hl1, by omega, ?_, (by omega : l = 0 + l), ?_, ?_, hB2⟩
        · have := hl1; omega
        · rw [hi_of_U hl, lo_of_U hl]; exact g1
        · rw [hi_of_U U_zero, lo_of_U U_zero]; exact g2
      case round =>
        obtain ⟨k, m, I, O, hk, rfl, rfl, hm0, hm1, hO, hI, hIO, x1, x2, xB⟩ := hrel
        by_cases hlt : k < n
        · obtain ⟨b, off, x, y, rfl, ux, uy, cx, cy, hbw⟩ := HA.out k hlt
          have CX := Lib.hid cx
          have CY := Lib.hid cy
          obtain ⟨hx0, hx1⟩ := ux
          obtain ⟨hy0, hy1⟩ := uy
          have uX : U x := by unfold U; omega
          have uY : U y := by unfold U; omega
          have wx' := wrap_in uX
          have wy' := wrap_in uY
          have uM : U m := by unfold U at *; omega
          have hk0 : (k : Int) < n := by omega
          have vG := V_mul uX uY
          have hg2 : x * y < 18446744073709551616 := mul32 hx0 hx1 hy0 hy1
          obtain ⟨a1, a2, a3⟩ := drop_law hm0 hm1 vG.1
          obtain ⟨_, _, vS, uN⟩ := put_bounds uM hUr vG
          have e2 := Lib.hid (show growV m r (x * y) + spillV m r (x * y) = m + x * y from a3)
          obtain ⟨N, hN⟩ : ∃ N, N = growV m r (x * y) := ⟨_, rfl⟩
          obtain ⟨S, hS⟩ : ∃ S, S = spillV m r (x * y) := ⟨_, rfl⟩
          rw [← hN] at a1 a2 uN e2
          rw [← hS] at vS e2
          have HN := Lib.hid hN
          have HS := Lib.hid hS
          clear cx cy hN hS a3
          have hgs : g + 1 < wr.heap.size := x2.lt
          go_upto_region 11 with (fail)
          replace x1 := x1.alloc (.cells #[.int .u64 0, .int .u64 0] 38)
          replace x2 := x2.alloc (.cells #[.int .u64 0, .int .u64 0] 38)
          have x3 := Blk.new wr 38 #[.int .u64 0, .int .u64 0]
          have hB3 : Below w.heap.size w (wr.alloc (.cells #[.int .u64 0, .int .u64 0] 38)) := xB.alloc xB.size _
          generalize wr.alloc (.cells #[.int .u64 0, .int .u64 0] 38) = W3 at *
          generalize wr.heap.size = g3 at *
          clear xB
          have cx := (hB3.cell (p := ⟨b, off + k * 2, none⟩) hbw).trans CX.out
          have cy := (hB3.cell (p := ⟨b, off + k * 2 + 1, none⟩) hbw).trans CY.out
          have hbs : b < W3.heap.size := by have := hB3.size; omega
          refine wp_region_calls 19 (by kernel_rfl) (by kernel_rfl) ?_
          simp only [List.take_succ_cons, List.take_zero, List.drop_succ_cons, List.drop_zero]
          refine walk1_open fun K hK => ?_
          repeat
            apply walk1_value (by rfl)
            · intro W hcl hsz; go_simp; rfl
            simp only [Act.put, List.setIfInBounds_toArray, List.set_cons_zero, List.set_cons_succ]
          apply walk1_call (by rfl)
          · intro W hsz; go_simp; first | exact ⟨rfl, rfl⟩ | rfl
          · intro W hlW; exact bgrow_any _ _ _ _ _ uM hUr uX uY
          simp only [Act.put, List.setIfInBounds_toArray, List.set_cons_zero, List.set_cons_succ]
          repeat
            apply walk1_value (by rfl)
            · intro W hcl hsz; go_simp; rfl
            simp only [Act.put, List.setIfInBounds_toArray, List.set_cons_zero, List.set_cons_succ]
          refine walk1_nil (hK _ ?_); clear hK K
          intro W4 hW4
          rw [← HN.out, ← HS.out]
          replace x1 := x1.step hW4
          replace x2 := x2.step hW4
          replace x3 := x3.step hW4
          have hB4 := below_of hB3 hW4
          clear hW4 hB3 cx cy hbs
          have z1 := x1.lt
          have c0x3 := x3.cell 0
          have c1x3 := x3.cell 1
          have f0x3 := x3.frozen 0
          have f1x3 := x3.frozen 1
          have zzx3 := x3.lt
          simp only [List.getElem?_toArray, List.getElem?_cons_zero, List.getElem?_cons_succ] at c0x3 c1x3
          go_upto_region 12 with (fail)
          replace x2 := (x2.far (p := ⟨g3, 0, none⟩) (by simp <;> omega) (.int .u64 (hi S))).far (p := ⟨g3, 1, none⟩) (by simp <;> omega) (.int .u64 (lo S))
          replace x1 := (x1.far (p := ⟨g3, 0, none⟩) (by simp <;> omega) (.int .u64 (hi S))).far (p := ⟨g3, 1, none⟩) (by simp <;> omega) (.int .u64 (lo S))
          skip
          replace x3 := (x3.put 0 (.int .u64 (hi S))).put 1 (.int .u64 (lo S))
          simp only [List.setIfInBounds_toArray, List.set_cons_zero, List.set_cons_succ] at x3
          have hB5 : Below w.heap.size w ((W4.setCell ⟨g3, 0, none⟩ (.int .u64 (hi S))).setCell ⟨g3, 1, none⟩ (.int .u64 (lo S))) := by go_grown
          generalize ((W4.setCell ⟨g3, 0, none⟩ (.int .u64 (hi S))).setCell ⟨g3, 1, none⟩ (.int .u64 (lo S))) = W5 at *
          clear hB4
          clear c0x3 c1x3 f0x3 f1x3 zzx3
          have c0x1 := x1.cell 0
          have c1x1 := x1.cell 1
          have f0x1 := x1.frozen 0
          have f1x1 := x1.frozen 1
          have zzx1 := x1.lt
          simp only [List.getElem?_toArray, List.getElem?_cons_zero, List.getElem?_cons_succ] at c0x1 c1x1
          have cx := (hB5.cell (p := ⟨b, off + k * 2, none⟩) hbw).trans CX.out
          have cy := (hB5.cell (p := ⟨b, off + k * 2 + 1, none⟩) hbw).trans CY.out
          have hbs : b < W5.heap.size := by have := hB5.size; omega
          refine wp_region_text (by kernel_rfl) (by kernel_rfl) fun Q2 hQ2 => ?_
          refine drawn_calls 18 (by kernel_rfl) ?_
          simp only [List.take_succ_cons, List.take_zero, List.drop_succ_cons, List.drop_zero]
          refine walk1_open fun K hK => ?_
          repeat
            apply walk1_value (by rfl)
            · intro W hcl hsz; go_simp; rfl
            simp only [Act.put, List.setIfInBounds_toArray, List.set_cons_zero, List.set_cons_succ]
          apply walk1_call (by rfl)
          · intro W hsz; go_simp; first | exact ⟨rfl, rfl⟩ | rfl
          · intro W hlW; exact mul_any _ _ _ uX uY
          simp only [Act.put, List.setIfInBounds_toArray, List.set_cons_zero, List.set_cons_succ]
          apply walk1_call (by rfl)
          · intro W hsz; go_simp; first | exact ⟨rfl, rfl⟩ | rfl
          · intro W hlW; exact add_any _ _ _ _ _ (U_hi _) (U_lo _) (U_hi _) (U_lo _)
          simp only [Act.put, List.setIfInBounds_toArray, List.set_cons_zero, List.set_cons_succ]
          repeat
            apply walk1_value (by rfl)
            · intro W hcl hsz; go_simp; rfl
            simp only [Act.put, List.setIfInBounds_toArray, List.set_cons_zero, List.set_cons_succ]
          refine walk1_nil (hK _ ?_); clear hK K
          intro W6 hW6
          have vI : V I := by unfold V; have := hIO.out; omega
          have vO : V O := by unfold V; have := hIO.out; omega
          rw [wd_hi_lo vI, wd_hi_lo vG]
          replace x1 := x1.step hW6
          replace x2 := x2.step hW6
          replace x3 := x3.step hW6
          have hB6 := below_of hB5 hW6
          clear c0x1 c1x1 f0x1 f1x1 zzx1
          clear hW6 hB5 cx cy hbs z1
          have c0x1 := x1.cell 0
          have c1x1 := x1.cell 1
          have f0x1 := x1.frozen 0
          have f1x1 := x1.frozen 1
          have zzx1 := x1.lt
          simp only [List.getElem?_toArray, List.getElem?_cons_zero, List.getElem?_cons_succ] at c0x1 c1x1
          go_upto_region 13 with (fail)
          replace x3 := (x3.far (p := ⟨g, 0, none⟩) (by simp <;> omega) (.int .u64 (hi (I+x*y)))).far (p := ⟨g, 1, none⟩) (by simp <;> omega) (.int .u64 (lo (I+x*y)))
          replace x2 := (x2.far (p := ⟨g, 0, none⟩) (by simp <;> omega) (.int .u64 (hi (I+x*y)))).far (p := ⟨g, 1, none⟩) (by simp <;> omega) (.int .u64 (lo (I+x*y)))
          skip
          replace x1 := (x1.put 0 (.int .u64 (hi (I+x*y)))).put 1 (.int .u64 (lo (I+x*y)))
          simp only [List.setIfInBounds_toArray, List.set_cons_zero, List.set_cons_succ] at x1
          have hB7 : Below w.heap.size w ((W6.setCell ⟨g, 0, none⟩ (.int .u64 (hi (I+x*y)))).setCell ⟨g, 1, none⟩ (.int .u64 (lo (I+x*y)))) := by go_grown
          generalize ((W6.setCell ⟨g, 0, none⟩ (.int .u64 (hi (I+x*y)))).setCell ⟨g, 1, none⟩ (.int .u64 (lo (I+x*y)))) = W7 at *
          clear hB6
          clear c0x1 c1x1 f0x1 f1x1 zzx1
          have c0x2 := x2.cell 0
          have c1x2 := x2.cell 1
          have f0x2 := x2.frozen 0
          have f1x2 := x2.frozen 1
          have zzx2 := x2.lt
          simp only [List.getElem?_toArray, List.getElem?_cons_zero, List.getElem?_cons_succ] at c0x2 c1x2
          have c0x3 := x3.cell 0
          have c1x3 := x3.cell 1
          have f0x3 := x3.frozen 0
          have f1x3 := x3.frozen 1
          have zzx3 := x3.lt
          simp only [List.getElem?_toArray, List.getElem?_cons_zero, List.getElem?_cons_succ] at c0x3 c1x3
          go_wp2_with fail
          refine (add_any _ _ _ _ _ (U_hi _) (U_lo _) (U_hi _) (U_lo _)).mono ?_
          rintro e W8 ⟨rfl, hW8⟩
          rw [wd_hi_lo vO, wd_hi_lo vS]
          replace x1 := x1.step hW8
          replace x2 := x2.step hW8
          have hB8 := below_of hB7 hW8
          clear c0x2 c1x2 f0x2 f1x2 zzx2
          clear c0x3 c1x3 f0x3 f1x3 zzx3
          clear hW8 hB7 x3
          have c0x2 := x2.cell 0
          have c1x2 := x2.cell 1
          have f0x2 := x2.frozen 0
          have f1x2 := x2.frozen 1
          have zzx2 := x2.lt
          simp only [List.getElem?_toArray, List.getElem?_cons_zero, List.getElem?_cons_succ] at c0x2 c1x2
          go_upto_region 14 with (fail)
          replace x1 := (x1.far (p := ⟨(g+1), 0, none⟩) (by simp <;> omega) (.int .u64 (hi (O+S)))).far (p := ⟨(g+1), 1, none⟩) (by simp <;> omega) (.int .u64 (lo (O+S)))
          skip
          replace x2 := (x2.put 0 (.int .u64 (hi (O+S)))).put 1 (.int .u64 (lo (O+S)))
          simp only [List.setIfInBounds_toArray, List.set_cons_zero, List.set_cons_succ] at x2
          have hB9 : Below w.heap.size w ((W8.setCell ⟨(g+1), 0, none⟩ (.int .u64 (hi (O+S)))).setCell ⟨(g+1), 1, none⟩ (.int .u64 (lo (O+S)))) := by go_grown
          generalize ((W8.setCell ⟨(g+1), 0, none⟩ (.int .u64 (hi (O+S)))).setCell ⟨(g+1), 1, none⟩ (.int .u64 (lo (O+S)))) = W9 at *
          clear hB8
          clear c0x2 c1x2 f0x2 f1x2 zzx2
          have cx := (hB9.cell (p := ⟨b, off + k * 2, none⟩) hbw).trans CX.out
          have hbs : b < W9.heap.size := by have := hB9.size; omega
          go_wp2_with fail
          obtain ⟨s, hs⟩ : ∃ s, s = x % 3000 := ⟨_, rfl⟩
          have hsb : 0 ≤ s ∧ s < 3000 := by omega
          rw [← hs]
          have hsI : I64 s := by unfold I64; omega
          obtain ⟨ok1, ok2⟩ := needV_lo (s := s) hsb.1 (by omega)
          clear hs
          refine (btake_any _ _ _ uN hsI).mono ?_
          rintro e W10 ⟨rfl, hW10⟩
          replace x1 := x1.step hW10
          replace x2 := x2.step hW10
          have hB10 := below_of hB9 hW10
          clear hW10 hB9 cx hbs
          go_wp2_with fail
          refine (bneed_any _ _ hsI).mono ?_
          rintro e W11 ⟨rfl, hW11⟩
          replace x1 := x1.step hW11
          replace x2 := x2.step hW11
          have hB11 := below_of hB10 hW11
          clear hW11 hB10
          have uQ := U_need s
          obtain ⟨d, hd⟩ : ∃ d, d = needV s := ⟨_, rfl⟩
          have tk := take_law (a := N) ok1
          rw [← hd] at uQ tk ⊢
          rw [ok1]
          clear ok1 ok2 hd hsI hsb
          have hk1 : IntKind.i64.wrap ((k : Int) + 1) = k + 1 := IntWalk.i64_in _ (by omega)
          have HK1 := Lib.hid hk1
          clear hk1
          have hI' : I + x * y ≤ 4611686018427387904 + ((k + 1 : Nat) : Int) * 18446744073709551616 := by
            rw [Int.natCast_add, Int.add_mul]; omega
          have hIo := hIO.out
          have hE2 := e2.out
          by_cases hc : d ≤ N
          · obtain ⟨t1, t2⟩ := tk.1 hc
            have T1 := Lib.hid t1
            have T2 := Lib.hid t2
            clear t1 t2 tk
            rw [T1.out, T2.out]
            have vOS : V (O + S) := by unfold V at *; omega
            have vQ : V (wd 0 d) := V_wd U_zero uQ
            have HF := Lib.hid (show I + x * y = O + S + d + (N - d) by omega)
            have u8 : U (N - d) := by unfold U at *; omega
            clear hIo hE2
            have c0x2 := x2.cell 0
            have c1x2 := x2.cell 1
            have f0x2 := x2.frozen 0
            have f1x2 := x2.frozen 1
            have zzx2 := x2.lt
            simp only [List.getElem?_toArray, List.getElem?_cons_zero, List.getElem?_cons_succ] at c0x2 c1x2
            go_upto_region 20 with (fail)
            refine wp_region_text (by kernel_rfl) (by kernel_rfl) fun Q2 hQ2 => ?_
            refine drawn_calls 7 (by kernel_rfl) ?_
            simp only [List.take_succ_cons, List.take_zero, List.drop_succ_cons, List.drop_zero]
            refine walk1_open fun K hK => ?_
            repeat
              apply walk1_value (by rfl)
              · intro W hcl hsz; go_simp; rfl
              simp only [Act.put, List.setIfInBounds_toArray, List.set_cons_zero, List.set_cons_succ]
            apply walk1_call (by rfl)
            · intro W hsz; go_simp; first | exact ⟨rfl, rfl⟩ | rfl
            · intro W hlW; exact of_any _ _
            simp only [Act.put, List.setIfInBounds_toArray, List.set_cons_zero, List.set_cons_succ]
            apply walk1_call (by rfl)
            · intro W hsz; go_simp; first | exact ⟨rfl, rfl⟩ | rfl
            · intro W hlW; exact add_any _ _ _ _ _ (U_hi _) (U_lo _) U_zero uQ
            simp only [Act.put, List.setIfInBounds_toArray, List.set_cons_zero, List.set_cons_succ]
            repeat
              apply walk1_value (by rfl)
              · intro W hcl hsz; go_simp; rfl
              simp only [Act.put, List.setIfInBounds_toArray, List.set_cons_zero, List.set_cons_succ]
            refine walk1_nil (hK _ ?_); clear hK K
            intro W12 hW12
            rw [wd_hi_lo vOS, wd_zero]
            replace x1 := x1.step hW12
            replace x2 := x2.step hW12
            have hB12 := below_of hB11 hW12
            clear c0x2 c1x2 f0x2 f1x2 zzx2
            clear hW12 hB11
            have c0x2 := x2.cell 0
            have c1x2 := x2.cell 1
            have f0x2 := x2.frozen 0
            have f1x2 := x2.frozen 1
            have zzx2 := x2.lt
            simp only [List.getElem?_toArray, List.getElem?_cons_zero, List.getElem?_cons_succ] at c0x2 c1x2
            go_upto_region 21 with (fail)
            replace x1 := (x1.far (p := ⟨(g+1), 0, none⟩) (by simp <;> omega) (.int .u64 (hi (O+S+d)))).far (p := ⟨(g+1), 1, none⟩) (by simp <;> omega) (.int .u64 (lo (O+S+d)))
            skip
            replace x2 := (x2.put 0 (.int .u64 (hi (O+S+d)))).put 1 (.int .u64 (lo (O+S+d)))
            simp only [List.setIfInBounds_toArray, List.set_cons_zero, List.set_cons_succ] at x2
            have hB13 : Below w.heap.size w ((W12.setCell ⟨(g+1), 0, none⟩ (.int .u64 (hi (O+S+d)))).setCell ⟨(g+1), 1, none⟩ (.int .u64 (lo (O+S+d)))) := by go_grown
            generalize ((W12.setCell ⟨(g+1), 0, none⟩ (.int .u64 (hi (O+S+d)))).setCell ⟨(g+1), 1, none⟩ (.int .u64 (lo (O+S+d)))) = W13 at *
            clear hB12
            clear c0x2 c1x2 f0x2 f1x2 zzx2
            go_wp2
            go_roundw
            case rel =>
              refine ⟨k + 1, N - d, I + x * y, O + S + d, by omega, by go_num, rfl, u8.1, by have := uQ.1; omega, ?_, hI', HF, x1, x2, hB13⟩
              unfold V U at *; omega
            case measure => simp [intOf]; omega
          · obtain ⟨t1, t2⟩ := tk.2 hc
            have T1 := Lib.hid t1
            have T2 := Lib.hid t2
            clear t1 t2 tk
            rw [T1.out, T2.out]
            have HF := Lib.hid (show I + x * y = O + S + N by omega)
            have hc' : N < d := by omega
            clear hIo hE2
            go_wp2
            go_roundw
            case rel =>
              refine ⟨k + 1, N, I + x * y, O + S, by omega, by go_num, rfl, a1, a2, ?_, hI', HF, x1, x2, hB11⟩
              unfold V at *; omega
            case measure => simp [intOf]; omega
        · obtain rfl : k = n := by omega
          have hIo := hIO.out
          have vI : V I := by unfold V; omega
          have vO : V O := by unfold V; omega
          have uM : U m := by unfold U at *; omega
          have f1 := Lib.hid (show I - O = m by omega)
          have f2 := Lib.hid (show decide (I < O) = false by simp; omega)
          have hmr : ¬ r < m := by omega
          clear hIo hIO
          have c0x1 := x1.cell 0
          have c1x1 := x1.cell 1
          have f0x1 := x1.frozen 0
          have f1x1 := x1.frozen 1
          have zzx1 := x1.lt
          simp only [List.getElem?_toArray, List.getElem?_cons_zero, List.getElem?_cons_succ] at c0x1 c1x1
          have c0x2 := x2.cell 0
          have c1x2 := x2.cell 1
          have f0x2 := x2.frozen 0
          have f1x2 := x2.frozen 1
          have zzx2 := x2.lt
          simp only [List.getElem?_toArray, List.getElem?_cons_zero, List.getElem?_cons_succ] at c0x2 c1x2
          go_wp2_with fail
          refine (sub_any _ _ _ _ _ (U_lo _) (U_lo _)).mono ?_
          rintro e W3 ⟨rfl, hW3⟩
          rw [wd_hi_lo vI, wd_hi_lo vO, f1.out, f2.out, hi_of_U uM, lo_of_U uM]
          have hB3 := below_of xB hW3
          clear c0x1 c1x1 f0x1 f1x1 zzx1
          clear c0x2 c1x2 f0x2 f1x2 zzx2
          clear hW3 xB x1 x2
          go_wp2_with fail
          refine (bfull_any _ _ (U_of (by decide))).mono ?_
          rintro e W4 ⟨rfl, rfl⟩
          rw [show fullV 2 = 2000000000 from rfl, show fullE 2 = 0 from rfl]
          go_upto_region 24 with (fail)
          have x3 := Blk.new W3 38 #[.int .u64 0, .int .u64 m]
          have hB4 : Below w.heap.size w (W3.alloc (.cells #[.int .u64 0, .int .u64 m] 38)) := hB3.alloc hB3.size _
          generalize W3.alloc (.cells #[.int .u64 0, .int .u64 m] 38) = W5 at *
          have c0x3 := x3.cell 0
          have c1x3 := x3.cell 1
          have f0x3 := x3.frozen 0
          have f1x3 := x3.frozen 1
          have zzx3 := x3.lt
          simp only [List.getElem?_toArray, List.getElem?_cons_zero, List.getElem?_cons_succ] at c0x3 c1x3
          clear x3 hB3
          refine wp_region_calls 21 (by kernel_rfl) (by kernel_rfl) ?_
          simp only [List.take_succ_cons, List.take_zero, List.drop_succ_cons, List.drop_zero]
          refine walk1_open fun K hK => ?_
          repeat
            apply walk1_value (by rfl)
            · intro W hcl hsz; go_simp; rfl
            simp only [Act.put, List.setIfInBounds_toArray, List.set_cons_zero, List.set_cons_succ]
          apply walk1_call (by rfl)
          · intro W hsz; go_simp; first | exact ⟨rfl, rfl⟩ | rfl
          · intro W hlW; exact of_any _ _
          simp only [Act.put, List.setIfInBounds_toArray, List.set_cons_zero, List.set_cons_succ]
          repeat
            apply walk1_value (by rfl)
            · intro W hcl hsz; go_simp; rfl
            simp only [Act.put, List.setIfInBounds_toArray, List.set_cons_zero, List.set_cons_succ]
          refine walk1_nil (hK _ ?_); clear hK K
          intro W6 hW6
          have hB6 := below_of hB4 hW6
          clear c0x3 c1x3 f0x3 f1x3 zzx3
          clear hW6 hB4
          go_wp2
          go_returns
          exact ⟨rfl, by go_grown⟩
  · obtain ⟨b, off, _, _, rfl, _⟩ := HA.out 0 (by omega)
    go_upto_region 3 with (fail)
    obtain ⟨n', hn'⟩ : ∃ n' : Nat, n' = 100 := ⟨_, rfl⟩
    obtain ⟨ao, hao⟩ : ∃ ao : Option Addr, ao = some ⟨b, off, none⟩ := ⟨_, rfl⟩
    have es : Value.slice (some ⟨b, off, none⟩) 100 cap = .slice ao n' cap := by rw [hn', hao]
    rw [es]
    have HB := Lib.hid (show ∀ k : Nat, k < n' → ∃ (b off : Nat) (x y : Int), ao = some ⟨b, off, none⟩ ∧ U32 x ∧ U32 y ∧ w.cell? ⟨b, off + k * 2, none⟩ = some (.int .u32 x) ∧ w.cell? ⟨b, off + k * 2 + 1, none⟩ = some (.int .u32 y) ∧ b < w.heap.size from
      fun k hk => by rw [hao]; exact HA.out k (by omega))
    clear HA
    have HA := HB
    have hn : n' ≤ 100 := by omega
    clear HB hn' hao es
    go_wp2_with fail
    · have hr1 := hrb.1
      rw [E1.out]
      refine (of_any _ _).mono ?_
      rintro e W1 ⟨rfl, hW1⟩
      have hB1 : Below w.heap.size w W1 := hW1
      clear hW1
      go_wp2
      have g1 := (Blk.new W1 38 #[.int .u64 0, .int .u64 r]).alloc (.cells #[.int .u64 0, .int .u64 0] 38)
      have g2 := Blk.new (W1.alloc (.cells #[.int .u64 0, .int .u64 r] 38)) 38 #[.int .u64 0, .int .u64 0]
      have hB2 : Below w.heap.size w ((W1.alloc (.cells #[.int .u64 0, .int .u64 r] 38)).alloc (.cells #[.int .u64 0, .int .u64 0] 38)) := (hB1.alloc hB1.size _).alloc (hB1.alloc hB1.size _).size _
      rw [World.size_alloc] at g2
      generalize ((W1.alloc (.cells #[.int .u64 0, .int .u64 r] 38)).alloc (.cells #[.int .u64 0, .int .u64 0] 38)) = W2 at *
      have hB1s := hB1.size
      generalize W1.heap.size = g at *
      clear hB1
      go_loopw [7, 10] (fun nv iv wr => ∃ (k : Nat) (m I O : Int), k ≤ n' ∧ iv = .int .i64 k ∧ nv = .int .u64 m ∧ 0 ≤ m ∧ m ≤ r ∧ 0 ≤ O ∧ I ≤ 4611686018427387904 + k * 18446744073709551616 ∧ Hid (I = O + m) ∧
          Blk wr g 38 #[.int .u64 (hi I), .int .u64 (lo I)] ∧ Blk wr (g + 1) 38 #[.int .u64 (hi O), .int .u64 (lo O)] ∧ Below w.heap.size w wr) (fun _ iv _ => n' - (intOf iv).toNat)
      case atStart =>
        refine ⟨0, r, r, 0, by omega, rfl, rfl, hr1, (Int.le_refl r), by omega, ?_, (by omega : r = 0 + r), ?_, ?_, hB2⟩
        · have := (Int.le_refl r); omega
        · rw [hi_of_U hUr, lo_of_U hUr]; exact g1
        · rw [hi_of_U U_zero, lo_of_U U_zero]; exact g2
      case round =>
        obtain ⟨k, m, I, O, hk, rfl, rfl, hm0, hm1, hO, hI, hIO, x1, x2, xB⟩ := hrel
        by_cases hlt : k < n'
        · obtain ⟨b, off, x, y, rfl, ux, uy, cx, cy, hbw⟩ := HA.out k hlt
          have CX := Lib.hid cx
          have CY := Lib.hid cy
          obtain ⟨hx0, hx1⟩ := ux
          obtain ⟨hy0, hy1⟩ := uy
          have uX : U x := by unfold U; omega
          have uY : U y := by unfold U; omega
          have wx' := wrap_in uX
          have wy' := wrap_in uY
          have uM : U m := by unfold U at *; omega
          have hk0 : (k : Int) < n' := by omega
          have vG := V_mul uX uY
          have hg2 : x * y < 18446744073709551616 := mul32 hx0 hx1 hy0 hy1
          obtain ⟨a1, a2, a3⟩ := drop_law hm0 hm1 vG.1
          obtain ⟨_, _, vS, uN⟩ := put_bounds uM hUr vG
          have e2 := Lib.hid (show growV m r (x * y) + spillV m r (x * y) = m + x * y from a3)
          obtain ⟨N, hN⟩ : ∃ N, N = growV m r (x * y) := ⟨_, rfl⟩
          obtain ⟨S, hS⟩ : ∃ S, S = spillV m r (x * y) := ⟨_, rfl⟩
          rw [← hN] at a1 a2 uN e2
          rw [← hS] at vS e2
          have HN := Lib.hid hN
          have HS := Lib.hid hS
          clear cx cy hN hS a3
          have hgs : g + 1 < wr.heap.size := x2.lt
          go_upto_region 11 with (fail)
          replace x1 := x1.alloc (.cells #[.int .u64 0, .int .u64 0] 38)
          replace x2 := x2.alloc (.cells #[.int .u64 0, .int .u64 0] 38)
          have x3 := Blk.new wr 38 #[.int .u64 0, .int .u64 0]
          have hB3 : Below w.heap.size w (wr.alloc (.cells #[.int .u64 0, .int .u64 0] 38)) := xB.alloc xB.size _
          generalize wr.alloc (.cells #[.int .u64 0, .int .u64 0] 38) = W3 at *
          generalize wr.heap.size = g3 at *
          clear xB
          have cx := (hB3.cell (p := ⟨b, off + k * 2, none⟩) hbw).trans CX.out
          have cy := (hB3.cell (p := ⟨b, off + k * 2 + 1, none⟩) hbw).trans CY.out
          have hbs : b < W3.heap.size := by have := hB3.size; omega
          refine wp_region_calls 19 (by kernel_rfl) (by kernel_rfl) ?_
          simp only [List.take_succ_cons, List.take_zero, List.drop_succ_cons, List.drop_zero]
          refine walk1_open fun K hK => ?_
          repeat
            apply walk1_value (by rfl)
            · intro W hcl hsz; go_simp; rfl
            simp only [Act.put, List.setIfInBounds_toArray, List.set_cons_zero, List.set_cons_succ]
          apply walk1_call (by rfl)
          · intro W hsz; go_simp; first | exact ⟨rfl, rfl⟩ | rfl
          · intro W hlW; exact bgrow_any _ _ _ _ _ uM hUr uX uY
          simp only [Act.put, List.setIfInBounds_toArray, List.set_cons_zero, List.set_cons_succ]
          repeat
            apply walk1_value (by rfl)
            · intro W hcl hsz; go_simp; rfl
            simp only [Act.put, List.setIfInBounds_toArray, List.set_cons_zero, List.set_cons_succ]
          refine walk1_nil (hK _ ?_); clear hK K
          intro W4 hW4
          rw [← HN.out, ← HS.out]
          replace x1 := x1.step hW4
          replace x2 := x2.step hW4
          replace x3 := x3.step hW4
          have hB4 := below_of hB3 hW4
          clear hW4 hB3 cx cy hbs
          have z1 := x1.lt
          have c0x3 := x3.cell 0
          have c1x3 := x3.cell 1
          have f0x3 := x3.frozen 0
          have f1x3 := x3.frozen 1
          have zzx3 := x3.lt
          simp only [List.getElem?_toArray, List.getElem?_cons_zero, List.getElem?_cons_succ] at c0x3 c1x3
          go_upto_region 12 with (fail)
          replace x2 := (x2.far (p := ⟨g3, 0, none⟩) (by simp <;> omega) (.int .u64 (hi S))).far (p := ⟨g3, 1, none⟩) (by simp <;> omega) (.int .u64 (lo S))
          replace x1 := (x1.far (p := ⟨g3, 0, none⟩) (by simp <;> omega) (.int .u64 (hi S))).far (p := ⟨g3, 1, none⟩) (by simp <;> omega) (.int .u64 (lo S))
          skip
          replace x3 := (x3.put 0 (.int .u64 (hi S))).put 1 (.int .u64 (lo S))
          simp only [List.setIfInBounds_toArray, List.set_cons_zero, List.set_cons_succ] at x3
          have hB5 : Below w.heap.size w ((W4.setCell ⟨g3, 0, none⟩ (.int .u64 (hi S))).setCell ⟨g3, 1, none⟩ (.int .u64 (lo S))) := by go_grown
          generalize ((W4.setCell ⟨g3, 0, none⟩ (.int .u64 (hi S))).setCell ⟨g3, 1, none⟩ (.int .u64 (lo S))) = W5 at *
          clear hB4
          clear c0x3 c1x3 f0x3 f1x3 zzx3
          have c0x1 := x1.cell 0
          have c1x1 := x1.cell 1
          have f0x1 := x1.frozen 0
          have f1x1 := x1.frozen 1
          have zzx1 := x1.lt
          simp only [List.getElem?_toArray, List.getElem?_cons_zero, List.getElem?_cons_succ] at c0x1 c1x1
          have cx := (hB5.cell (p := ⟨b, off + k * 2, none⟩) hbw).trans CX.out
          have cy := (hB5.cell (p := ⟨b, off + k * 2 + 1, none⟩) hbw).trans CY.out
          have hbs : b < W5.heap.size := by have := hB5.size; omega
          refine wp_region_text (by kernel_rfl) (by kernel_rfl) fun Q2 hQ2 => ?_
          refine drawn_calls 18 (by kernel_rfl) ?_
          simp only [List.take_succ_cons, List.take_zero, List.drop_succ_cons, List.drop_zero]
          refine walk1_open fun K hK => ?_
          repeat
            apply walk1_value (by rfl)
            · intro W hcl hsz; go_simp; rfl
            simp only [Act.put, List.setIfInBounds_toArray, List.set_cons_zero, List.set_cons_succ]
          apply walk1_call (by rfl)
          · intro W hsz; go_simp; first | exact ⟨rfl, rfl⟩ | rfl
          · intro W hlW; exact mul_any _ _ _ uX uY
          simp only [Act.put, List.setIfInBounds_toArray, List.set_cons_zero, List.set_cons_succ]
          apply walk1_call (by rfl)
          · intro W hsz; go_simp; first | exact ⟨rfl, rfl⟩ | rfl
          · intro W hlW; exact add_any _ _ _ _ _ (U_hi _) (U_lo _) (U_hi _) (U_lo _)
          simp only [Act.put, List.setIfInBounds_toArray, List.set_cons_zero, List.set_cons_succ]
          repeat
            apply walk1_value (by rfl)
            · intro W hcl hsz; go_simp; rfl
            simp only [Act.put, List.setIfInBounds_toArray, List.set_cons_zero, List.set_cons_succ]
          refine walk1_nil (hK _ ?_); clear hK K
          intro W6 hW6
          have vI : V I := by unfold V; have := hIO.out; omega
          have vO : V O := by unfold V; have := hIO.out; omega
          rw [wd_hi_lo vI, wd_hi_lo vG]
          replace x1 := x1.step hW6
          replace x2 := x2.step hW6
          replace x3 := x3.step hW6
          have hB6 := below_of hB5 hW6
          clear c0x1 c1x1 f0x1 f1x1 zzx1
          clear hW6 hB5 cx cy hbs z1
          have c0x1 := x1.cell 0
          have c1x1 := x1.cell 1
          have f0x1 := x1.frozen 0
          have f1x1 := x1.frozen 1
          have zzx1 := x1.lt
          simp only [List.getElem?_toArray, List.getElem?_cons_zero, List.getElem?_cons_succ] at c0x1 c1x1
          go_upto_region 13 with (fail)
          replace x3 := (x3.far (p := ⟨g, 0, none⟩) (by simp <;> omega) (.int .u64 (hi (I+x*y)))).far (p := ⟨g, 1, none⟩) (by simp <;> omega) (.int .u64 (lo (I+x*y)))
          replace x2 := (x2.far (p := ⟨g, 0, none⟩) (by simp <;> omega) (.int .u64 (hi (I+x*y)))).far (p := ⟨g, 1, none⟩) (by simp <;> omega) (.int .u64 (lo (I+x*y)))
          skip
          replace x1 := (x1.put 0 (.int .u64 (hi (I+x*y)))).put 1 (.int .u64 (lo (I+x*y)))
          simp only [List.setIfInBounds_toArray, List.set_cons_zero, List.set_cons_succ] at x1
          have hB7 : Below w.heap.size w ((W6.setCell ⟨g, 0, none⟩ (.int .u64 (hi (I+x*y)))).setCell ⟨g, 1, none⟩ (.int .u64 (lo (I+x*y)))) := by go_grown
          generalize ((W6.setCell ⟨g, 0, none⟩ (.int .u64 (hi (I+x*y)))).setCell ⟨g, 1, none⟩ (.int .u64 (lo (I+x*y)))) = W7 at *
          clear hB6
          clear c0x1 c1x1 f0x1 f1x1 zzx1
          have c0x2 := x2.cell 0
          have c1x2 := x2.cell 1
          have f0x2 := x2.frozen 0
          have f1x2 := x2.frozen 1
          have zzx2 := x2.lt
          simp only [List.getElem?_toArray, List.getElem?_cons_zero, List.getElem?_cons_succ] at c0x2 c1x2
          have c0x3 := x3.cell 0
          have c1x3 := x3.cell 1
          have f0x3 := x3.frozen 0
          have f1x3 := x3.frozen 1
          have zzx3 := x3.lt
          simp only [List.getElem?_toArray, List.getElem?_cons_zero, List.getElem?_cons_succ] at c0x3 c1x3
          go_wp2_with fail
          refine (add_any _ _ _ _ _ (U_hi _) (U_lo _) (U_hi _) (U_lo _)).mono ?_
          rintro e W8 ⟨rfl, hW8⟩
          rw [wd_hi_lo vO, wd_hi_lo vS]
          replace x1 := x1.step hW8
          replace x2 := x2.step hW8
          have hB8 := below_of hB7 hW8
          clear c0x2 c1x2 f0x2 f1x2 zzx2
          clear c0x3 c1x3 f0x3 f1x3 zzx3
          clear hW8 hB7 x3
          have c0x2 := x2.cell 0
          have c1x2 := x2.cell 1
          have f0x2 := x2.frozen 0
          have f1x2 := x2.frozen 1
          have zzx2 := x2.lt
          simp only [List.getElem?_toArray, List.getElem?_cons_zero, List.getElem?_cons_succ] at c0x2 c1x2
          go_upto_region 14 with (fail)
          replace x1 := (x1.far (p := ⟨(g+1), 0, none⟩) (by simp <;> omega) (.int .u64 (hi (O+S)))).far (p := ⟨(g+1), 1, none⟩) (by simp <;> omega) (.int .u64 (lo (O+S)))
          skip
          replace x2 := (x2.put 0 (.int .u64 (hi (O+S)))).put 1 (.int .u64 (lo (O+S)))
          simp only [List.setIfInBounds_toArray, List.set_cons_zero, List.set_cons_succ] at x2
          have hB9 : Below w.heap.size w ((W8.setCell ⟨(g+1), 0, none⟩ (.int .u64 (hi (O+S)))).setCell ⟨(g+1), 1, none⟩ (.int .u64 (lo (O+S)))) := by go_grown
          generalize ((W8.setCell ⟨(g+1), 0, none⟩ (.int .u64 (hi (O+S)))).setCell ⟨(g+1), 1, none⟩ (.int .u64 (lo (O+S)))) = W9 at *
          clear hB8
          clear c0x2 c1x2 f0x2 f1x2 zzx2
          have cx := (hB9.cell (p := ⟨b, off + k * 2, none⟩) hbw).trans CX.out
          have hbs : b < W9.heap.size := by have := hB9.size; omega
          go_wp2_with fail
          obtain ⟨s, hs⟩ : ∃ s, s = x % 3000 := ⟨_, rfl⟩
          have hsb : 0 ≤ s ∧ s < 3000 := by omega
          rw [← hs]
          have hsI : I64 s := by unfold I64; omega
          obtain ⟨ok1, ok2⟩ := needV_lo (s := s) hsb.1 (by omega)
          clear hs
          refine (btake_any _ _ _ uN hsI).mono ?_
          rintro e W10 ⟨rfl, hW10⟩
          replace x1 := x1.step hW10
          replace x2 := x2.step hW10
          have hB10 := below_of hB9 hW10
          clear hW10 hB9 cx hbs
          go_wp2_with fail
          refine (bneed_any _ _ hsI).mono ?_
          rintro e W11 ⟨rfl, hW11⟩
          replace x1 := x1.step hW11
          replace x2 := x2.step hW11
          have hB11 := below_of hB10 hW11
          clear hW11 hB10
          have uQ := U_need s
          obtain ⟨d, hd⟩ : ∃ d, d = needV s := ⟨_, rfl⟩
          have tk := take_law (a := N) ok1
          rw [← hd] at uQ tk ⊢
          rw [ok1]
          clear ok1 ok2 hd hsI hsb
          have hk1 : IntKind.i64.wrap ((k : Int) + 1) = k + 1 := IntWalk.i64_in _ (by omega)
          have HK1 := Lib.hid hk1
          clear hk1
          have hI' : I + x * y ≤ 4611686018427387904 + ((k + 1 : Nat) : Int) * 18446744073709551616 := by
            rw [Int.natCast_add, Int.add_mul]; omega
          have hIo := hIO.out
          have hE2 := e2.out
          by_cases hc : d ≤ N
          · obtain ⟨t1, t2⟩ := tk.1 hc
            have T1 := Lib.hid t1
            have T2 := Lib.hid t2
            clear t1 t2 tk
            rw [T1.out, T2.out]
            have vOS : V (O + S) := by unfold V at *; omega
            have vQ : V (wd 0 d) := V_wd U_zero uQ
            have HF := Lib.hid (show I + x * y = O + S + d + (N - d) by omega)
            have u8 : U (N - d) := by unfold U at *; omega
            clear hIo hE2
            have c0x2 := x2.cell 0
            have c1x2 := x2.cell 1
            have f0x2 := x2.frozen 0
            have f1x2 := x2.frozen 1
            have zzx2 := x2.lt
            simp only [List.getElem?_toArray, List.getElem?_cons_zero, List.getElem?_cons_succ] at c0x2 c1x2
            go_upto_region 20 with (fail)
            refine wp_region_text (by kernel_rfl) (by kernel_rfl) fun Q2 hQ2 => ?_
            refine drawn_calls 7 (by kernel_rfl) ?_
            simp only [List.take_succ_cons, List.take_zero, List.drop_succ_cons, List.drop_zero]
            refine walk1_open fun K hK => ?_
            repeat
              apply walk1_value (by rfl)
              · intro W hcl hsz; go_simp; rfl
              simp only [Act.put, List.setIfInBounds_toArray, List.set_cons_zero, List.set_cons_succ]
            apply walk1_call (by rfl)
            · intro W hsz; go_simp; first | exact ⟨rfl, rfl⟩ | rfl
            · intro W hlW; exact of_any _ _
            simp only [Act.put, List.setIfInBounds_toArray, List.set_cons_zero, List.set_cons_succ]
            apply walk1_call (by rfl)
            · intro W hsz; go_simp; first | exact ⟨rfl, rfl⟩ | rfl
            · intro W hlW; exact add_any _ _ _ _ _ (U_hi _) (U_lo _) U_zero uQ
            simp only [Act.put, List.setIfInBounds_toArray, List.set_cons_zero, List.set_cons_succ]
            repeat
              apply walk1_value (by rfl)
              · intro W hcl hsz; go_simp; rfl
              simp only [Act.put, List.setIfInBounds_toArray, List.set_cons_zero, List.set_cons_succ]
            refine walk1_nil (hK _ ?_); clear hK K
            intro W12 hW12
            rw [wd_hi_lo vOS, wd_zero]
            replace x1 := x1.step hW12
            replace x2 := x2.step hW12
            have hB12 := below_of hB11 hW12
            clear c0x2 c1x2 f0x2 f1x2 zzx2
            clear hW12 hB11
            have c0x2 := x2.cell 0
            have c1x2 := x2.cell 1
            have f0x2 := x2.frozen 0
            have f1x2 := x2.frozen 1
            have zzx2 := x2.lt
            simp only [List.getElem?_toArray, List.getElem?_cons_zero, List.getElem?_cons_succ] at c0x2 c1x2
            go_upto_region 21 with (fail)
            replace x1 := (x1.far (p := ⟨(g+1), 0, none⟩) (by simp <;> omega) (.int .u64 (hi (O+S+d)))).far (p := ⟨(g+1), 1, none⟩) (by simp <;> omega) (.int .u64 (lo (O+S+d)))
            skip
            replace x2 := (x2.put 0 (.int .u64 (hi (O+S+d)))).put 1 (.int .u64 (lo (O+S+d)))
            simp only [List.setIfInBounds_toArray, List.set_cons_zero, List.set_cons_succ] at x2
            have hB13 : Below w.heap.size w ((W12.setCell ⟨(g+1), 0, none⟩ (.int .u64 (hi (O+S+d)))).setCell ⟨(g+1), 1, none⟩ (.int .u64 (lo (O+S+d)))) := by go_grown
            generalize ((W12.setCell ⟨(g+1), 0, none⟩ (.int .u64 (hi (O+S+d)))).setCell ⟨(g+1), 1, none⟩ (.int .u64 (lo (O+S+d)))) = W13 at *
            clear hB12
            clear c0x2 c1x2 f0x2 f1x2 zzx2
            go_wp2
            go_roundw
            case rel =>
              refine ⟨k + 1, N - d, I + x * y, O + S + d, by omega, by go_num, rfl, u8.1, by have := uQ.1; omega, ?_, hI', HF, x1, x2, hB13⟩
              unfold V U at *; omega
            case measure => simp [intOf]; omega
          · obtain ⟨t1, t2⟩ := tk.2 hc
            have T1 := Lib.hid t1
            have T2 := Lib.hid t2
            clear t1 t2 tk
            rw [T1.out, T2.out]
            have HF := Lib.hid (show I + x * y = O + S + N by omega)
            have hc' : N < d := by omega
            clear hIo hE2
            go_wp2
            go_roundw
            case rel =>
              refine ⟨k + 1, N, I + x * y, O + S, by omega, by go_num, rfl, a1, a2, ?_, hI', HF, x1, x2, hB11⟩
              unfold V at *; omega
            case measure => simp [intOf]; omega
        · obtain rfl : k = n' := by omega
          have hIo := hIO.out
          have vI : V I := by unfold V; omega
          have vO : V O := by unfold V; omega
          have uM : U m := by unfold U at *; omega
          have f1 := Lib.hid (show I - O = m by omega)
          have f2 := Lib.hid (show decide (I < O) = false by simp; omega)
          have hmr : ¬ r < m := by omega
          clear hIo hIO
          have c0x1 := x1.cell 0
          have c1x1 := x1.cell 1
          have f0x1 := x1.frozen 0
          have f1x1 := x1.frozen 1
          have zzx1 := x1.lt
          simp only [List.getElem?_toArray, List.getElem?_cons_zero, List.getElem?_cons_succ] at c0x1 c1x1
          have c0x2 := x2.cell 0
          have c1x2 := x2.cell 1
          have f0x2 := x2.frozen 0
          have f1x2 := x2.frozen 1
          have zzx2 := x2.lt
          simp only [List.getElem?_toArray, List.getElem?_cons_zero, List.getElem?_cons_succ] at c0x2 c1x2
          go_wp2_with fail
          refine (sub_any _ _ _ _ _ (U_lo _) (U_lo _)).mono ?_
          rintro e W3 ⟨rfl, hW3⟩
          rw [wd_hi_lo vI, wd_hi_lo vO, f1.out, f2.out, hi_of_U uM, lo_of_U uM]
          have hB3 := below_of xB hW3
          clear c0x1 c1x1 f0x1 f1x1 zzx1
          clear c0x2 c1x2 f0x2 f1x2 zzx2
          clear hW3 xB x1 x2
          go_wp2_with fail
          refine (bfull_any _ _ (U_of (by decide))).mono ?_
          rintro e W4 ⟨rfl, rfl⟩
          rw [show fullV 2 = 2000000000 from rfl, show fullE 2 = 0 from rfl]
          go_upto_region 24 with (fail)
          have x3 := Blk.new W3 38 #[.int .u64 0, .int .u64 m]
          have hB4 : Below w.heap.size w (W3.alloc (.cells #[.int .u64 0, .int .u64 m] 38)) := hB3.alloc hB3.size _
          generalize W3.alloc (.cells #[.int .u64 0, .int .u64 m] 38) = W5 at *
          have c0x3 := x3.cell 0
          have c1x3 := x3.cell 1
          have f0x3 := x3.frozen 0
          have f1x3 := x3.frozen 1
          have zzx3 := x3.lt
          simp only [List.getElem?_toArray, List.getElem?_cons_zero, List.getElem?_cons_succ] at c0x3 c1x3
          clear x3 hB3
          refine wp_region_calls 21 (by kernel_rfl) (by kernel_rfl) ?_
          simp only [List.take_succ_cons, List.take_zero, List.drop_succ_cons, List.drop_zero]
          refine walk1_open fun K hK => ?_
          repeat
            apply walk1_value (by rfl)
            · intro W hcl hsz; go_simp; rfl
            simp only [Act.put, List.setIfInBounds_toArray, List.set_cons_zero, List.set_cons_succ]
          apply walk1_call (by rfl)
          · intro W hsz; go_simp; first | exact ⟨rfl, rfl⟩ | rfl
          · intro W hlW; exact of_any _ _
          simp only [Act.put, List.setIfInBounds_toArray, List.set_cons_zero, List.set_cons_succ]
          repeat
            apply walk1_value (by rfl)
            · intro W hcl hsz; go_simp; rfl
            simp only [Act.put, List.setIfInBounds_toArray, List.set_cons_zero, List.set_cons_succ]
          refine walk1_nil (hK _ ?_); clear hK K
          intro W6 hW6
          have hB6 := below_of hB4 hW6
          clear c0x3 c1x3 f0x3 f1x3 zzx3
          clear hW6 hB4
          go_wp2
          go_returns
          exact ⟨rfl, by go_grown⟩
    · have hl1 : l ≤ r := by have := E1.out; omega
      rw [E1.out]
      refine (of_any _ _).mono ?_
      rintro e W1 ⟨rfl, hW1⟩
      have hB1 : Below w.heap.size w W1 := hW1
      clear hW1
      go_wp2
      have g1 := (Blk.new W1 38 #[.int .u64 0, .int .u64 l]).alloc (.cells #[.int .u64 0, .int .u64 0] 38)
      have g2 := Blk.new (W1.alloc (.cells #[.int .u64 0, .int .u64 l] 38)) 38 #[.int .u64 0, .int .u64 0]
      have hB2 : Below w.heap.size w ((W1.alloc (.cells #[.int .u64 0, .int .u64 l] 38)).alloc (.cells #[.int .u64 0, .int .u64 0] 38)) := (hB1.alloc hB1.size _).alloc (hB1.alloc hB1.size _).size _
      rw [World.size_alloc] at g2
      generalize ((W1.alloc (.cells #[.int .u64 0, .int .u64 l] 38)).alloc (.cells #[.int .u64 0, .int .u64 0] 38)) = W2 at *
      have hB1s := hB1.size
      generalize W1.heap.size = g at *
      clear hB1
      go_loopw [7, 10] (fun nv iv wr => ∃ (k : Nat) (m I O : Int), k ≤ n' ∧ iv = .int .i64 k ∧ nv = .int .u64 m ∧ 0 ≤ m ∧ m ≤ r ∧ 0 ≤ O ∧ I ≤ 4611686018427387904 + k * 18446744073709551616 ∧ Hid (I = O + m) ∧
          Blk wr g 38 #[.int .u64 (hi I), .int .u64 (lo I)] ∧ Blk wr (g + 1) 38 #[.int .u64 (hi O), .int .u64 (lo O)] ∧ Below w.heap.size w wr) (fun _ iv _ => n' - (intOf iv).toNat)
      case atStart =>
        refine ⟨0, l, l, 0, by omega, rfl, rfl, hl.1, hl1, by omega, ?_, (by omega : l = 0 + l), ?_, ?_, hB2⟩
        · have := hl1; omega
        · rw [hi_of_U hl, lo_of_U hl]; exact g1
        · rw [hi_of_U U_zero, lo_of_U U_zero]; exact g2
      case round =>
        obtain ⟨k, m, I, O, hk, rfl, rfl, hm0, hm1, hO, hI, hIO, x1, x2, xB⟩ := hrel
        by_cases hlt : k < n'
        · obtain ⟨b, off, x, y, rfl, ux, uy, cx, cy, hbw⟩ := HA.out k hlt
          have CX := Lib.hid cx
          have CY := Lib.hid cy
          obtain ⟨hx0, hx1⟩ := ux
          obtain ⟨hy0, hy1⟩ := uy
          have uX : U x := by unfold U; omega
          have uY : U y := by unfold U; omega
          have wx' := wrap_in uX
          have wy' := wrap_in uY
          have uM : U m := by unfold U at *; omega
          have hk0 : (k : Int) < n' := by omega
          have vG := V_mul uX uY
          have hg2 : x * y < 18446744073709551616 := mul32 hx0 hx1 hy0 hy1
          obtain ⟨a1, a2, a3⟩ := drop_law hm0 hm1 vG.1
          obtain ⟨_, _, vS, uN⟩ := put_bounds uM hUr vG
          have e2 := Lib.hid (show growV m r (x * y) + spillV m r (x * y) = m + x * y from a3)
          obtain ⟨N, hN⟩ : ∃ N, N = growV m r (x * y) := ⟨_, rfl⟩
          obtain ⟨S, hS⟩ : ∃ S, S = spillV m r (x * y) := ⟨_, rfl⟩
          rw [← hN] at a1 a2 uN e2
          rw [← hS] at vS e2
          have HN := Lib.hid hN
          have HS := Lib.hid hS
          clear cx cy hN hS a3
          have hgs : g + 1 < wr.heap.size := x2.lt
          go_upto_region 11 with (fail)
          replace x1 := x1.alloc (.cells #[.int .u64 0, .int .u64 0] 38)
          replace x2 := x2.alloc (.cells #[.int .u64 0, .int .u64 0] 38)
          have x3 := Blk.new wr 38 #[.int .u64 0, .int .u64 0]
          have hB3 : Below w.heap.size w (wr.alloc (.cells #[.int .u64 0, .int .u64 0] 38)) := xB.alloc xB.size _
          generalize wr.alloc (.cells #[.int .u64 0, .int .u64 0] 38) = W3 at *
          generalize wr.heap.size = g3 at *
          clear xB
          have cx := (hB3.cell (p := ⟨b, off + k * 2, none⟩) hbw).trans CX.out
          have cy := (hB3.cell (p := ⟨b, off + k * 2 + 1, none⟩) hbw).trans CY.out
          have hbs : b < W3.heap.size := by have := hB3.size; omega
          refine wp_region_calls 19 (by kernel_rfl) (by kernel_rfl) ?_
          simp only [List.take_succ_cons, List.take_zero, List.drop_succ_cons, List.drop_zero]
          refine walk1_open fun K hK => ?_
          repeat
            apply walk1_value (by rfl)
            · intro W hcl hsz; go_simp; rfl
            simp only [Act.put, List.setIfInBounds_toArray, List.set_cons_zero, List.set_cons_succ]
          apply walk1_call (by rfl)
          · intro W hsz; go_simp; first | exact ⟨rfl, rfl⟩ | rfl
          · intro W hlW; exact bgrow_any _ _ _ _ _ uM hUr uX uY
          simp only [Act.put, List.setIfInBounds_toArray, List.set_cons_zero, List.set_cons_succ]
          repeat
            apply walk1_value (by rfl)
            · intro W hcl hsz; go_simp; rfl
            simp only [Act.put, List.setIfInBounds_toArray, List.set_cons_zero, List.set_cons_succ]
          refine walk1_nil (hK _ ?_); clear hK K
          intro W4 hW4
          rw [← HN.out, ← HS.out]
          replace x1 := x1.step hW4
          replace x2 := x2.step hW4
          replace x3 := x3.step hW4
          have hB4 := below_of hB3 hW4
          clear hW4 hB3 cx cy hbs
          have z1 := x1.lt
          have c0x3 := x3.cell 0
          have c1x3 := x3.cell 1
          have f0x3 := x3.frozen 0
          have f1x3 := x3.frozen 1
          have zzx3 := x3.lt
          simp only [List.getElem?_toArray, List.getElem?_cons_zero, List.getElem?_cons_succ] at c0x3 c1x3
          go_upto_region 12 with (fail)
          replace x2 := (x2.far (p := ⟨g3, 0, none⟩) (by simp <;> omega) (.int .u64 (hi S))).far (p := ⟨g3, 1, none⟩) (by simp <;> omega) (.int .u64 (lo S))
          replace x1 := (x1.far (p := ⟨g3, 0, none⟩) (by simp <;> omega) (.int .u64 (hi S))).far (p := ⟨g3, 1, none⟩) (by simp <;> omega) (.int .u64 (lo S))
          skip
          replace x3 := (x3.put 0 (.int .u64 (hi S))).put 1 (.int .u64 (lo S))
          simp only [List.setIfInBounds_toArray, List.set_cons_zero, List.set_cons_succ] at x3
          have hB5 : Below w.heap.size w ((W4.setCell ⟨g3, 0, none⟩ (.int .u64 (hi S))).setCell ⟨g3, 1, none⟩ (.int .u64 (lo S))) := by go_grown
          generalize ((W4.setCell ⟨g3, 0, none⟩ (.int .u64 (hi S))).setCell ⟨g3, 1, none⟩ (.int .u64 (lo S))) = W5 at *
          clear hB4
          clear c0x3 c1x3 f0x3 f1x3 zzx3
          have c0x1 := x1.cell 0
          have c1x1 := x1.cell 1
          have f0x1 := x1.frozen 0
          have f1x1 := x1.frozen 1
          have zzx1 := x1.lt
          simp only [List.getElem?_toArray, List.getElem?_cons_zero, List.getElem?_cons_succ] at c0x1 c1x1
          have cx := (hB5.cell (p := ⟨b, off + k * 2, none⟩) hbw).trans CX.out
          have cy := (hB5.cell (p := ⟨b, off + k * 2 + 1, none⟩) hbw).trans CY.out
          have hbs : b < W5.heap.size := by have := hB5.size; omega
          refine wp_region_text (by kernel_rfl) (by kernel_rfl) fun Q2 hQ2 => ?_
          refine drawn_calls 18 (by kernel_rfl) ?_
          simp only [List.take_succ_cons, List.take_zero, List.drop_succ_cons, List.drop_zero]
          refine walk1_open fun K hK => ?_
          repeat
            apply walk1_value (by rfl)
            · intro W hcl hsz; go_simp; rfl
            simp only [Act.put, List.setIfInBounds_toArray, List.set_cons_zero, List.set_cons_succ]
          apply walk1_call (by rfl)
          · intro W hsz; go_simp; first | exact ⟨rfl, rfl⟩ | rfl
          · intro W hlW; exact mul_any _ _ _ uX uY
          simp only [Act.put, List.setIfInBounds_toArray, List.set_cons_zero, List.set_cons_succ]
          apply walk1_call (by rfl)
          · intro W hsz; go_simp; first | exact ⟨rfl, rfl⟩ | rfl
          · intro W hlW; exact add_any _ _ _ _ _ (U_hi _) (U_lo _) (U_hi _) (U_lo _)
          simp only [Act.put, List.setIfInBounds_toArray, List.set_cons_zero, List.set_cons_succ]
          repeat
            apply walk1_value (by rfl)
            · intro W hcl hsz; go_simp; rfl
            simp only [Act.put, List.setIfInBounds_toArray, List.set_cons_zero, List.set_cons_succ]
          refine walk1_nil (hK _ ?_); clear hK K
          intro W6 hW6
          have vI : V I := by unfold V; have := hIO.out; omega
          have vO : V O := by unfold V; have := hIO.out; omega
          rw [wd_hi_lo vI, wd_hi_lo vG]
          replace x1 := x1.step hW6
          replace x2 := x2.step hW6
          replace x3 := x3.step hW6
          have hB6 := below_of hB5 hW6
          clear c0x1 c1x1 f0x1 f1x1 zzx1
          clear hW6 hB5 cx cy hbs z1
          have c0x1 := x1.cell 0
          have c1x1 := x1.cell 1
          have f0x1 := x1.frozen 0
          have f1x1 := x1.frozen 1
          have zzx1 := x1.lt
          simp only [List.getElem?_toArray, List.getElem?_cons_zero, List.getElem?_cons_succ] at c0x1 c1x1
          go_upto_region 13 with (fail)
          replace x3 := (x3.far (p := ⟨g, 0, none⟩) (by simp <;> omega) (.int .u64 (hi (I+x*y)))).far (p := ⟨g, 1, none⟩) (by simp <;> omega) (.int .u64 (lo (I+x*y)))
          replace x2 := (x2.far (p := ⟨g, 0, none⟩) (by simp <;> omega) (.int .u64 (hi (I+x*y)))).far (p := ⟨g, 1, none⟩) (by simp <;> omega) (.int .u64 (lo (I+x*y)))
          skip
          replace x1 := (x1.put 0 (.int .u64 (hi (I+x*y)))).put 1 (.int .u64 (lo (I+x*y)))
          simp only [List.setIfInBounds_toArray, List.set_cons_zero, List.set_cons_succ] at x1
          have hB7 : Below w.heap.size w ((W6.setCell ⟨g, 0, none⟩ (.int .u64 (hi (I+x*y)))).setCell ⟨g, 1, none⟩ (.int .u64 (lo (I+x*y)))) := by go_grown
          generalize ((W6.setCell ⟨g, 0, none⟩ (.int .u64 (hi (I+x*y)))).setCell ⟨g, 1, none⟩ (.int .u64 (lo (I+x*y)))) = W7 at *
          clear hB6
          clear c0x1 c1x1 f0x1 f1x1 zzx1
          have c0x2 := x2.cell 0
          have c1x2 := x2.cell 1
          have f0x2 := x2.frozen 0
          have f1x2 := x2.frozen 1
          have zzx2 := x2.lt
          simp only [List.getElem?_toArray, List.getElem?_cons_zero, List.getElem?_cons_succ] at c0x2 c1x2
          have c0x3 := x3.cell 0
          have c1x3 := x3.cell 1
          have f0x3 := x3.frozen 0
          have f1x3 := x3.frozen 1
          have zzx3 := x3.lt
          simp only [List.getElem?_toArray, List.getElem?_cons_zero, List.getElem?_cons_succ] at c0x3 c1x3
          go_wp2_with fail
          refine (add_any _ _ _ _ _ (U_hi _) (U_lo _) (U_hi _) (U_lo _)).mono ?_
          rintro e W8 ⟨rfl, hW8⟩
          rw [wd_hi_lo vO, wd_hi_lo vS]
          replace x1 := x1.step hW8
          replace x2 := x2.step hW8
          have hB8 := below_of hB7 hW8
          clear c0x2 c1x2 f0x2 f1x2 zzx2
          clear c0x3 c1x3 f0x3 f1x3 zzx3
          clear hW8 hB7 x3
          have c0x2 := x2.cell 0
          have c1x2 := x2.cell 1
          have f0x2 := x2.frozen 0
          have f1x2 := x2.frozen 1
          have zzx2 := x2.lt
          simp only [List.getElem?_toArray, List.getElem?_cons_zero, List.getElem?_cons_succ] at c0x2 c1x2
          go_upto_region 14 with (fail)
          replace x1 := (x1.far (p := ⟨(g+1), 0, none⟩) (by simp <;> omega) (.int .u64 (hi (O+S)))).far (p := ⟨(g+1), 1, none⟩) (by simp <;> omega) (.int .u64 (lo (O+S)))
          skip
          replace x2 := (x2.put 0 (.int .u64 (hi (O+S)))).put 1 (.int .u64 (lo (O+S)))
          simp only [List.setIfInBounds_toArray, List.set_cons_zero, List.set_cons_succ] at x2
          have hB9 : Below w.heap.size w ((W8.setCell ⟨(g+1), 0, none⟩ (.int .u64 (hi (O+S)))).setCell ⟨(g+1), 1, none⟩ (.int .u64 (lo (O+S)))) := by go_grown
          generalize ((W8.setCell ⟨(g+1), 0, none⟩ (.int .u64 (hi (O+S)))).setCell ⟨(g+1), 1, none⟩ (.int .u64 (lo (O+S)))) = W9 at *
          clear hB8
          clear c0x2 c1x2 f0x2 f1x2 zzx2
          have cx := (hB9.cell (p := ⟨b, off + k * 2, none⟩) hbw).trans CX.out
          have hbs : b < W9.heap.size := by have := hB9.size; omega
          go_wp2_with fail
          obtain ⟨s, hs⟩ : ∃ s, s = x % 3000 := ⟨_, rfl⟩
          have hsb : 0 ≤ s ∧ s < 3000 := by omega
          rw [← hs]
          have hsI : I64 s := by unfold I64; omega
          obtain ⟨ok1, ok2⟩ := needV_lo (s := s) hsb.1 (by omega)
          clear hs
          refine (btake_any _ _ _ uN hsI).mono ?_
          rintro e W10 ⟨rfl, hW10⟩
          replace x1 := x1.step hW10
          replace x2 := x2.step hW10
          have hB10 := below_of hB9 hW10
          clear hW10 hB9 cx hbs
          go_wp2_with fail
          refine (bneed_any _ _ hsI).mono ?_
          rintro e W11 ⟨rfl, hW11⟩
          replace x1 := x1.step hW11
          replace x2 := x2.step hW11
          have hB11 := below_of hB10 hW11
          clear hW11 hB10
          have uQ := U_need s
          obtain ⟨d, hd⟩ : ∃ d, d = needV s := ⟨_, rfl⟩
          have tk := take_law (a := N) ok1
          rw [← hd] at uQ tk ⊢
          rw [ok1]
          clear ok1 ok2 hd hsI hsb
          have hk1 : IntKind.i64.wrap ((k : Int) + 1) = k + 1 := IntWalk.i64_in _ (by omega)
          have HK1 := Lib.hid hk1
          clear hk1
          have hI' : I + x * y ≤ 4611686018427387904 + ((k + 1 : Nat) : Int) * 18446744073709551616 := by
            rw [Int.natCast_add, Int.add_mul]; omega
          have hIo := hIO.out
          have hE2 := e2.out
          by_cases hc : d ≤ N
          · obtain ⟨t1, t2⟩ := tk.1 hc
            have T1 := Lib.hid t1
            have T2 := Lib.hid t2
            clear t1 t2 tk
            rw [T1.out, T2.out]
            have vOS : V (O + S) := by unfold V at *; omega
            have vQ : V (wd 0 d) := V_wd U_zero uQ
            have HF := Lib.hid (show I + x * y = O + S + d + (N - d) by omega)
            have u8 : U (N - d) := by unfold U at *; omega
            clear hIo hE2
            have c0x2 := x2.cell 0
            have c1x2 := x2.cell 1
            have f0x2 := x2.frozen 0
            have f1x2 := x2.frozen 1
            have zzx2 := x2.lt
            simp only [List.getElem?_toArray, List.getElem?_cons_zero, List.getElem?_cons_succ] at c0x2 c1x2
            go_upto_region 20 with (fail)
            refine wp_region_text (by kernel_rfl) (by kernel_rfl) fun Q2 hQ2 => ?_
            refine drawn_calls 7 (by kernel_rfl) ?_
            simp only [List.take_succ_cons, List.take_zero, List.drop_succ_cons, List.drop_zero]
            refine walk1_open fun K hK => ?_
            repeat
              apply walk1_value (by rfl)
              · intro W hcl hsz; go_simp; rfl
              simp only [Act.put, List.setIfInBounds_toArray, List.set_cons_zero, List.set_cons_succ]
            apply walk1_call (by rfl)
            · intro W hsz; go_simp; first | exact ⟨rfl, rfl⟩ | rfl
            · intro W hlW; exact of_any _ _
            simp only [Act.put, List.setIfInBounds_toArray, List.set_cons_zero, List.set_cons_succ]
            apply walk1_call (by rfl)
            · intro W hsz; go_simp; first | exact ⟨rfl, rfl⟩ | rfl
            · intro W hlW; exact add_any _ _ _ _ _ (U_hi _) (U_lo _) U_zero uQ
            simp only [Act.put, List.setIfInBounds_toArray, List.set_cons_zero, List.set_cons_succ]
            repeat
              apply walk1_value (by rfl)
              · intro W hcl hsz; go_simp; rfl
              simp only [Act.put, List.setIfInBounds_toArray, List.set_cons_zero, List.set_cons_succ]
            refine walk1_nil (hK _ ?_); clear hK K
            intro W12 hW12
            rw [wd_hi_lo vOS, wd_zero]
            replace x1 := x1.step hW12
            replace x2 := x2.step hW12
            have hB12 := below_of hB11 hW12
            clear c0x2 c1x2 f0x2 f1x2 zzx2
            clear hW12 hB11
            have c0x2 := x2.cell 0
            have c1x2 := x2.cell 1
            have f0x2 := x2.frozen 0
            have f1x2 := x2.frozen 1
            have zzx2 := x2.lt
            simp only [List.getElem?_toArray, List.getElem?_cons_zero, List.getElem?_cons_succ] at c0x2 c1x2
            go_upto_region 21 with (fail)
            replace x1 := (x1.far (p := ⟨(g+1), 0, none⟩) (by simp <;> omega) (.int .u64 (hi (O+S+d)))).far (p := ⟨(g+1), 1, none⟩) (by simp <;> omega) (.int .u64 (lo (O+S+d)))
            skip
            replace x2 := (x2.put 0 (.int .u64 (hi (O+S+d)))).put 1 (.int .u64 (lo (O+S+d)))
            simp only [List.setIfInBounds_toArray, List.set_cons_zero, List.set_cons_succ] at x2
            have hB13 : Below w.heap.size w ((W12.setCell ⟨(g+1), 0, none⟩ (.int .u64 (hi (O+S+d)))).setCell ⟨(g+1), 1, none⟩ (.int .u64 (lo (O+S+d)))) := by go_grown
            generalize ((W12.setCell ⟨(g+1), 0, none⟩ (.int .u64 (hi (O+S+d)))).setCell ⟨(g+1), 1, none⟩ (.int .u64 (lo (O+S+d)))) = W13 at *
            clear hB12
            clear c0x2 c1x2 f0x2 f1x2 zzx2
            go_wp2
            go_roundw
            case rel =>
              refine ⟨k + 1, N - d, I + x * y, O + S + d, by omega, by go_num, rfl, u8.1, by have := uQ.1; omega, ?_, hI', HF, x1, x2, hB13⟩
              unfold V U at *; omega
            case measure => simp [intOf]; omega
          · obtain ⟨t1, t2⟩ := tk.2 hc
            have T1 := Lib.hid t1
            have T2 := Lib.hid t2
            clear t1 t2 tk
            rw [T1.out, T2.out]
            have HF := Lib.hid (show I + x * y = O + S + N by omega)
            have hc' : N < d := by omega
            clear hIo hE2
            go_wp2
            go_roundw
            case rel =>
              refine ⟨k + 1, N, I + x * y, O + S, by omega, by go_num, rfl, a1, a2, ?_, hI', HF, x1, x2, hB11⟩
              unfold V at *; omega
            case measure => simp [intOf]; omega
        · obtain rfl : k = n' := by omega
          have hIo := hIO.out
          have vI : V I := by unfold V; omega
          have vO : V O := by unfold V; omega
          have uM : U m := by unfold U at *; omega
          have f1 := Lib.hid (show I - O = m by omega)
          have f2 := Lib.hid (show decide (I < O) = false by simp; omega)
          have hmr : ¬ r < m := by omega
          clear hIo hIO
          have c0x1 := x1.cell 0
          have c1x1 := x1.cell 1
          have f0x1 := x1.frozen 0
          have f1x1 := x1.frozen 1
          have zzx1 := x1.lt
          simp only [List.getElem?_toArray, List.getElem?_cons_zero, List.getElem?_cons_succ] at c0x1 c1x1
          have c0x2 := x2.cell 0
          have c1x2 := x2.cell 1
          have f0x2 := x2.frozen 0
          have f1x2 := x2.frozen 1
          have zzx2 := x2.lt
          simp only [List.getElem?_toArray, List.getElem?_cons_zero, List.getElem?_cons_succ] at c0x2 c1x2
          go_wp2_with fail
          refine (sub_any _ _ _ _ _ (U_lo _) (U_lo _)).mono ?_
          rintro e W3 ⟨rfl, hW3⟩
          rw [wd_hi_lo vI, wd_hi_lo vO, f1.out, f2.out, hi_of_U uM, lo_of_U uM]
          have hB3 := below_of xB hW3
          clear c0x1 c1x1 f0x1 f1x1 zzx1
          clear c0x2 c1x2 f0x2 f1x2 zzx2
          clear hW3 xB x1 x2
          go_wp2_with fail
          refine (bfull_any _ _ (U_of (by decide))).mono ?_
          rintro e W4 ⟨rfl, rfl⟩
          rw [show fullV 2 = 2000000000 from rfl, show fullE 2 = 0 from rfl]
          go_upto_region 24 with (fail)
          have x3 := Blk.new W3 38 #[.int .u64 0, .int .u64 m]
          have hB4 : Below w.heap.size w (W3.alloc (.cells #[.int .u64 0, .int .u64 m] 38)) := hB3.alloc hB3.size _
          generalize W3.alloc (.cells #[.int .u64 0, .int .u64 m] 38) = W5 at *
          have c0x3 := x3.cell 0
          have c1x3 := x3.cell 1
          have f0x3 := x3.frozen 0
          have f1x3 := x3.frozen 1
          have zzx3 := x3.lt
          simp only [List.getElem?_toArray, List.getElem?_cons_zero, List.getElem?_cons_succ] at c0x3 c1x3
          clear x3 hB3
          refine wp_region_calls 21 (by kernel_rfl) (by kernel_rfl) ?_
          simp only [List.take_succ_cons, List.take_zero, List.drop_succ_cons, List.drop_zero]
          refine walk1_open fun K hK => ?_
          repeat
            apply walk1_value (by rfl)
            · intro W hcl hsz; go_simp; rfl
            simp only [Act.put, List.setIfInBounds_toArray, List.set_cons_zero, List.set_cons_succ]
          apply walk1_call (by rfl)
          · intro W hsz; go_simp; first | exact ⟨rfl, rfl⟩ | rfl
          · intro W hlW; exact of_any _ _
          simp only [Act.put, List.setIfInBounds_toArray, List.set_cons_zero, List.set_cons_succ]
          repeat
            apply walk1_value (by rfl)
            · intro W hcl hsz; go_simp; rfl
            simp only [Act.put, List.setIfInBounds_toArray, List.set_cons_zero, List.set_cons_succ]
          refine walk1_nil (hK _ ?_); clear hK K
          intro W6 hW6
          have hB6 := below_of hB4 hW6
          clear c0x3 c1x3 f0x3 f1x3 zzx3
          clear hW6 hB4
          go_wp2
          go_returns
          exact ⟨rfl, by go_grown⟩

theorem drops_cells {w : World} {ao : Option Addr} {n : Nat} (h : ∀ k, k < n → ∃ (b off : Nat) (zs : List Int), ao = some ⟨b, off, none⟩ ∧ b < w.heap.size ∧ zs.length = 2 ∧ (∀ z ∈ zs, (Lit.int .u32 z).wf = true) ∧ ∀ i z, zs[i]? = some z → w.cell? ⟨b, off + k * 2 + i, none⟩ = some (.int .u32 z)) :
    ∀ k : Nat, k < n → ∃ (b off : Nat) (x y : Int), ao = some ⟨b, off, none⟩ ∧ U32 x ∧ U32 y ∧ w.cell? ⟨b, off + k * 2, none⟩ = some (.int .u32 x) ∧ w.cell? ⟨b, off + k * 2 + 1, none⟩ = some (.int .u32 y) ∧ b < w.heap.size := fun k hk => by
  obtain ⟨b, off, zs, hao, hb, hz, hw, hc⟩ := h k hk
  obtain ⟨x, y, rfl⟩ := two_of hz
  have bx := bounds_u32 (hw x (by simp))
  have by' := bounds_u32 (hw y (by simp))
  exact ⟨b, off, x, y, hao, by unfold U32; omega, by unfold U32; omega, hc 0 x rfl, hc 1 y rfl, hb⟩

set_option maxRecDepth 100000 in
set_option maxHeartbeats 1000000 in
theorem drops_lifted (os : Os) (started : os.Started) (H : Type) (enc : TypeId × Value → H) :
    ReturnsInHanded {} Try.checked os 10 .any (Rows.wholeDropsSpec.pre6 enc Try.prog Try.f10 Rows.wholeDropsRow.domain false) (Rows.wholeDropsSpec.post enc Try.prog Try.f10 false true false false) := by
  refine returnsInHanded_of_change (C := Try.checked) Try.own started (by kernel_rfl) Try.func10
    (ChangeSpec.witness6 (enc := enc) (C := Try.checked) false ⟨#[], #[.int .u64 0, .int .u64 0, .slice none 0 0], []⟩ 8 (by kernel_rfl) (by kernel_rfl) (by kernel_rfl) (by kernel_rfl)) ?_
  intro W base args ds gs before hval0 hW hcnd _
  have hval : ∀ (j : Nat) t v, Try.f10.params[j]? = some t → args[j]? = some v → Value.okWide Try.prog W .any base t v := hval0
  have hW' := hW
  obtain ⟨p, q, hA0, hV, rfl, hfz, hnd⟩ := hW
  have hA : DataW.TrodAll enc Try.prog W 0 (fun _ => true) true Try.f10.params.toList args.toList ds p := hA0
  have hAk := hA
  rw [Try.params10] at hA hval
  obtain ⟨v0, v1, v2, d0, d1, d2, p0, p1, p2, rfl, rfl, rfl, h0, h1, h2⟩ := trodAll_three hA
  obtain ⟨rfl, rfl⟩ := trodVars_none hV
  obtain ⟨a, rfl, rfl, rfl, wfa⟩ := open_int Try.underlying22 (hval 0 22 v0 rfl rfl) h0
  have wa : U a := U_wf wfa
  obtain ⟨b, rfl, rfl, rfl, wfb⟩ := open_int Try.underlying22 (hval 1 22 v1 rfl rfl) h1
  have wb : U b := U_wf wfb
  obtain ⟨ao2, n2, cap2, rfl, hle2, hmax2, hA2⟩ := open_arrays Try.underlying57 Try.underlying59 Try.underlying58 (by kernel_rfl) (by kernel_rfl) (by decide) (hval 2 57 v2 rfl rfl) h2
  clear hA0 hval0
  simp only [List.append_nil] at hW' hAk
  refine (drops_any a b ao2 n2 cap2 W wa wb hle2 (Nat.le_trans hle2 hmax2) (drops_cells hA2)).mono fun e W' ⟨he, hb⟩ => ?_
  subst he
  exact ⟨_, rfl, law_post Try.laidOut (by kernel_rfl) rfl Try.underlying4 rfl hW' hAk rfl hb⟩

/-- The law WholeDrops answers true, whatever the input. Condition: none. -/
theorem wholeDrops_holds : Rows.WholeDropsSaid :=
  OpenClaim.holds_of_wide 10 Try.f10 rfl rfl rfl rfl rfl rfl rfl ⟨rfl, rfl, rfl, rfl, rfl⟩ rfl rfl rfl rfl rfl (by kernel_rfl) Try.func10 (by kernel_rfl)
    (of_decide_eq_true (by kernel_rfl)) (by unfold Func.isWrapper; rw [if_neg (of_decide_eq_false (by kernel_rfl))]; exact ⟨rfl, rfl⟩)
    (fun os started H enc _ => drops_lifted os started H enc)

end Go.Proofs.Ytgidglbkmklajaa
