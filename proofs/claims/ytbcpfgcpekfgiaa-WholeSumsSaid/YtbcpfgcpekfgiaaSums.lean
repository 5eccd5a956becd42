/- The law WholeSums answers true, whatever the input. Condition: none. -/
import Derived.Test.YtbcpfgcpekfgiaaAdjAt
import Derived.Test.YtbcpfgcpekfgiaaSumsW
namespace Go.Proofs.Ytbcpfgcpekfgiaa
open Go.RowKit Go.Shelf

/-- The bytes ahead of the checksum's filling. -/
def headB (n : Nat) (b : Nat → Int) (i : Nat) : Int := if i = 0 then 69 else if i < 4 then 0 else if i < 4 + n then b (i - 4) else 0
theorem headB_byte {n : Nat} {b : Nat → Int} (hb : ∀ i, isByte (b i)) (i : Nat) : isByte (headB n b i) := by
  unfold headB
  have := hb (i - 4)
  unfold isByte at *
  split
  · omega
  · split
    · omega
    · split
      · exact this
      · omega
theorem row_cells {w : World} {base g n cap : Nat} {xs : List Value} (h : w.ownsRow base 5 1 (.slice (some ⟨g, 0, none⟩) n cap) n xs) (f : Nat → Int) (hx : ∀ i, i < n → xs[i]? = some (.int .u8 (f i))) :
    ∀ i, i < n → w.cell? ⟨g, 0 + i, none⟩ = some (.int .u8 (f i)) := fun i hi => by
  rw [Nat.zero_add, h.cellAt i (by omega)]
  exact hx i hi
theorem row_lt {w : World} {base g n cap : Nat} {xs : List Value} (h : w.ownsRow base 5 1 (.slice (some ⟨g, 0, none⟩) n cap) n xs) : g < w.heap.size ∧ n ≤ cap ∧ base ≤ g := by
  rcases h.2 with ⟨h', _⟩ | ⟨g', cap', cur, h', hb, hg, hc, _⟩
  · cases h'
  · cases h'
    refine ⟨?_, hc, hb⟩
    rcases Nat.lt_or_ge g w.heap.size with h1 | h1
    · exact h1
    · rw [Array.getElem?_eq_none h1] at hg
      cases hg
theorem head_get (n : Nat) (b : Nat → Int) (i : Nat) (h : i < 4 + n) : ([Value.int .u8 69, .int .u8 0, .int .u8 0, .int .u8 0] ++ bvs n b)[i]? = some (.int .u8 (headB n b i)) := by
  unfold headB
  rcases Nat.lt_or_ge i 4 with h4 | h4
  · rw [List.getElem?_append_left (by simpa using h4)]
    have : i = 0 ∨ i = 1 ∨ i = 2 ∨ i = 3 := by omega
    rcases this with h | h | h | h <;> subst h <;> rfl
  · rw [List.getElem?_append_right (by simpa using h4), if_neg (by omega), if_neg (by omega), if_pos h]
    exact bvs_get b (show i - 4 < n by omega)
set_option maxRecDepth 100000 in
set_option maxHeartbeats 4000000 in
theorem sums_any (A0 A1 A2 : Option Addr) (n0 n1 n2 c0 c1 c2 : Nat) (b0 b1 b2 : Nat → Int) (w : World) (hb0 : ∀ i, isByte (b0 i)) (hb1 : ∀ i, isByte (b1 i)) (hb2 : ∀ i, W16 (b2 i)) (hmax : n0 ≤ 140737488351232) (hm1 : n1 ≤ 9223372036854775807) (hm2 : n2 ≤ 9223372036854775807)
    (h0 : 0 < n0 → ∃ p q, A0 = some ⟨p, q, none⟩ ∧ p < w.heap.size ∧ ∀ i, i < n0 → w.cell? ⟨p, q + i, none⟩ = some (.int .u8 (b0 i)))
    (h1 : 0 < n1 → ∃ p q, A1 = some ⟨p, q, none⟩ ∧ p < w.heap.size ∧ ∀ i, i < n1 → w.cell? ⟨p, q + i, none⟩ = some (.int .u8 (b1 i)))
    (h2 : 0 < n2 → ∃ p q, A2 = some ⟨p, q, none⟩ ∧ p < w.heap.size ∧ ∀ i, i < n2 → w.cell? ⟨p, q + i, none⟩ = some (.int .u16 (b2 i))) :
    Calls Try.prog 7 #[.slice A0 n0 c0, .slice A1 n1 c1, .slice A2 n2 c2] w fun e w' => e = .returned (.bool true) ∧ Below w.heap.size w w' := by
  have H0 := Lib.hid h0
  have H1 := Lib.hid h1
  have H2 := Lib.hid h2
  have HB0 := Lib.hid hb0
  have HB1 := Lib.hid hb1
  have HB2 := Lib.hid hb2
  have f1 : foldV (65535 + 1) = 1 := by decide
  clear h0 h1 h2 hb0 hb1 hb2
  have AWA : ∀ W, _ := fun W => add_any 65535 1 W (by unfold W16; omega) (by unfold W16; omega)
  rw [f1] at AWA
  go_enter Try.func7, Try.ntmps7
  by_cases hbig : 40 < n1
  · have hbi : (40 : Int) < (n1 : Int) := by omega
    go_wp2_with (go_at_call 32; refine (AWA _).mono ?_; rintro e w' ⟨rfl, rfl⟩)
    go_ret
    exact ⟨rfl, Below.refl _ _⟩
  · have hbi : (n1 : Int) ≤ 40 := by omega
    have hbn : n1 ≤ 40 := by omega
    clear hbig
    go_upto_region 3 with fail
    have hown : (w.alloc (.cells #[.int .u8 69, .int .u8 0, .int .u8 0, .int .u8 0] 5)).ownsRow w.heap.size 5 1 (.slice (some ⟨w.heap.size, 0, none⟩) 4 4) 4 [.int .u8 69, .int .u8 0, .int .u8 0, .int .u8 0] := World.ownsRow_lit w #[.int .u8 69, .int .u8 0, .int .u8 0, .int .u8 0] 4 (Nat.le_refl _) (by decide) rfl
    have nB : Below w.heap.size w (w.alloc (.cells #[.int .u8 69, .int .u8 0, .int .u8 0, .int .u8 0] 5)) := by go_grown
    have hc0 : 0 < n0 → ∃ p q, A0 = some ⟨p, q, none⟩ ∧ ∀ i, i < n0 → (w.alloc (.cells #[.int .u8 69, .int .u8 0, .int .u8 0, .int .u8 0] 5)).cell? ⟨p, q + i, none⟩ = some (.int .u8 (b0 i)) := fun h => by
      obtain ⟨p, q, e, hp, hc⟩ := H0.out h
      exact ⟨p, q, e, fun i hi => (nB.cell (p := ⟨p, q + i, none⟩) hp).trans (hc i hi)⟩
    go_upto_if 25 with (at_builtin; refine app_bytes _ rfl _ _ rfl w.heap.size w.heap.size 4 4 _ rfl hown A0 n0 c0 b0 rfl hc0 (by omega) (by simp) ?_; intro g1 cap1 w1 hown1 hgrow1)
    have hbb : ∀ i, isByte (headB n0 b0 i) := headB_byte HB0.out
    have hhd : headB n0 b0 0 = 69 := rfl
    have hB1 := nB.grown hgrow1 nB.size (fun k e => by cases e; omega)
    obtain ⟨N, hN⟩ : ∃ N, N = 4 + n0 := ⟨_, rfl⟩
    have hx1 : ∀ i, i < N → ([Value.int .u8 69, .int .u8 0, .int .u8 0, .int .u8 0] ++ bvs n0 b0)[i]? = some (.int .u8 (headB n0 b0 i)) := fun i hi => head_get n0 b0 i (by omega)
    have hxl : ([Value.int .u8 69, .int .u8 0, .int .u8 0, .int .u8 0] ++ bvs n0 b0).length = N := by rw [List.length_append, bvs_length, hN]; rfl
    have hxz : headB n0 b0 N = 0 := by
      unfold headB
      rw [if_neg (by omega), if_neg (by omega), if_neg (by omega)]
    rw [← hN] at hown1 ⊢
    have hNm : N ≤ 140737488351236 := by omega
    have hN4 : 4 ≤ N := by omega
    generalize [Value.int .u8 69, .int .u8 0, .int .u8 0, .int .u8 0] ++ bvs n0 b0 = xs at *
    generalize hfb : headB n0 b0 = fb at *
    clear hfb hc0 hown nB hgrow1 hmax H0 HB0
    have HX1 := Lib.hid hx1
    have HXL := Lib.hid hxl
    have HNN := Lib.hid hN
    have HXZ := Lib.hid hxz
    have HHD := Lib.hid hhd
    have HBB := Lib.hid hbb
    have HWN := Lib.hid hown1
    have HB1W := Lib.hid hB1
    obtain ⟨lg1, lc1, lb1⟩ := row_lt hown1
    clear hx1 hbb hown1 hB1 hxl hxz hhd hN
    go_cut [7] from 22 to 28 (fun v wx => ∃ g cap n m, v = .slice (some ⟨g, 0, none⟩) n cap ∧ n = 2 * m ∧ 2 ≤ m ∧ n ≤ 140737488355328 ∧ g < wx.heap.size ∧ Hid (∀ i, i < n → wx.cell? ⟨g, 0 + i, none⟩ = some (.int .u8 (fb i))) ∧ Hid (Below w.heap.size w wx))
    case first =>
      by_cases hp : N % 2 = 0
      · have hr : (4 + (n0 : Int)) % 2 = 0 := by have := HNN.out; omega
        go_wp2_with fail
        go_meet
        exact ⟨g1, cap1, N, N / 2, rfl, by omega, by omega, by omega, lg1, row_cells HWN.out fb HX1.out, HB1W.out⟩
      · have hr : (4 + (n0 : Int)) % 2 = 1 := by have := HNN.out; omega
        have nz := Blk.new w1 5 #[.int .u8 0]
        have hown2 := HWN.out.alloc (.cells #[.int .u8 0] 5)
        have hB2 := HB1W.out.alloc HB1W.out.size (.cells #[.int .u8 0] 5)
        have hcz : 0 < 1 → ∃ p q, (some ⟨w1.heap.size, 0, none⟩ : Option Addr) = some ⟨p, q, none⟩ ∧ ∀ i, i < 1 → (w1.alloc (.cells #[.int .u8 0] 5)).cell? ⟨p, q + i, none⟩ = some (.int .u8 ((fun _ => 0) i)) := fun _ => ⟨w1.heap.size, 0, rfl, fun i hi => by
          obtain rfl : i = 0 := by omega
          exact nz.cell 0⟩
        have hbs : w.heap.size ≤ (w1.alloc (.cells #[.int .u8 0] 5)).heap.size := hB2.size
        have hN1 : N + 1 ≤ 140737488355328 := by omega
        go_wp2_with (at_builtin; go_loud (refine app_bytes _ rfl _ _ rfl w.heap.size g1 N cap1 _ rfl hown2 _ 1 1 (fun _ => 0) rfl hcz hN1 hbs ?_; intro g2 cap2 w2 hown3 hgrow2))
        go_meet
        refine ⟨g2, cap2, N + 1, (N + 1) / 2, rfl, by omega, by omega, by omega, (row_lt hown3).1, row_cells hown3 fb fun i hi => ?_, hB2.grown hgrow2 hB2.size (fun k e => by cases e; omega)⟩
        by_cases hi2 : i < N
        · rw [List.getElem?_append_left (by rw [HXL.out]; exact hi2)]
          exact HX1.out i hi2
        · obtain rfl : i = N := by omega
          rw [List.getElem?_append_right (by rw [HXL.out]; exact Nat.le_refl _), HXL.out, Nat.sub_self, HXZ.out]
          rfl
    case rest =>
      clear HX1 HWN HB1W lg1 lc1 lb1 HXL HXZ HNN hNm hN4
      obtain ⟨g, cap, n, m, rfl, hn, hm, hnm, lg, HC, HBW⟩ := hcut
      have HN := Lib.hid hn
      clear hn
      go_upto_region 7 with (go_at_call 33; refine (fill_n g 0 n cap m fb _ HN.out hm lg HBB.out HC.out hnm).mono ?_; rintro e w2 ⟨h2, rfl, hh2, hb2, hB2⟩)
      have hI := fill_inv HBB.out HHD.out hm
      have hB3 := HBW.out.trans (hB2.mono HBW.out.size)
      have hh3 : w.heap.size ≤ h2 := by have := HBW.out.size; omega
      generalize fillB fb m = F at *
      have HI := Lib.hid hI
      have HF := Lib.hid hb2
      have HBF := Lib.hid hB3
      clear hI hb2 hB3 hB2 HC HBW HBB HHD lg hh2
      by_cases h6 : n < 6
      · have h6i : (n : Int) < 6 := by omega
        go_wp2_with (go_at_call 34; refine (good_n h2 n m F _ HN.out hm HI.out HF.out hnm).mono ?_; rintro e w3 ⟨rfl, hB3⟩)
        go_ret
        exact ⟨rfl, HBF.out.trans (hB3.mono HBF.out.size)⟩
      · have h6i : (6 : Int) ≤ (n : Int) := by omega
        have hm3 : 3 ≤ m := by have := HN.out; omega
        go_wp2_with fail
        obtain ⟨M, hM, hM1⟩ : ∃ M : Nat, m = M + 2 ∧ 1 ≤ M := ⟨m - 2, by omega, by omega⟩
        go_loopw [8, 10] (fun xv iv wr => ∃ (h i : Nat) (f : Nat → Int), xv = .slice (some ⟨h, 0, none⟩) n n ∧ iv = .int .i64 i ∧ i ≤ n1 ∧ w.heap.size ≤ h ∧ Hid (Blk wr h 5 (byA n f)) ∧ Hid (Inv f m) ∧ Hid (Below w.heap.size w wr)) (fun _ iv _ => ((n1 : Int) - intOf iv).toNat)
        case atStart => exact ⟨h2, 0, F, rfl, rfl, Nat.zero_le _, hh3, HF, HI, HBF⟩
        case round =>
          clear HF HI HBF
          obtain ⟨h, i, f, rfl, rfl, hi, hh, EF, EI, EB⟩ := hrel
          by_cases hi1 : i < n1
          · have hi1i : (i : Int) < (n1 : Int) := by omega
            by_cases hi2 : i < n2
            · have hi2i : (i : Int) < (n2 : Int) := by omega
              obtain ⟨p1, q1, rfl, hp1, hc1⟩ := H1.out (by omega)
              obtain ⟨p2, q2, rfl, hp2, hc2⟩ := H2.out (by omega)
              have x1 := (EB.out.cell (p := ⟨p1, q1 + i, none⟩) hp1).trans (hc1 i hi1)
              have x2 := (EB.out.cell (p := ⟨p2, q2 + i, none⟩) hp2).trans (hc2 i hi2)
              have l1 : p1 < wr.heap.size := by have := EB.out.size; omega
              have l2 : p2 < wr.heap.size := by have := EB.out.size; omega
              have hxw := HB2.out i
              obtain ⟨av, hav, hav2⟩ : ∃ av : Nat, b1 i = (av : Int) ∧ av < 256 := by
                have := HB1.out i
                unfold isByte at this
                exact ⟨(b1 i).toNat, by omega, by omega⟩
              rw [hav] at x1
              obtain ⟨x, hx⟩ : ∃ x, x = b2 i := ⟨_, rfl⟩
              rw [← hx] at x2 hxw
              obtain ⟨R, hR, hRM⟩ : ∃ R : Nat, R = av % M ∧ R < M := ⟨_, rfl, Nat.mod_lt _ (by omega)⟩
              have q1' : (n : Int) / 2 = (m : Int) := by have := HN.out; omega
              have q1'' : (n : Int).tdiv 2 = (m : Int) := by rw [Int.tdiv_eq_ediv_of_nonneg (by omega)]; exact q1'
              have q2' : (m : Int) - 2 = (M : Int) := by omega
              have q3' : (av : Int).tmod (M : Int) = (R : Int) := by rw [Int.tmod_eq_emod_of_nonneg (by omega), hR]; simp
              have q4' : (M : Int) ≠ 0 := by omega
              obtain ⟨k, hk⟩ : ∃ k : Nat, k = 2 * (2 + R) := ⟨_, rfl⟩
              have q5' : 4 + 2 * (R : Int) = (k : Int) := by omega
              have hav3 : (av : Int) < 256 := by omega
              have hRi : (R : Int) < (M : Int) := by omega
              have hMi : (M : Int) ≤ 140737488355328 := by omega
              have HK := Lib.hid hk
              have HM := Lib.hid hM
              have HXW := Lib.hid hxw
              clear hc1 hc2 hav hx hR hk hM hxw
              go_upto_region 13 with fail
              have HAT : ∀ W, Blk W h 5 (byA n f) → _ := fun W hW => at_any h n m k (2 + R) f x W HN.out HK.out (by omega) (by have := HM.out; omega) HXW.out EI.out.byte hW hnm
              have HIN : Hid (Inv (adjB f (2 + R) x) m) := Lib.hid (EI.out.adj (by omega) (by have := HM.out; omega) HXW.out)
              clear q1' q1'' q2' q3' q4' q5' hav3 hRi hMi hav2 hRM hM1 H1 H2
              go_upto_region 14 with (go_at_call 35; refine (HAT _ EF.out).mono ?_; rintro e w3 ⟨h3, rfl, hh3, hb3, hB3⟩)
              have EB3 := Lib.hid (EB.out.trans (hB3.mono EB.out.size))
              have hh3' : w.heap.size ≤ h3 := by have := EB.out.size; omega
              have EF3 := Lib.hid hb3
              clear hB3 hb3 x1 x2 l1 l2 HAT EF EI EB hh3
              go_wp2_with (go_at_call 34; refine (good_n h3 n m _ _ HN.out hm HIN.out EF3.out hnm).mono ?_; rintro e w4 ⟨rfl, hB4⟩)
              have EF4 := Lib.hid (EF3.out.step hB4)
              have EB4 := Lib.hid (EB3.out.trans (hB4.mono EB3.out.size))
              exact ⟨⟨h3, i + 1, _, rfl, by first | rfl | simp, by omega, hh3', EF4, HIN, EB4⟩, by simp [intOf]; omega⟩
            · have hi2i : ¬ (i : Int) < (n2 : Int) := by omega
              go_upto_region 17 with (go_at_call 33; refine (fill_again h n m f _ HN.out hm EI.out EF.out hnm).mono ?_; rintro e w4 ⟨h4, rfl, hh4, hb4, hB4⟩)
              have EF4 := EF.out.step hB4
              have EB4 := EB.out.trans (hB4.mono EB.out.size)
              have str : ∀ q, Blk w4 q 5 (byA n f) → (convert 59 9 (.slice (some ⟨q, 0, none⟩) n n)).run Try.prog w4 = .ok (.string (strOfNums ((List.range n).map f))) w4 := fun q hq => by
                refine run_convert_bytes_arg w4 59 5 Try.underlying59 Try.underlying5 q 0 n n ((List.range n).map f) (by simp) (fun i hi => ?_) 9 Try.underlying9
                rw [Nat.zero_add]
                have e : ((List.range n).map f).getD i 0 = f i := by
                  rw [List.getD_eq_getElem?_getD, List.getElem?_map, List.getElem?_range hi]
                  rfl
                rw [e]
                exact (hq.cell i).trans (byA_get _ hi)
              have s1 := str h EF4
              have s2 := str h4 hb4
              clear str EF EB EI hB4 EF4 hb4
              generalize strOfNums ((List.range n).map f) = S at *
              go_wp2_with (go_at_call 32; refine (AWA _).mono ?_; rintro e w' ⟨rfl, rfl⟩)
              go_ret
              exact ⟨rfl, EB4⟩
          · have hi1i : ¬ (i : Int) < (n1 : Int) := by omega
            go_upto_region 17 with (go_at_call 33; refine (fill_again h n m f _ HN.out hm EI.out EF.out hnm).mono ?_; rintro e w4 ⟨h4, rfl, hh4, hb4, hB4⟩)
            have EF4 := EF.out.step hB4
            have EB4 := EB.out.trans (hB4.mono EB.out.size)
            have str : ∀ q, Blk w4 q 5 (byA n f) → (convert 59 9 (.slice (some ⟨q, 0, none⟩) n n)).run Try.prog w4 = .ok (.string (strOfNums ((List.range n).map f))) w4 := fun q hq => by
              refine run_convert_bytes_arg w4 59 5 Try.underlying59 Try.underlying5 q 0 n n ((List.range n).map f) (by simp) (fun i hi => ?_) 9 Try.underlying9
              rw [Nat.zero_add]
              have e : ((List.range n).map f).getD i 0 = f i := by
                rw [List.getD_eq_getElem?_getD, List.getElem?_map, List.getElem?_range hi]
                rfl
              rw [e]
              exact (hq.cell i).trans (byA_get _ hi)
            have s1 := str h EF4
            have s2 := str h4 hb4
            clear str EF EB EI hB4 EF4 hb4
            generalize strOfNums ((List.range n).map f) = S at *
            go_wp2_with (go_at_call 32; refine (AWA _).mono ?_; rintro e w' ⟨rfl, rfl⟩)
            go_ret
            exact ⟨rfl, EB4⟩
end Go.Proofs.Ytbcpfgcpekfgiaa
