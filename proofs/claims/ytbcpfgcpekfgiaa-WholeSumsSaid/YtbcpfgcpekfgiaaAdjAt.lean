/- adjust.At: a word put at an even place of bytes. -/
import Derived.Test.YtbcpfgcpekfgiaaAdj
namespace Go.Proofs.Ytbcpfgcpekfgiaa
open Go.RowKit Go.Shelf

theorem even_at (n k : Nat) (w : World) (hn : n = 2 * k) (h : n < 9223372036854775808) : Calls Try.prog 66 #[.int .i64 (n : Int)] w fun e w' => e = .returned (.bool true) ∧ w = w' := by
  subst hn
  exact even_any k w h
set_option maxRecDepth 100000 in
set_option maxHeartbeats 4000000 in
theorem at_any (g n m k j : Nat) (b : Nat → Int) (x : Int) (w : World) (hn : n = 2 * m) (hk : k = 2 * j) (hj : 2 ≤ j) (hjm : j < m) (hx : W16 x) (hb : ∀ i, isByte (b i)) (hg : Blk w g 5 (byA n b)) (hlen : n ≤ 140737488355328) :
    Calls Try.prog 35 #[.slice (some ⟨g, 0, none⟩) n n, .int .i64 2, .int .i64 (k : Int), .int .u16 x] w fun e w' => ∃ h, e = .returned (.tuple #[.slice (some ⟨h, 0, none⟩) n n, .int .i64 0]) ∧ w.heap.size ≤ h ∧ Blk w' h 5 (byA n (adjB b j x)) ∧ Below w.heap.size w w' := by
  have lg := hg.lt
  obtain ⟨p, hp⟩ : ∃ p, p = wordV b 1 := ⟨_, rfl⟩
  obtain ⟨q, hq⟩ : ∃ q, q = wordV b j := ⟨_, rfl⟩
  have pw : W16 p := hp ▸ word_w hb 1
  have qw : W16 q := hq ▸ word_w hb j
  have hp2 : be (fun i => b (2 + i)) 2 = p := (be_word b 2 1 rfl).trans hp.symm
  have hq2 : be (fun i => b (k + i)) 2 = q := (be_word b _ j hk).trans hq.symm
  have hcv : adjC b j x = cleanV (adV p q x) := by unfold adjC; rw [hp, hq]
  have hab : adjB b j x = putV (putV b k 2 x 2) 2 2 (cleanV (adV p q x)) 2 := by unfold adjB; rw [hcv, hk]
  rw [hab]
  have wp1 := wrap_w16 pw
  have wq1 := wrap_w16 qw
  have wx := wrap_w64 hx
  have hxu := w_U hx
  have cw := clean_w (adV_w pw qw hx)
  have wcv := wrap_w64 cw
  have cu := w_U cw
  have hne : ¬ (2 : Int) = (k : Int) := by omega
  have hbk : ((2 : Int) == (k : Int)) = false := by rw [beq_eq_false_iff_ne]; exact hne
  have HBK := Lib.hid hbk
  clear hbk
  have h2n : (2 : Nat) + 2 ≤ n := by omega
  have hkn : k + 2 ≤ n := by omega
  have hx2 : (2 : Nat) < 8 → x < 256 ^ 2 := fun _ => by unfold W16 at hx; omega
  have hc2 : (2 : Nat) < 8 → cleanV (adV p q x) < 256 ^ 2 := fun _ => by unfold W16 at cw; omega
  have hcell : ∀ i, i < n → w.cell? ⟨g, 0 + i, none⟩ = some (.int .u8 (b i)) := fun i hi => by
    rw [Nat.zero_add]
    exact (hg.cell i).trans (byA_get _ hi)
  have HC := Lib.hid hcell
  have HE1 : ∀ W, _ := fun W => even_at 2 1 W rfl (by decide)
  have HE2 : ∀ W, _ := fun W => even_at k j W hk (by omega)
  have H2N := Lib.hid h2n
  have HKN := Lib.hid hkn
  have HX2 := Lib.hid hx2
  have HC2 := Lib.hid hc2
  have HX := Lib.hid hx
  clear hcell hg hp hq hcv hab h2n hkn hx2 hc2 hx hn hk hj hjm
  go_enter Try.func35, Try.ntmps35
  go_upto_region 3 with (first | (go_at_call 66; first | (refine (HE2 _).mono ?_; rintro e w' ⟨rfl, rfl⟩) | (refine (HE1 _).mono ?_; rintro e w' ⟨rfl, rfl⟩)))
  clear HE1 HE2 hne
  go_upto_region 4 with fail
  have nd := Blk.new w 128 #[.int .u16 0, .int .u16 0]
  have nB : Below w.heap.size w (w.alloc (.cells #[.int .u16 0, .int .u16 0] 128)) := by go_grown
  have hc0 : ∀ i, i < n → (w.alloc (.cells #[.int .u16 0, .int .u16 0] 128)).cell? ⟨g, 0 + i, none⟩ = some (.int .u8 (b i)) := fun i hi => (nB.cell (p := ⟨g, 0 + i, none⟩) lg).trans (HC.out i hi)
  generalize w.alloc (.cells #[.int .u16 0, .int .u16 0] 128) = W0 at *
  go_upto_region 5 with fail
  have HC0 := Lib.hid hc0
  have e0 : hadV p q 0 = #[.int .u16 0, .int .u16 0] := rfl
  have e1 : hadV p q 1 = #[.int .u16 p, .int .u16 0] := rfl
  have e2 : hadV p q 2 = #[.int .u16 p, .int .u16 q] := rfl
  have E0 := Lib.hid e0
  have E1 := Lib.hid e1
  have E2 := Lib.hid e2
  clear hc0 e0 e1 e2
  (try rw [HBK.out])
  go_loopw [33] (fun iv wr => ∃ i : Nat, i ≤ 2 ∧ iv = .int .i64 i ∧ Hid (Blk wr w.heap.size 128 (hadV p q i)) ∧ Hid (Below w.heap.size w wr)) (fun iv _ => (2 - intOf iv).toNat)
  case atStart => exact ⟨0, by omega, rfl, by rw [E0.out]; exact nd, nB⟩
  case round =>
    clear nd nB HC0
    obtain ⟨i, hi, rfl, HD, HB⟩ := hrel
    have HCR : Hid (∀ i, i < n → wr.cell? ⟨g, 0 + i, none⟩ = some (.int .u8 (b i))) := Lib.hid fun i hi => (HB.out.cell (p := ⟨g, 0 + i, none⟩) lg).trans (HC.out i hi)
    have lr : g < wr.heap.size := by have := HB.out.size; omega
    obtain rfl | rfl | rfl : i = 0 ∨ i = 1 ∨ i = 2 := by omega
    · rw [show ((0 : Nat) : Int) = 0 from rfl]
      have nd := HD.out
      rw [E0.out] at nd
      have f0 := nd.frozen 0
      have c0 := nd.cell 0
      have ld := nd.lt
      simp only [List.getElem?_toArray, List.getElem?_cons_zero] at c0
      have nd' := Lib.hid (nd.put 0 (.int .u16 p))
      have nB' := Lib.hid (HB.out.setCell (p := ⟨w.heap.size, 0, none⟩) (Nat.le_refl _) (.int .u16 p))
      clear nd
      go_wp2_with (first | (refine index_pair _ rfl _ _ rfl 2 k 0 (by decide) rfl rfl ?_; rw [if_pos rfl]) | (go_at_call 26; refine (get_any b g 0 n n 2 2 _ hb HCR.out (by decide) (by decide) H2N.out (Nat.le_refl _) hlen).mono ?_; rintro e w' ⟨rfl, rfl⟩; rw [hp2]))
      go_round
      case rel =>
        refine ⟨1, by omega, rfl, ?_, nB'⟩
        rw [E1.out]
        exact nd'
      case measure => simp [intOf]
    · rw [show ((1 : Nat) : Int) = 1 from rfl]
      have nd := HD.out
      rw [E1.out] at nd
      have f0 := nd.frozen 1
      have c0 := nd.cell 1
      have ld := nd.lt
      simp only [List.getElem?_toArray, List.getElem?_cons_zero, List.getElem?_cons_succ] at c0
      have nd' := Lib.hid (nd.put 1 (.int .u16 q))
      have nB' := Lib.hid (HB.out.setCell (p := ⟨w.heap.size, 1, none⟩) (Nat.le_refl _) (.int .u16 q))
      clear nd
      go_wp2_with (first | (refine index_pair _ rfl _ _ rfl 2 k 1 (by decide) rfl rfl ?_; rw [if_neg (by decide)]) | (go_at_call 26; refine (get_any b g 0 n n k 2 _ hb HCR.out (by decide) (by decide) HKN.out (Nat.le_refl _) hlen).mono ?_; rintro e w' ⟨rfl, rfl⟩; rw [hq2]))
      go_round
      case rel =>
        refine ⟨2, by omega, rfl, ?_, nB'⟩
        rw [E2.out]
        exact nd'
      case measure => simp [intOf]
    · have nd := HD.out
      rw [E2.out] at nd
      go_upto_region 13 with (go_at_call 30; refine (put_any b g 0 n n k 2 x _ hxu HCR.out lr (by decide) (by decide) HX2.out HKN.out hlen).mono ?_; rintro e w1 ⟨h1, rfl, hh1, hb1, hB1⟩)
      replace nd := nd.step hB1
      have nB1 := HB.out.trans (hB1.mono HB.out.size)
      have NB1 := Lib.hid nB1
      have HH1 := Lib.hid hh1
      have HB1 := Lib.hid hb1
      have HS := Lib.hid hB1
      clear nB1 hh1 hb1 hB1
      have q0 := nd.cell 0
      have q1 := nd.cell 1
      have ld := nd.lt
      have l1 := HB1.out.lt
      simp only [List.getElem?_toArray, List.getElem?_cons_zero, List.getElem?_cons_succ] at q0 q1
      clear nd
      go_wp2_with (first | (go_at_call 68; refine (word_any p q x _ pw qw HX.out).mono ?_; rintro e w2 ⟨rfl, hB2⟩; have l2 := HB1.out.lt; have HB2 := Lib.hid hB2; clear hB2) | (go_at_call 67; refine (clean_any (adV p q x) _).mono ?_; rintro e w3 ⟨rfl, rfl⟩) | (go_at_call 30; refine (put_any (putV b k 2 x 2) h1 0 n n 2 2 (cleanV (adV p q x)) _ cu (fun i hi => (HB2.out.cell (p := ⟨h1, 0 + i, none⟩) l1).trans (by rw [Nat.zero_add]; exact (HB1.out.cell i).trans (byA_get _ hi))) (HB1.out.step HB2.out).lt (by decide) (by decide) HC2.out H2N.out hlen).mono ?_; rintro e w4 ⟨h4, rfl, hh4, hb4, hB4⟩))
      go_returns
      refine ⟨_, rfl, ?_, hb4, ?_⟩
      · have a1 := HB2.out.size
        have a2 := HS.out.size
        have a3 := HB.out.size
        omega
      · exact (NB1.out.trans (HB2.out.mono NB1.out.size)).trans (hB4.mono (Nat.le_trans NB1.out.size HB2.out.size))
end Go.Proofs.Ytbcpfgcpekfgiaa
