/- onesum's words, as an iterator; and what they come to. -/
import Derived.Test.YtbcpfgcpekfgiaaOctB
import Derived.Test.YtbcpfgcpekfgiaaLooseIn
import Derived.Test.YtbcpfgcpekfgiaaRange
import Derived.Shelf.Abstract
import Derived.Shelf.RegionOpen
import Derived.OwnWalkIn
import Derived.LoopNIn
import Derived.LoopIn
namespace Go.Proofs.Ytbcpfgcpekfgiaa
open Go.RowKit Go.Shelf
attribute [local go_sem] Oper.semAt_some

/-- The i-th word of bytes. -/
def wordV (b : Nat → Int) (i : Nat) : Int := b (2 * i) * 256 + b (2 * i + 1)
def wl (b : Nat → Int) (k : Nat) : List Int := (List.range k).map (wordV b)
theorem wl_succ (b : Nat → Int) (k : Nat) : wl b (k + 1) = wl b k ++ [wordV b k] := by simp [wl, List.range_succ]
theorem wl_length (b : Nat → Int) (k : Nat) : (wl b k).length = k := by simp [wl]
theorem or_word {x y : Int} (hx : isByte x) (hy : isByte y) : Go.bits .or .u16 (IntKind.u16.wrap (x * 256)) y = x * 256 + y := by
  unfold isByte at hx hy
  obtain ⟨m, rfl⟩ := Int.eq_ofNat_of_zero_le hx.1
  obtain ⟨d, rfl⟩ := Int.eq_ofNat_of_zero_le hy.1
  have wr : ∀ z : Int, IntKind.u16.wrap z = z % 65536 := fun z => by simp [IntKind.wrap, IntKind.bits, IntKind.signed]
  have e : IntKind.u16.wrap ((m : Int) * 256) = ((m * 256 : Nat) : Int) := by
    rw [wr]
    omega
  rw [e]
  have h2 : m * 256 < 2 ^ 16 := by omega
  have h3 : d < 2 ^ 16 := by omega
  have e2 := (bits_nat .u16 16 (by decide) (fun n h0 h1 => by rw [wr]; omega) (m * 256) d h2 h3)
  have e3 : Go.bits .or .u16 ((m * 256 : Nat) : Int) (d : Int) = ((m * 256 ||| d : Nat) : Int) := e2.2
  rw [e3]
  have h4 := Nat.two_pow_add_eq_or_of_lt (i := 8) (b := d) (by omega) m
  rw [Nat.mul_comm m 256, show (256 : Nat) = 2 ^ 8 from rfl, ← h4]
  omega
def cellLen (w : World) (B : Nat) : Nat := match w.cell? ⟨B, 0, none⟩ with | some (.slice _ n _) => n | _ => 0
theorem words_any (ao : Option Addr) (n cap : Nat) (w : World) : Calls Try.prog 78 #[.slice ao n cap] w fun e w' => e = .returned (.func (.func 86) #[] #[.pointer (some ⟨w.heap.size, 0, none⟩)]) ∧ w' = w.alloc (.cells #[.slice ao n cap] 59) := by
  go_enter Try.func78, Try.ntmps78
  go_wp2
  go_ret
  exact ⟨rfl, rfl⟩

set_option maxRecDepth 100000 in
set_option maxHeartbeats 4000000 in
theorem words_seq (n : Nat) (hn : 1 ≤ n) (Bl n₀ g o cap m M : Nat) (b : Nat → Int) (w : World) (hnB : n₀ ≤ Bl) (hB : Blk w Bl 59 #[.slice (some ⟨g, o, none⟩) (2 * m) cap]) (hcap : 2 * m ≤ cap) (hg : g < n₀) (hb : ∀ i, isByte (b i))
    (hcell : ∀ i, i < 2 * m → w.cell? ⟨g, o + i, none⟩ = some (.int .u8 (b i))) (hlen : 2 * m ≤ 140737488355328) :
    SeqT n Try.prog 86 #[.pointer (some ⟨Bl, 0, none⟩)] (fun x => #[Value.int .u16 x]) n₀ (fun q => q = Bl) (fun ys => ys = wl b m) (fun pre => ∃ k, k ≤ m ∧ pre = wl b k) (fun ys => ∃ k, k < m ∧ ys = wl b (k + 1)) M w := by
  intro l0 J Jx W hW hsz hJ hJx hY h0
  have hBW := hB.lt
  have HC := Lib.hid hcell
  have HSZ := Lib.hid hsz
  have bB := hB.step hW
  clear hcell hsz
  refine callsIn_of_wp Try.func86 rfl trivial ?_ rfl
  simp only [Try.ntmps86, List.size_toArray, List.length_cons, List.length_nil, Nat.reduceAdd, Nat.reduceSub, Array.replicate_succ, Array.replicate_zero, List.push_toArray, List.append_toArray, List.nil_append, List.cons_append]
  gi_wp2
  gi_loopw [] (fun wr => ∃ (k : Nat) (v : Option Addr) (c : Nat), k ≤ m ∧ (k < m → v = some ⟨g, o + 2 * k, none⟩) ∧ 2 * m - 2 * k ≤ c ∧ Hid (J (wl b k) wr) ∧ Hid (Below n₀ W wr) ∧ Blk wr Bl 59 #[.slice v (2 * m - 2 * k) c]) (fun wr => cellLen wr Bl)
  case atStart => exact ⟨0, _, _, Nat.zero_le _, fun _ => rfl, hcap, Lib.hid h0, Lib.hid (Below.refl _ _), bB⟩
  case round =>
    obtain ⟨k, v, c, hk, hv, hc, HJ, HBe, bl⟩ := hrel
    have lB := bl.lt
    have cB := bl.cell 0
    simp only [List.getElem?_toArray, List.getElem?_cons_zero] at cB
    by_cases hlt : k < m
    · obtain rfl := hv hlt
      have hgw : g < w.heap.size := by omega
      have e0 : wr.cell? ⟨g, o + 2 * k, none⟩ = some (.int .u8 (b (2 * k))) := (HBe.out.cell (p := ⟨g, o + 2 * k, none⟩) hg).trans ((hW.cell (p := ⟨g, o + 2 * k, none⟩) hgw).trans (HC.out (2 * k) (by omega)))
      have e1 : wr.cell? ⟨g, o + 2 * k + 1, none⟩ = some (.int .u8 (b (2 * k + 1))) := (HBe.out.cell (p := ⟨g, o + 2 * k + 1, none⟩) hg).trans ((hW.cell (p := ⟨g, o + 2 * k + 1, none⟩) hgw).trans (HC.out (2 * k + 1) (by omega)))
      have lg : g < wr.heap.size := by omega
      have b0 := hb (2 * k)
      have b1 := hb (2 * k + 1)
      have how := or_word b0 b1
      obtain ⟨x0, hx0⟩ : ∃ x, x = b (2 * k) := ⟨_, rfl⟩
      obtain ⟨x1, hx1⟩ : ∃ x, x = b (2 * k + 1) := ⟨_, rfl⟩
      have hwv : wordV b k = x0 * 256 + x1 := by unfold wordV; rw [hx0, hx1]
      rw [← hx0] at e0 b0 how
      rw [← hx1] at e1 b1 how
      unfold isByte at b0 b1
      have u0 : IntKind.u16.wrap x0 = x0 := by simp [IntKind.wrap, IntKind.bits, IntKind.signed]; omega
      have u1 : IntKind.u16.wrap x1 = x1 := by simp [IntKind.wrap, IntKind.bits, IntKind.signed]; omega
      have how2 : Go.bits .or .u16 (IntKind.u16.wrap (IntKind.u16.wrap x0 * 256)) (IntKind.u16.wrap x1) = x0 * 256 + x1 := by rw [u0, u1]; exact how
      have HOW := Lib.hid how2
      clear how2 how u0 u1
      have HX0 := Lib.hid hx0
      have HX1 := Lib.hid hx1
      have HWV := Lib.hid hwv
      clear hx0 hx1 hwv hv
      obtain ⟨L, hL⟩ : ∃ L, L = 2 * m - 2 * k := ⟨_, rfl⟩
      have hL2 : 2 ≤ L := by omega
      have hLn : L ≤ 140737488355328 := by omega
      rw [← hL] at bl cB hc
      have HL := Lib.hid hL
      clear hL
      have HCL := Lib.hid (show cellLen wr Bl = L by unfold cellLen; rw [cB])
      have hL3 : (1 : Int) < (L : Int) := by omega
      have hL0 : 0 < L := by omega
      have hL1 : 1 < L := by omega
      have hL4 : (0 : Int) < (L : Int) := by omega
      gi_wp2_with fail
      refine wpIn_region_calls 11 (by kernel_rfl) (by kernel_rfl) ?_
      simp only [List.take_succ_cons, List.take_zero, List.drop_succ_cons, List.drop_zero]
      refine walk1_open fun K hK => ?_
      repeat
        apply walk1_value (by rfl)
        · intro W hcl hsz; go_simp; rfl
        simp only [Act.put, List.setIfInBounds_toArray, List.set_cons_zero, List.set_cons_succ]
      refine walk1_nil (hK _ ?_); clear hK K
      intro W3 hW3
      rw [HOW.out, ← HWV.out]
      have g3 : wr.grownBy W3 none := ⟨hW3.os, hW3.tape, hW3.output, hW3.size, fun i hi _ => hW3.block i hi⟩
      have hJ3 := hJ _ _ _ _ HJ.out g3 (fun r e => by cases e)
      have hB3 := HBe.out.trans (hW3.mono (by have := HBe.out.size; omega))
      have bl3 := bl.step hW3
      obtain ⟨fn, tmps, assign, body, hy, hR⟩ := hY _ (wordV b k) W3 hJ3 ⟨k, hlt, by rw [wl_succ]⟩ (fun q hq => by rw [hq]; exact bl3.lt)
      have HR := Lib.hid hR
      have HB3 := Lib.hid hB3
      clear hR hJ3 hB3 g3 hW3 e0 e1 cB bl lB lg
      gi_wp2
      have hR := HR.out
      refine hR.mono ?_
      rintro e W4 (⟨rfl, hJ4, hB4, hF4⟩ | ⟨rfl, hJx4⟩)
      · have bl4 := (hF4.2 Bl rfl).trans bl3
        replace bl4 : Blk W4 Bl 59 #[.slice (some ⟨g, o + 2 * k, none⟩) L c] := bl4
        have hB5 := HB3.out.trans hB4
        rw [← wl_succ] at hJ4
        have c4 := bl4.cell 0
        simp only [List.getElem?_toArray, List.getElem?_cons_zero] at c4
        have f4 := bl4.frozen 0
        have l4 := bl4.lt
        have HB5 := Lib.hid hB5
        have HJ4 := Lib.hid hJ4
        clear hB4 hF4 hy bl3 hB5 hJ4
        by_cases hc2 : c = 2
        · subst hc2
          obtain rfl : L = 2 := by omega
          gi_wp2
          have q := bl4.put 0 (.slice (some ⟨g, o + 2 * k, none⟩) 0 0)
          simp only [List.setIfInBounds_toArray, List.set_cons_zero] at q
          have qc : cellLen (W4.setCell ⟨Bl, 0, none⟩ (.slice (some ⟨g, o + 2 * k, none⟩) 0 0)) Bl = 0 := by
            unfold cellLen
            rw [q.cell 0]
            rfl
          refine ⟨⟨k + 1, some ⟨g, o + 2 * k, none⟩, 0, by omega, fun hk2 => ?_, by have := HL.out; omega, ?_, ?_, ?_⟩, ?_⟩
          · first | (exfalso; have := HL.out; omega) | rfl
          · exact Lib.hid (hJ _ _ _ _ HJ4.out ⟨rfl, rfl, rfl, by simp, fun i _ hr => Below.heap_setCell _ _ _ i (fun e => hr (by rw [e]))⟩ (fun r e => by cases e; rfl))
          · exact Lib.hid (HB5.out.setCell (p := ⟨Bl, 0, none⟩) hnB _)
          · have e : 2 * m - 2 * (k + 1) = 0 := by have := HL.out; omega
            rw [e]
            exact q
          · rw [qc, HCL.out]
            omega
        · have hc3 : 2 < c := by omega
          gi_wp2
          have q := bl4.put 0 (.slice (some ⟨g, o + 2 * k + 2, none⟩) (L - 2) (c - 2))
          simp only [List.setIfInBounds_toArray, List.set_cons_zero] at q
          have qc : cellLen (W4.setCell ⟨Bl, 0, none⟩ (.slice (some ⟨g, o + 2 * k + 2, none⟩) (L - 2) (c - 2))) Bl = (L - 2) := by
            unfold cellLen
            rw [q.cell 0]
            rfl
          refine ⟨⟨k + 1, some ⟨g, o + 2 * k + 2, none⟩, (c - 2), by omega, fun hk2 => ?_, by have := HL.out; omega, ?_, ?_, ?_⟩, ?_⟩
          · first | (exfalso; have := HL.out; omega) | rfl
          · exact Lib.hid (hJ _ _ _ _ HJ4.out ⟨rfl, rfl, rfl, by simp, fun i _ hr => Below.heap_setCell _ _ _ i (fun e => hr (by rw [e]))⟩ (fun r e => by cases e; rfl))
          · exact Lib.hid (HB5.out.setCell (p := ⟨Bl, 0, none⟩) hnB _)
          · have e : 2 * m - 2 * (k + 1) = (L - 2) := by have := HL.out; omega
            rw [e]
            exact q
          · rw [qc, HCL.out]
            omega
      · clear hy
        gi_wp2
        refine bodyPost_ret (results_none rfl _ _ _) rfl ?_
        exact ⟨⟨_, rfl⟩, .inr ⟨_, ⟨k + 1, by omega, by rw [wl_succ]⟩, hJx4⟩⟩
    · obtain rfl : k = m := by omega
      have e0 : 2 * k - 2 * k = 0 := by omega
      rw [e0] at bl cB
      have HH := Lib.hid hv
      clear hv e0
      gi_wp2
      go_end0
      exact ⟨⟨_, rfl⟩, .inl ⟨_, rfl, HJ.out⟩⟩

/-- The sum of the first k words. -/
def wsum (b : Nat → Int) : Nat → Int
  | 0 => 0
  | k + 1 => wsum b k + wordV b k
theorem word_in {b : Nat → Int} (hb : ∀ i, isByte (b i)) (i : Nat) : 0 ≤ wordV b i ∧ wordV b i ≤ 65535 := by
  have h0 := hb (2 * i)
  have h1 := hb (2 * i + 1)
  unfold isByte at h0 h1
  unfold wordV
  omega
theorem wsum_in {b : Nat → Int} (hb : ∀ i, isByte (b i)) : ∀ k, 0 ≤ wsum b k ∧ wsum b k ≤ 65535 * k
  | 0 => ⟨Int.le_refl _, Int.le_refl _⟩
  | k + 1 => by
    have h1 := wsum_in hb k
    have h2 := word_in hb k
    unfold wsum
    omega
/-- A sum, folded into a word: 0 of 0 alone. -/
def foldV (n : Int) : Int := if n = 0 then 0 else (n - 1) % 65535 + 1
theorem fold_small {n : Int} (_h : 0 ≤ n) (h2 : n ≤ 65535) : foldV n = n := by unfold foldV; split <;> omega
theorem fold_step {n : Int} (_h : 0 ≤ n) (h2 : ¬ n ≤ 65535) : foldV (n / 65536 + n % 65536) = foldV n := by unfold foldV; split <;> split <;> omega
theorem fold_in {n : Int} (_h : 0 ≤ n) : 0 ≤ foldV n ∧ foldV n ≤ 65535 ∧ (foldV n = 0 ↔ n = 0) ∧ (n - foldV n) % 65535 = 0 := by unfold foldV; split <;> omega
theorem and_word {x : Int} (h : U x) : Go.bits .and .u64 x 65535 = x % 65536 := by
  obtain ⟨m, rfl⟩ := Int.eq_ofNat_of_zero_le h.1
  have h2 : m < 2 ^ 64 := by have := h.2; omega
  have e2 := (bits_nat .u64 64 (by decide) (fun n h0 h1 => by rw [IntKind.wrap_u64]; omega) m 65535 h2 (by decide))
  have e3 : Go.bits .and .u64 (m : Int) ((65535 : Nat) : Int) = ((m &&& 65535 : Nat) : Int) := e2.1
  rw [show (65535 : Int) = ((65535 : Nat) : Int) from rfl, e3, show (65535 : Nat) = 2 ^ 16 - 1 from rfl, Nat.and_two_pow_sub_one_eq_mod]
  omega
set_option maxRecDepth 100000 in
set_option maxHeartbeats 1000000 in
theorem fold_any (n : Int) (w : World) (h : 0 ≤ n) (h2 : n < 9223372036854775808) : Calls Try.prog 63 #[.int .u64 n] w fun e w' => e = .returned (.int .u16 (foldV n)) ∧ w = w' := by
  obtain ⟨F, hF⟩ : ∃ F, F = foldV n := ⟨_, rfl⟩
  rw [← hF]
  have HF := Lib.hid hF.symm
  clear hF
  go_enter Try.func63, Try.ntmps63
  go_wp2
  go_loop [0] (fun v => ∃ x : Int, v = .int .u64 x ∧ 0 ≤ x ∧ x < 9223372036854775808 ∧ Hid (foldV x = F)) (fun v => (intOf v).toNat)
  case atStart => exact ⟨n, rfl, h, h2, HF⟩
  case round =>
    obtain ⟨x, rfl, h0, h1, HX⟩ := hrel
    by_cases hc : x ≤ 65535
    · have hw : IntKind.u16.wrap x = x := by simp [IntKind.wrap, IntKind.bits, IntKind.signed]; omega
      have e := HX.out
      rw [fold_small h0 hc] at e
      subst e
      go_wp2
      go_ret
      exact ⟨rfl, rfl⟩
    · have hc2 : 65535 < x := by omega
      have ha := and_word (x := x) (by unfold U; omega)
      go_wp2
      go_round
      case rel => exact ⟨x / 65536 + x % 65536, rfl, by omega, by omega, by rw [fold_step h0 hc]; exact HX⟩
      case measure => simp [intOf]; omega
theorem wsum_up (b : Nat → Int) (k : Nat) : wsum b (k + 1) = wsum b k + wordV b k := rfl

set_option maxRecDepth 100000 in
set_option maxHeartbeats 4000000 in
theorem sum_any (g o cap m : Nat) (b : Nat → Int) (w : World) (hcap : 2 * m ≤ cap) (hg : g < w.heap.size) (hb : ∀ i, isByte (b i)) (hcell : ∀ i, i < 2 * m → w.cell? ⟨g, o + i, none⟩ = some (.int .u8 (b i))) (hlen : 2 * m ≤ 140737488355328) :
    Calls Try.prog 65 #[.slice (some ⟨g, o, none⟩) (2 * m) cap] w fun e w' => e = .returned (.int .u16 (foldV (wsum b m))) ∧ Below w.heap.size w w' := by
  have HC := Lib.hid hcell
  clear hcell
  refine (callsIn_wide (n := 3)).1 (callsIn_of_wp_marks Try.func65 rfl trivial (wpIn_wide.2 ?_) rfl)
  simp only [Try.ntmps65, List.size_toArray, List.length_cons, List.length_nil, Nat.reduceAdd, Nat.reduceSub, Array.replicate_succ, Array.replicate_zero, List.push_toArray, List.append_toArray, List.nil_append, List.cons_append]
  go_upto_region 2 with fail
  have m3 := Blk.new w 22 #[.int .u64 0]
  have nB : Below w.heap.size w (w.alloc (.cells #[.int .u64 0] 22)) := by go_grown
  have sz1 : (w.alloc (.cells #[.int .u64 0] 22)).heap.size = w.heap.size + 1 := by simp
  generalize w.alloc (.cells #[.int .u64 0] 22) = W1 at *
  go_wp2_with (go_at_call 78; refine (words_any _ _ _ _).mono ?_; rintro e w' ⟨rfl, rfl⟩)
  have bl : Blk (W1.alloc (.cells #[.slice (some ⟨g, o, none⟩) (2 * m) cap] 59)) W1.heap.size 59 #[.slice (some ⟨g, o, none⟩) (2 * m) cap] := Blk.new W1 _ _
  have m3' := m3.alloc (.cells #[.slice (some ⟨g, o, none⟩) (2 * m) cap] 59)
  have nB' := nB.alloc nB.size (.cells #[.slice (some ⟨g, o, none⟩) (2 * m) cap] 59)
  have sz2 : (W1.alloc (.cells #[.slice (some ⟨g, o, none⟩) (2 * m) cap] 59)).heap.size = w.heap.size + 2 := by simp [sz1]
  rw [sz1] at bl
  clear m3 nB sz1
  generalize W1.alloc (.cells #[.slice (some ⟨g, o, none⟩) (2 * m) cap] 59) = W0 at *
  have sza : w.heap.size + 2 ≤ W0.heap.size := by omega
  have szb : W0.heap.size ≤ w.heap.size + 2 := by omega
  clear sz2
  have hseq := words_seq (3 - 1) (by omega) (w.heap.size + 1) w.heap.size g o cap m (W0.heap.size + 2) b W0 (by omega) bl hcap hg hb (fun i hi => (nB'.cell (p := ⟨g, o + i, none⟩) hg).trans (HC.out i hi)) hlen
  clear bl
  refine wpIn_wide.1 (rangeT (n := 3) (by omega) (gf := 86) (lb := #[.pointer (some ⟨w.heap.size + 1, 0, none⟩)]) rfl (enters_of Try.func86 (by kernel_rfl) rfl) hseq (by omega) (fun q hq => by omega) (fun _ => rfl)
    (fun pre W => Blk W w.heap.size 22 #[.int .u64 (wsum b pre.length)] ∧ Below w.heap.size w W)
    (fun _ _ _ => False)
    ?sI (fun _ _ _ _ _ hs _ _ => hs) ⟨m3', nB'⟩
    (fun x a' _ => a' = { tmps := #[.slice (some ⟨g, o, none⟩) (2 * m) cap, undef, .int .u16 0, .pointer (some ⟨w.heap.size, 0, none⟩), .int .u16 x, .slice (some ⟨g, o, none⟩) (2 * m) cap, .func (.func 86) #[] #[.pointer (some ⟨w.heap.size + 1, 0, none⟩)], .int .u16 x, undef, undef, undef, undef, undef, undef], defers := [] })
    (fun _ _ _ _ _ _ hs _ _ => hs) ?assign ?body ?done ?stop)
  case sI =>
    rintro s A' A'' row ⟨h1, h2⟩ hgr hr'
    have ne : some w.heap.size ≠ row := fun e => by
      have := hr' _ e.symm
      unfold Tw at this
      omega
    exact ⟨(hgr.block _ h1.lt ne).trans h1, h2.grown hgr h2.size (fun k e => by have := hr' k e; unfold Tw at this; omega)⟩
  case assign =>
    rintro l' pre x W K' ⟨h1, h2⟩ hlt hK
    gi_wp2
    exact hK _ _ (Below.refl _ _) ⟨h1, h2⟩ rfl
  case body =>
    rintro l' pre x a' W ⟨h1, h2⟩ rfl ⟨k, hk, hpre⟩ hlt
    rw [wl_succ] at hpre
    obtain ⟨rfl, hx⟩ := List.append_inj' hpre rfl
    obtain rfl : x = wordV b k := by simpa using hx
    rw [wl_length] at h1
    have hw := word_in hb k
    have hs := wsum_in hb k
    have HS := Lib.hid (wsum_up b k)
    obtain ⟨x, hxx⟩ : ∃ x, x = wordV b k := ⟨_, rfl⟩
    obtain ⟨s, hss⟩ : ∃ s, s = wsum b k := ⟨_, rfl⟩
    rw [← hxx] at hw HS ⊢
    rw [← hss] at h1 hs HS
    have hU : s + x < 18446744073709551616 := by omega
    have hw64 : IntKind.u64.wrap x = x := by rw [IntKind.wrap_u64]; omega
    have hT : ∀ q, Tw (fun q => q = w.heap.size + 1) W0.heap.size q → q < W.heap.size ∧ q ≠ w.heap.size := fun q hq => ⟨hlt q hq, by unfold Tw at hq; omega⟩
    have F2 : FarT (Tw (fun q => q = w.heap.size + 1) W0.heap.size) W (W.setCell ⟨w.heap.size, 0, none⟩ (.int .u64 (s + x))) := FarT.set W _ (fun h => (hT _ h).2 rfl)
    have B2 : Below w.heap.size W (W.setCell ⟨w.heap.size, 0, none⟩ (.int .u64 (s + x))) := (Below.refl _ _).setCell (p := ⟨w.heap.size, 0, none⟩) (Nat.le_refl _) _
    have B3 := h2.setCell (p := ⟨w.heap.size, 0, none⟩) (Nat.le_refl _) (.int .u64 (s + x))
    have h1' := h1.put 0 (.int .u64 (s + x))
    simp only [List.setIfInBounds_toArray, List.set_cons_zero] at h1'
    have HH := Lib.hid (And.intro F2 (And.intro B2 (And.intro B3 h1')))
    have c1 := h1.cell 0
    simp only [List.getElem?_toArray, List.getElem?_cons_zero] at c1
    have f1 := h1.frozen 0
    have l1 := h1.lt
    clear F2 B2 B3 h1' h1 hT hlt hpre hx hxx hss
    gi_wp2
    obtain ⟨F2, B2, B3, h1'⟩ := HH.out
    refine ⟨B2, F2, ?_, B3⟩
    rw [List.length_append, wl_length]
    show Blk _ _ _ #[.int .u64 (wsum b (k + 1))]
    rw [HS.out]
    exact h1'
  case done =>
    rintro xs W rfl ⟨h1, h2⟩ hK
    rw [wl_length] at h1
    have hs := wsum_in hb m
    obtain ⟨s, hss⟩ : ∃ s, s = wsum b m := ⟨_, rfl⟩
    rw [← hss] at h1 hs
    have HSS := Lib.hid hss
    clear hss
    have c1 := h1.cell 0
    simp only [List.getElem?_toArray, List.getElem?_cons_zero] at c1
    have l1 := h1.lt
    go_wp2_with (go_at_call 63; refine (fold_any _ _ (by omega) (by omega)).mono ?_; rintro e w' ⟨rfl, rfl⟩)
    refine ⟨by simp, .inl ⟨_, _, rfl, run_takeDeferred hK, ?_⟩⟩
    refine ⟨_, results_tmp rfl _ _ _, by rw [← HSS.out]; rfl, ?_⟩
    exact h2.grown (grown_put W W0.heap.size _) h2.size (fun k e => by cases e; omega)
  case stop =>
    rintro c pre W _ h _
    exact h.elim
end Go.Proofs.Ytbcpfgcpekfgiaa
