/- onesum's checksums and adjust's, of bytes of an even number, however many. -/
import Derived.Test.YtbcpfgcpekfgiaaSum
namespace Go.Proofs.Ytbcpfgcpekfgiaa
open Go.RowKit Go.Shelf

def W16 (x : Int) : Prop := 0 ≤ x ∧ x ≤ 65535
theorem wrap_w64 {x : Int} (h : W16 x) : IntKind.u64.wrap x = x := by rw [IntKind.wrap_u64]; unfold W16 at h; omega
theorem wrap_w16 {x : Int} (h : W16 x) : IntKind.u16.wrap x = x := by simp [IntKind.wrap, IntKind.bits, IntKind.signed]; unfold W16 at h; omega
theorem bits_xor16 (a b : Nat) (ha : a < 65536) (hb : b < 65536) : Go.bits .xor .u16 (a : Int) (b : Int) = ((a ^^^ b : Nat) : Int) := by
  have ha' : a % 2 ^ IntKind.u16.bits = a := Nat.mod_eq_of_lt ha
  have hb' : b % 2 ^ IntKind.u16.bits = b := Nat.mod_eq_of_lt hb
  have hx : a ^^^ b < 2 ^ 16 := Nat.xor_lt_two_pow ha hb
  simp only [Go.bits, BitVec.ofInt_natCast, BitVec.toNat_xor, BitVec.toNat_ofNat, ha', hb']
  exact wrap_w16 (by unfold W16; omega)
theorem xor_word {x : Int} (h : W16 x) : Go.bits .xor .u16 65535 x = 65535 - x := by
  unfold W16 at h
  obtain ⟨m, rfl⟩ := Int.eq_ofNat_of_zero_le h.1
  have hm : m < 2 ^ 16 := by omega
  have e : (65535 ^^^ m : Nat) = 65535 - m := by
    apply Nat.eq_of_testBit_eq
    intro i
    rw [Nat.testBit_xor, show (65535 : Nat) - m = 2 ^ 16 - (m + 1) from by omega, Nat.testBit_two_pow_sub_succ hm, show (65535 : Nat) = 2 ^ 16 - 1 from rfl, Nat.testBit_two_pow_sub_one]
    by_cases hi : i < 16
    · simp [hi]
    · have : m.testBit i = false := Nat.testBit_lt_two_pow (Nat.lt_of_lt_of_le hm (Nat.pow_le_pow_right (by decide) (by omega)))
      simp [hi, this]
  have e3 : Go.bits .xor .u16 ((65535 : Nat) : Int) (m : Int) = ((65535 ^^^ m : Nat) : Int) := bits_xor16 65535 m (by omega) (by omega)
  rw [show (65535 : Int) = ((65535 : Nat) : Int) from rfl, e3, e]
  omega
set_option maxRecDepth 100000 in
set_option maxHeartbeats 1000000 in
theorem add_any (a c : Int) (w : World) (ha : W16 a) (hc : W16 c) : Calls Try.prog 32 #[.int .u16 a, .int .u16 c] w fun e w' => e = .returned (.int .u16 (foldV (a + c))) ∧ w = w' := by
  have h1 := wrap_w64 ha
  have h2 := wrap_w64 hc
  unfold W16 at ha hc
  go_enter Try.func32, Try.ntmps32
  go_wp2_with (go_at_call 63; refine (fold_any (a + c) _ (by omega) (by omega)).mono ?_; rintro e w' ⟨rfl, rfl⟩)
  go_ret
  exact ⟨rfl, rfl⟩
theorem fold_w {n : Int} (h : 0 ≤ n) : W16 (foldV n) := ⟨(fold_in h).1, (fold_in h).2.1⟩
set_option maxRecDepth 100000 in
set_option maxHeartbeats 1000000 in
theorem check_any (g o cap m : Nat) (b : Nat → Int) (w : World) (hcap : 2 * m ≤ cap) (hg : g < w.heap.size) (hb : ∀ i, isByte (b i)) (hcell : ∀ i, i < 2 * m → w.cell? ⟨g, o + i, none⟩ = some (.int .u8 (b i))) (hlen : 2 * m ≤ 140737488355328) :
    Calls Try.prog 64 #[.slice (some ⟨g, o, none⟩) (2 * m) cap] w fun e w' => e = .returned (.int .u16 (65535 - foldV (wsum b m))) ∧ Below w.heap.size w w' := by
  have HC := Lib.hid hcell
  clear hcell
  have hx : Go.bits .xor .u16 IntKind.u16.max (foldV (wsum b m)) = 65535 - foldV (wsum b m) := by
    rw [show IntKind.u16.max = 65535 from by decide]
    exact xor_word (fold_w (wsum_in hb m).1)
  go_enter Try.func64, Try.ntmps64
  go_wp2_with (go_at_call 65; refine (sum_any g o cap m b _ hcap hg hb HC.out hlen).mono ?_; rintro e w' ⟨rfl, hB⟩)
  go_ret
  exact ⟨rfl, hB⟩
set_option maxRecDepth 100000 in
set_option maxHeartbeats 1000000 in
theorem good_any (g o cap m : Nat) (b : Nat → Int) (w : World) (hcap : 2 * m ≤ cap) (hg : g < w.heap.size) (hb : ∀ i, isByte (b i)) (hcell : ∀ i, i < 2 * m → w.cell? ⟨g, o + i, none⟩ = some (.int .u8 (b i))) (hlen : 2 * m ≤ 140737488355328) (hf : foldV (wsum b m) = 65535) :
    Calls Try.prog 34 #[.slice (some ⟨g, o, none⟩) (2 * m) cap] w fun e w' => e = .returned (.bool true) ∧ Below w.heap.size w w' := by
  have HC := Lib.hid hcell
  clear hcell
  go_enter Try.func34, Try.ntmps34
  go_wp2_with (go_at_call 65; refine (sum_any g o cap m b _ hcap hg hb HC.out hlen).mono ?_; rintro e w' ⟨rfl, hB⟩; rw [hf])
  go_ret
  exact ⟨rfl, hB⟩

theorem putV_byte {b : Nat → Int} (hb : ∀ i, isByte (b i)) (a wd : Nat) (x : Int) : ∀ k i, isByte (putV b a wd x k i)
  | 0, i => hb i
  | k + 1, i => by
    unfold putV upd'
    split
    · unfold isByte; omega
    · exact putV_byte hb a wd x k i
/-- Bytes with a checksum filled in. -/
def zeroB (b : Nat → Int) : Nat → Int := putV b 2 2 0 2
def chkV (b : Nat → Int) (m : Nat) : Int := 65535 - foldV (wsum (zeroB b) m)
def fillB (b : Nat → Int) (m : Nat) : Nat → Int := putV (zeroB b) 2 2 (chkV b m) 2
theorem zeroB_byte {b : Nat → Int} (hb : ∀ i, isByte (b i)) (i : Nat) : isByte (zeroB b i) := putV_byte hb _ _ _ _ _
theorem chk_w {b : Nat → Int} (hb : ∀ i, isByte (b i)) (m : Nat) : W16 (chkV b m) := by
  have := fold_w (wsum_in (zeroB_byte hb) m).1
  unfold W16 at this
  unfold chkV W16
  omega
theorem fillB_byte {b : Nat → Int} (hb : ∀ i, isByte (b i)) (m i : Nat) : isByte (fillB b m i) := putV_byte (zeroB_byte hb) _ _ _ _ _
theorem w_U {x : Int} (h : W16 x) : U x := by unfold W16 at h; unfold U; omega
set_option maxRecDepth 100000 in
set_option maxHeartbeats 4000000 in
theorem fill_any (g o cap m : Nat) (b : Nat → Int) (w : World) (hm : 2 ≤ m) (hg : g < w.heap.size) (hb : ∀ i, isByte (b i)) (hcell : ∀ i, i < 2 * m → w.cell? ⟨g, o + i, none⟩ = some (.int .u8 (b i))) (hlen : 2 * m ≤ 140737488355328) :
    Calls Try.prog 33 #[.slice (some ⟨g, o, none⟩) (2 * m) cap, .int .i64 2] w fun e w' => ∃ h, e = .returned (.tuple #[.slice (some ⟨h, 0, none⟩) (2 * m) (2 * m), .int .i64 0]) ∧ w.heap.size ≤ h ∧ Blk w' h 5 (byA (2 * m) (fillB b m)) ∧ Below w.heap.size w w' := by
  have HC := Lib.hid hcell
  clear hcell
  have hcw := wrap_w64 (chk_w hb m)
  have hcu := w_U (chk_w hb m)
  have hcf : (2 : Nat) < 8 → chkV b m < 256 ^ 2 := fun _ => by have := chk_w hb m; unfold W16 at this; omega
  go_enter Try.func33, Try.ntmps33
  go_upto_region 6 with (go_at_call 30; refine (put_any b g o (2 * m) cap 2 2 0 _ U_zero HC.out hg (by decide) (by decide) (fun _ => by decide) (by omega) hlen).mono ?_; rintro e w1 ⟨h1, rfl, hh1, hb1, hB1⟩)
  have hc1 : ∀ i, i < 2 * m → w1.cell? ⟨h1, 0 + i, none⟩ = some (.int .u8 (zeroB b i)) := fun i hi => by
    rw [Nat.zero_add]
    exact (hb1.cell i).trans (byA_get _ hi)
  have HC1 := Lib.hid hc1
  clear hc1
  have l1 := hb1.lt
  go_wp2_with (go_at_call 64; refine (check_any h1 0 (2 * m) m (zeroB b) _ (Nat.le_refl _) l1 (zeroB_byte hb) HC1.out hlen).mono ?_; rintro e w2 ⟨rfl, hB2⟩; rw [show 65535 - foldV (wsum (zeroB b) m) = chkV b m from rfl])
  have l2 := (hb1.step hB2).lt
  go_wp2_with (go_at_call 30; refine (put_any (zeroB b) h1 0 (2 * m) (2 * m) 2 2 (chkV b m) _ hcu (fun i hi => (hB2.cell (p := ⟨h1, 0 + i, none⟩) l1).trans (HC1.out i hi)) l2 (by decide) (by decide) hcf (by omega) hlen).mono ?_; rintro e w3 ⟨h3, rfl, hh3, hb3, hB3⟩)
  go_returns
  exact ⟨_, rfl, by have := hB1.size; have := hB2.size; omega, hb3, (hB1.trans (hB2.mono hB1.size)).trans (hB3.mono (Nat.le_trans hB1.size hB2.size))⟩
end Go.Proofs.Ytbcpfgcpekfgiaa
