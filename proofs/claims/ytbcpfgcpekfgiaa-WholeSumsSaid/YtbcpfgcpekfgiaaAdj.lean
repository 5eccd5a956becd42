/- adjust: a word put at a place of bytes, made up for in their checksum. -/
import Derived.Test.YtbcpfgcpekfgiaaOnes
namespace Go.Proofs.Ytbcpfgcpekfgiaa
open Go.RowKit Go.Shelf

theorem even_bit (k : Nat) (h : 2 * k < 9223372036854775808) : Go.bits .and .i64 ((2 * k : Nat) : Int) 1 = 0 := by
  have h2 : 2 * k < 2 ^ 63 := by omega
  have e2 := (bits_nat .i64 63 (by decide) (fun n h0 h1 => by rw [IntKind.wrap_i64]; omega) (2 * k) 1 h2 (by decide)).1
  have e : (2 * k) &&& 1 = 0 := by rw [Nat.and_one_is_mod]; omega
  rw [e] at e2
  exact e2
set_option maxRecDepth 100000 in
set_option maxHeartbeats 1000000 in
theorem even_any (k : Nat) (w : World) (h : 2 * k < 9223372036854775808) : Calls Try.prog 66 #[.int .i64 ((2 * k : Nat) : Int)] w fun e w' => e = .returned (.bool true) ∧ w = w' := by
  have hb := even_bit k h
  generalize hn : (2 * k : Nat) = n at *
  have h0 : (0 : Int) ≤ (n : Int) := by omega
  go_enter Try.func66, Try.ntmps66
  go_wp2
  go_ret
  exact ⟨rfl, rfl⟩
def cleanV (c : Int) : Int := if c = 65535 then 0 else c
set_option maxRecDepth 100000 in
set_option maxHeartbeats 1000000 in
theorem clean_any (c : Int) (w : World) : Calls Try.prog 67 #[.int .u16 c] w fun e w' => e = .returned (.int .u16 (cleanV c)) ∧ w = w' := by
  go_enter Try.func67, Try.ntmps67
  by_cases h : c = 65535
  · subst h
    go_wp2
    go_ret
    exact ⟨rfl, rfl⟩
  · have e : cleanV c = c := if_neg h
    rw [e]
    go_wp2
    go_ret
    exact ⟨rfl, rfl⟩
/-- Words added in order. -/
def addV (a x y : Int) : Nat → Int
  | 0 => a
  | 1 => foldV (a + x)
  | _ => foldV (foldV (a + x) + y)
set_option maxRecDepth 100000 in
set_option maxHeartbeats 1000000 in
theorem added_any (a x y : Int) (g : Nat) (w : World) (ha : W16 a) (hx : W16 x) (hy : W16 y) (hg : Blk w g 69 #[.int .u16 x, .int .u16 y]) :
    Calls Try.prog 79 #[.int .u16 a, .slice (some ⟨g, 0, none⟩) 2 2] w fun e w' => e = .returned (.int .u16 (foldV (foldV (a + x) + y))) ∧ w = w' := by
  have c0 := hg.cell 0
  have c1 := hg.cell 1
  have l0 := hg.lt
  simp only [List.getElem?_toArray, List.getElem?_cons_zero, List.getElem?_cons_succ] at c0 c1
  have f1 : 0 ≤ a + x := by unfold W16 at *; omega
  have f2 := fold_w f1
  have f3 : 0 ≤ foldV (a + x) + y := by unfold W16 at *; omega
  go_enter Try.func79, Try.ntmps79
  go_wp2
  go_loop [0, 9] (fun av iv => ∃ i : Nat, i ≤ 2 ∧ iv = .int .i64 i ∧ av = .int .u16 (addV a x y i)) (fun _ iv => (2 - intOf iv).toNat)
  case atStart => exact ⟨0, by omega, rfl, rfl⟩
  case round =>
    obtain ⟨i, hi, rfl, rfl⟩ := hrel
    obtain rfl | rfl | rfl : i = 0 ∨ i = 1 ∨ i = 2 := by omega
    · rw [show addV a x y 0 = a from rfl]
      go_wp2_with (go_at_call 32; refine (add_any a x _ ha hx).mono ?_; rintro e w' ⟨rfl, rfl⟩)
      go_round
      case rel => exact ⟨1, by omega, rfl, rfl⟩
      case measure => simp [intOf]
    · rw [show addV a x y 1 = foldV (a + x) from rfl]
      go_wp2_with (go_at_call 32; refine (add_any (foldV (a + x)) y _ f2 hy).mono ?_; rintro e w' ⟨rfl, rfl⟩)
      go_round
      case rel => exact ⟨2, by omega, rfl, rfl⟩
      case measure => simp [intOf]
    · rw [show addV a x y 2 = foldV (foldV (a + x) + y) from rfl]
      go_wp2
      go_ret
      exact ⟨rfl, rfl⟩
theorem neg_w {x : Int} (h : W16 x) : W16 (65535 - x) := by unfold W16 at *; omega
theorem xor_max {x : Int} (h : W16 x) : Go.bits .xor .u16 IntKind.u16.max x = 65535 - x := by
  rw [show IntKind.u16.max = 65535 from by decide]
  exact xor_word h
def adV (c o x : Int) : Int := 65535 - foldV (foldV ((65535 - c) + (65535 - o)) + x)
theorem adV_w {c o x : Int} (hc : W16 c) (ho : W16 o) (hx : W16 x) : W16 (adV c o x) := by
  have h1 := neg_w hc
  have h2 := neg_w ho
  have h3 : W16 (foldV ((65535 - c) + (65535 - o))) := fold_w (by unfold W16 at h1 h2; omega)
  have h4 : W16 (foldV (foldV ((65535 - c) + (65535 - o)) + x)) := fold_w (by unfold W16 at h3 hx; omega)
  exact neg_w h4
set_option maxRecDepth 100000 in
set_option maxHeartbeats 1000000 in
theorem word_any (c o x : Int) (w : World) (hc : W16 c) (ho : W16 o) (hx : W16 x) : Calls Try.prog 68 #[.int .u16 c, .int .u16 o, .int .u16 x] w fun e w' => e = .returned (.int .u16 (adV c o x)) ∧ Below w.heap.size w w' := by
  have h1 := neg_w hc
  have h2 := neg_w ho
  have h3 : W16 (foldV ((65535 - c) + (65535 - o))) := fold_w (by unfold W16 at h1 h2; omega)
  have h4 : W16 (foldV (foldV ((65535 - c) + (65535 - o)) + x)) := fold_w (by unfold W16 at h3 hx; omega)
  have e1 := xor_max hc
  have e2 := xor_max ho
  have e3 : Go.bits .xor .u16 IntKind.u16.max (foldV (foldV ((65535 - c) + (65535 - o)) + x)) = adV c o x := xor_max h4
  generalize adV c o x = R at *
  generalize hA : 65535 - c = A at *
  generalize hO : 65535 - o = O at *
  go_enter Try.func68, Try.ntmps68
  have hb := Blk.new w 69 #[.int .u16 O, .int .u16 x]
  have hB : Below w.heap.size w (w.alloc (.cells #[.int .u16 O, .int .u16 x] 69)) := by go_grown
  clear hc ho h3 h4 hA hO
  have HA := added_any A O x w.heap.size _ h1 h2 hx hb
  generalize foldV (foldV (A + O) + x) = Z at *
  have hif : (if IntKind.u16.signed = true then (-1 : Int) else IntKind.u16.max) = IntKind.u16.max := by decide
  go_wp2_with (go_at_call 79; (try simp only [hif, e1, e2]); refine HA.mono ?_; clear HA; rintro e w' ⟨rfl, rfl⟩)
  go_ret
  exact ⟨rfl, hB⟩
/-- Bytes with the word at 2 j another one, and their checksum made up. -/
def adjC (b : Nat → Int) (j : Nat) (x : Int) : Int := cleanV (adV (wordV b 1) (wordV b j) x)
def adjB (b : Nat → Int) (j : Nat) (x : Int) : Nat → Int := putV (putV b (2 * j) 2 x 2) 2 2 (adjC b j x) 2
theorem clean_w {c : Int} (h : W16 c) : W16 (cleanV c) := by
  unfold cleanV
  split
  · unfold W16; omega
  · exact h
theorem word_w {b : Nat → Int} (hb : ∀ i, isByte (b i)) (j : Nat) : W16 (wordV b j) := word_in hb j
theorem adjC_w {b : Nat → Int} (hb : ∀ i, isByte (b i)) (j : Nat) {x : Int} (hx : W16 x) : W16 (adjC b j x) := clean_w (adV_w (word_w hb 1) (word_w hb j) hx)
theorem adjB_byte {b : Nat → Int} (hb : ∀ i, isByte (b i)) (j : Nat) (x : Int) (i : Nat) : isByte (adjB b j x i) := putV_byte (putV_byte hb _ _ _ _) _ _ _ _ _
theorem be_word (b : Nat → Int) (a j : Nat) (h : a = 2 * j) : be (fun i => b (a + i)) 2 = wordV b j := by
  subst h
  simp [be, wordV]
def hadV (p q : Int) (i : Nat) : Array Value := #[.int .u16 (if 0 < i then p else 0), .int .u16 (if 1 < i then q else 0)]
set_option maxRecDepth 100000 in
theorem run_pair0 (x y : Int) (w : World) : (Instr.index 129 (.agg #[.int .i64 x, .int .i64 y]) (.int .i64 0)).run Try.prog w = .ok (.int .i64 x) w := by kernel_rfl
set_option maxRecDepth 100000 in
theorem run_pair1 (x y : Int) (w : World) : (Instr.index 129 (.agg #[.int .i64 x, .int .i64 y]) (.int .i64 1)).run Try.prog w = .ok (.int .i64 y) w := by kernel_rfl
theorem index_pair {ops : Array Oper} {rest : List Oper} {o : Oper} {a : Act} {Q : Exit → Act → World → Prop} (w : World) (hgd : o.guard = none) (xo io : Operand) (ho : o.op = .index 129 xo io)
    (x y : Int) (i : Nat) (hi : i < 2) (hx : a.eval xo = .agg #[.int .i64 x, .int .i64 y]) (hv : a.eval io = .int .i64 (i : Int)) (h : wpList Try.prog ops Q rest (a.put o.dst (.int .i64 (if i = 0 then x else y))) w) :
    wpList Try.prog ops Q (o :: rest) a w := by
  refine wpList_plain hgd fun K hK => ?_
  have hrun : (Instr.index 129 (.agg #[.int .i64 x, .int .i64 y]) (.int .i64 (i : Int))).run Try.prog w = .ok (.int .i64 (if i = 0 then x else y)) w := by
    have : i = 0 ∨ i = 1 := by omega
    rcases this with h | h <;> subst h
    · exact run_pair0 x y w
    · exact run_pair1 x y w
  unfold Oper.wp
  simp [execOp, ho, hx, hv, hrun, Result.andThen]
  exact hK _ _ h
end Go.Proofs.Ytbcpfgcpekfgiaa
