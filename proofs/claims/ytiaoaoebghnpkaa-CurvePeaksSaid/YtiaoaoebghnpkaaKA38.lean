/- Part of the proof. -/
import Derived.Test.YtiaoaoebghnpkaaKA37
/- curve's waits, as an iterator. -/
namespace Go.Proofs.Ytiaoaoebghnpkaa
open Go.RowKit Go.Shelf
attribute [local go_sem] Oper.semAt_some

def tims (xs : List (Int × Int)) : List Int := xs.map (·.1)
theorem tims_get (xs : List (Int × Int)) (k : Nat) : (tims xs).getD k 0 = (xs.getD k (0, 0)).1 := by
  unfold tims
  rw [List.getD_eq_getElem?_getD, List.getElem?_map, List.getD_eq_getElem?_getD]
  cases xs[k]? <;> rfl
/-- What waits behind the first k packets. -/
def wq (rate : Int) (xs : List (Int × Int)) : Nat → Int
  | 0 => 0
  | k + 1 => lessV (wq rate xs k) (rate * dtt (tims xs) k) + (xs.getD k (0, 0)).2 * 1000000000
def wEl (rate : Int) (xs : List (Int × Int)) (k : Nat) : Nat × Int := (k, wq rate xs (k + 1))
def wEls (rate : Int) (xs : List (Int × Int)) (k : Nat) : List (Nat × Int) := (List.range k).map (wEl rate xs)
theorem wEls_succ (rate : Int) (xs : List (Int × Int)) (k : Nat) : wEls rate xs (k + 1) = wEls rate xs k ++ [wEl rate xs k] := by simp [wEls, List.range_succ]
theorem wEls_length (rate : Int) (xs : List (Int × Int)) (k : Nat) : (wEls rate xs k).length = k := by simp [wEls]
def wEnc (x : Nat × Int) : Array Value := #[.int .i64 (x.1 : Int), .agg #[.int .u64 (hi x.2), .int .u64 (lo x.2)]]

theorem waits_any (ao : Option Addr) (n cap : Nat) (rate : Int) (w : World) : Calls Try.prog 38 #[.slice ao n cap, .int .u64 rate] w fun e w' => e = .returned (.func (.func 67) #[] #[.pointer (some ⟨w.heap.size + 1, 0, none⟩), .pointer (some ⟨w.heap.size, 0, none⟩)]) ∧ w' = (w.alloc (.cells #[.slice ao n cap] 22)).alloc (.cells #[.int .u64 rate] 23) := by
  go_enter Try.func38, Try.ntmps38
  go_wp2
  go_ret
  exact ⟨rfl, rfl⟩

set_option maxRecDepth 100000 in
set_option maxHeartbeats 4000000 in
theorem waits_seq (n : Nat) (hn : 1 ≤ n) (Br Bl n₀ : Nat) (ao : Option Addr) (cap : Nat) (rate : Int) (xs : List (Int × Int)) (w : World) (hBr : Br < w.heap.size) (hBl : Bl < w.heap.size) (hn₀ : n₀ ≤ w.heap.size) (hcr : w.cell? ⟨Br, 0, none⟩ = some (.int .u64 rate)) (hc : w.cell? ⟨Bl, 0, none⟩ = some (.slice ao xs.length cap))
    (hl : ∀ k, k < xs.length → ∃ b off, ao = some ⟨b, off, none⟩ ∧ b < n₀ ∧ w.cell? ⟨b, off + k * 2, none⟩ = some (.int .u64 (xs.getD k (0, 0)).1) ∧ w.cell? ⟨b, off + k * 2 + 1, none⟩ = some (.int .i64 (xs.getD k (0, 0)).2)) (hr : U rate) (hU : ∀ p ∈ xs, U p.1 ∧ U p.2) (hV : ∀ k, k ≤ xs.length → V (wq rate xs k)) (hlen : xs.length ≤ 140737488351232) :
    SeqT n Try.prog 67 #[.pointer (some ⟨Br, 0, none⟩), .pointer (some ⟨Bl, 0, none⟩)] wEnc n₀ (fun g => g = w.heap.size + 2) (fun ys => ys = wEls rate xs xs.length) (fun pre => ∃ k, k ≤ xs.length ∧ pre = wEls rate xs k) (fun ys => ∃ k, k < xs.length ∧ ys = wEls rate xs (k + 1)) (w.heap.size + 2) w := by
  intro l0 J Jx W hW hsz hJ hJx hY h0
  obtain ⟨M, hM⟩ : ∃ M, M = w.heap.size + 2 := ⟨_, rfl⟩
  rw [← hM] at hsz hJ hJx hY
  obtain ⟨len, hlen'⟩ : ∃ len, len = xs.length := ⟨_, rfl⟩
  rw [← hlen'] at hc hl hlen hY hV ⊢
  have hcB : W.cell? ⟨Bl, 0, none⟩ = some (.slice ao len cap) := (hW.cell (p := ⟨Bl, 0, none⟩) hBl).trans hc
  have hcR : W.cell? ⟨Br, 0, none⟩ = some (.int .u64 rate) := (hW.cell (p := ⟨Br, 0, none⟩) hBr).trans hcr
  have hMn : n₀ ≤ M := by omega
  have HL := Lib.hid hl
  have HV := Lib.hid hV
  have HLE := Lib.hid hlen'
  clear hl hc hlen' hcr hV
  refine callsIn_of_wp Try.func67 rfl trivial ?_ rfl
  simp only [Try.ntmps67, List.size_toArray, List.length_cons, List.length_nil, Nat.reduceAdd, Nat.reduceSub, Array.replicate_succ, Array.replicate_zero, List.push_toArray, List.append_toArray, List.nil_append, List.cons_append]
  have hBW : Bl < W.heap.size := by omega
  have hBRW : Br < W.heap.size := by omega
  have HSZ := Lib.hid hsz
  have HM := Lib.hid hM
  clear hsz hM
  gi_wp2
  have hJ1 : J (wEls rate xs 0) (W.alloc (.cells #[.int .u64 rate, .int .u64 0, .bool false, .int .u64 0, .int .u64 0] 109)) := hJ.alloc _ h0
  have bM := Blk.new W 109 #[.int .u64 rate, .int .u64 0, .bool false, .int .u64 0, .int .u64 0]
  have hB1 : Below n₀ W (W.alloc (.cells #[.int .u64 rate, .int .u64 0, .bool false, .int .u64 0, .int .u64 0] 109)) := (Below.refl _ _).alloc (by have := HSZ.out; omega) _
  rw [HSZ.out] at bM ⊢
  gi_loopw [11] (fun i wr => ∃ k : Nat, k ≤ len ∧ i = .int .i64 k ∧ J (wEls rate xs k) wr ∧ Below n₀ W wr ∧ Blk wr M 109 #[.int .u64 rate, .int .u64 (mst (tims xs) k), .bool (decide (0 < k)), .int .u64 (hi (wq rate xs k)), .int .u64 (lo (wq rate xs k))]) (fun i _ => len - (intOf i).toNat)
  case atStart => exact ⟨0, Nat.zero_le _, rfl, hJ1, hB1, bM⟩
  case round =>
    obtain ⟨k, hk, rfl, hJs, hBs, bm⟩ := hrel
    by_cases hlt : k < len
    · obtain ⟨b, off, rfl, hb, hcell0, hcell1⟩ := HL.out k hlt
      obtain ⟨p, hp⟩ : ∃ p, p = xs.getD k (0, 0) := ⟨_, rfl⟩
      rw [← hp] at hcell0 hcell1
      have hup : U p.1 ∧ U p.2 := by
        rw [hp, List.getD_eq_getElem?_getD, List.getElem?_eq_getElem (by rw [← HLE.out]; exact hlt)]
        exact hU _ (List.getElem_mem _)
      have hdt : dtt (tims xs) k = dtV (mst (tims xs) k) (decide (0 < k)) p.1 := by
        unfold dtt
        rw [tims_get, hp]
      have hnw : mst (tims xs) (k + 1) = nowV (mst (tims xs) k) (decide (0 < k)) p.1 := by
        show nowV (mst (tims xs) k) (decide (0 < k)) ((tims xs).getD k 0) = _
        rw [tims_get, hp]
      have hwq : wq rate xs (k + 1) = lessV (wq rate xs k) (rate * dtV (mst (tims xs) k) (decide (0 < k)) p.1) + p.2 * 1000000000 := by
        show lessV (wq rate xs k) (rate * dtt (tims xs) k) + (xs.getD k (0, 0)).2 * 1000000000 = _
        rw [hdt, hp]
      have um : U (mst (tims xs) k) := U_mst (fun x hx => by
        obtain ⟨q, hq, rfl⟩ := List.mem_map.1 hx
        exact (hU q hq).1) k
      have vk := HV.out k hk
      have hbw : b < w.heap.size := by omega
      have hcx0 : wr.cell? ⟨b, off + k * 2, none⟩ = some (.int .u64 p.1) := (hBs.cell (p := ⟨b, off + k * 2, none⟩) hb).trans ((hW.cell (p := ⟨b, off + k * 2, none⟩) hbw).trans hcell0)
      have hcx1 : wr.cell? ⟨b, off + k * 2 + 1, none⟩ = some (.int .i64 p.2) := (hBs.cell (p := ⟨b, off + k * 2 + 1, none⟩) hb).trans ((hW.cell (p := ⟨b, off + k * 2 + 1, none⟩) hbw).trans hcell1)
      obtain ⟨t, sz⟩ := p
      dsimp only at hcell0 hcell1 hup hdt hnw hwq hcx0 hcx1
      have hkk : (k : Int) < len := by omega
      have HP := Lib.hid hp
      have HDT := Lib.hid hdt
      have HNW := Lib.hid hnw
      have HWQ := Lib.hid hwq
      clear hp hdt hnw hwq hcell0 hcell1
      have hJ2 := hJ.alloc (.cells #[.int .u64 t, .int .i64 sz] 68) hJs
      have bm2 := bm.alloc (.cells #[.int .u64 t, .int .i64 sz] 68)
      have bM2 := hBs.alloc (show n₀ ≤ wr.heap.size by have := bm.lt; omega) (.cells #[.int .u64 t, .int .i64 sz] 68)
      have hM2 := bm2.lt
      have hcome := come_any M rate (mst (tims xs) k) (decide (0 < k)) (wq rate xs k) t sz (wr.alloc (.cells #[.int .u64 t, .int .i64 sz] 68)) hr um vk hup.1 hup.2 bm2
      rw [← HWQ.out, ← HNW.out] at hcome
      have HC := Lib.hid hcome
      clear hcome
      gi_wp2_with fail
      refine ⟨trivial, ?_⟩
      refine (callsIn_wide.2 HC.out).mono ?_
      rintro e W3 ⟨rfl, bm3, hG⟩
      have hJ3 : J (wEls rate xs k) W3 := hJ _ _ _ _ hJ2 hG (fun r e => by cases e; rfl)
      have hB3 : Below n₀ W W3 := bM2.grown hG (by omega) (fun j e => by cases e; exact hMn)
      obtain ⟨fn, tmps, assign, body, hy, hR⟩ := hY _ (k, wq rate xs (k + 1)) _ hJ3 ⟨k, hlt, by rw [wEls_succ]; rfl⟩ (fun g hg => by rw [hg]; exact bm3.lt)
      dsimp only [wEnc] at hy
      have HR := Lib.hid hR
      clear hR hJ2 bm2 bM2 HC hM2 hcx0 hcx1 bm hBs hJs
      gi_wp2
      have hR := HR.out
      refine hR.mono ?_
      rintro e W4 (⟨rfl, hJ4, hB4, hF4⟩ | ⟨rfl, hJx4⟩)
      · have bm4 := (hF4.2 M rfl).trans bm3
        have hB5 := hB3.trans hB4
        clear hB4 hF4 hy bm3
        gi_wp2
        go_roundw
        case rel =>
          refine ⟨k + 1, by omega, by go_num, ?_, hB5, ?_⟩
          · rw [wEls_succ]; exact hJ4
          · rw [decide_eq_true (show 0 < k + 1 by omega)]
            exact bm4
        case measure => simp [intOf]; omega
      · clear hy
        gi_wp2
        refine bodyPost_ret (results_none rfl _ _ _) rfl ?_
        exact ⟨⟨_, rfl⟩, .inr ⟨_, ⟨k + 1, by omega, by rw [wEls_succ]; rfl⟩, hJx4⟩⟩
    · obtain rfl : k = len := by omega
      gi_wp2
      go_end0
      exact ⟨⟨_, rfl⟩, .inl ⟨_, rfl, hJs⟩⟩
end Go.Proofs.Ytiaoaoebghnpkaa
