/- Part of the proof. -/
import Derived.Test.YtiaoaoebghnpkaaProg
import Derived.Shelf.Abstract
import Derived.Shelf.RegionOpen
import Derived.OwnWalkIn
import Derived.TacticsInMore
import Derived.LoopNIn
import Derived.LoopIn
import Derived.Handy
import Derived.Lib.Hide
import Derived.Test.YtiaoaoebghnpkaaKA20
import Derived.Test.YtiaoaoebghnpkaaKA21
/- ratchet's moments, as an iterator. -/
namespace Go.Proofs.Ytiaoaoebghnpkaa
open Go.RowKit Go.Shelf
attribute [local go_sem] Oper.semAt_some

theorem step_any (l : Int) (seen : Bool) (t : Int) (w : World) (hl : U l) (ht : U t) : Calls Try.prog 87 #[.int .u64 l, .bool seen, .int .u64 t] w fun e w' => e = .returned (.tuple #[.int .u64 (nowV l seen t), .int .u64 (dtV l seen t)]) ∧ w = w' := by
  cases seen with
  | false =>
    go_enter Try.func87, Try.ntmps87
    go_wp2
    go_returns
    exact ⟨by simp [nowV, dtV], rfl⟩
  | true =>
    by_cases h : t ≤ l
    · have h' : ¬ l < t := by omega
      go_enter Try.func87, Try.ntmps87
      go_wp2
      go_returns
      exact ⟨by rw [nowV, dtV, if_pos ⟨rfl, h⟩, if_neg (fun q => absurd q.2 (by omega))]; rfl, rfl⟩
    · have h' : l < t := by omega
      have e : IntKind.u64.wrap (t - l) = t - l := by rw [IntKind.wrap_u64]; unfold U at *; omega
      go_enter Try.func87, Try.ntmps87
      go_wp2
      go_returns
      exact ⟨by rw [nowV, dtV, if_neg (fun q => absurd q.2 (by omega)), if_pos ⟨rfl, h'⟩]; rfl, rfl⟩

def momEnc (x : Nat × Int × Int × Int) : Array Value := #[.int .i64 (x.1 : Int), .agg #[.int .u64 x.2.1, .int .u64 x.2.2.1, .int .u64 x.2.2.2]]
theorem grown_set (W : World) (b o : Nat) (v : Value) : W.grownBy (W.setCell ⟨b, o, none⟩ v) (some b) :=
  ⟨rfl, rfl, rfl, by simp, fun k hk hr => Below.heap_setCell W ⟨b, o, none⟩ v k (fun e => hr (by rw [e]))⟩

set_option maxRecDepth 100000 in
set_option maxHeartbeats 4000000 in
theorem moments_seq (n : Nat) (hn : 1 ≤ n) (Bl n₀ : Nat) (ao : Option Addr) (cap : Nat) (l : List Int) (w : World) (hBl : Bl < w.heap.size) (hn₀ : n₀ ≤ w.heap.size) (hc : w.cell? ⟨Bl, 0, none⟩ = some (.slice ao l.length cap))
    (hl : ∀ k, k < l.length → ∃ b off, ao = some ⟨b, off, none⟩ ∧ b < n₀ ∧ w.cell? ⟨b, off + k, none⟩ = some (.int .u64 (l.getD k 0))) (hU : ∀ x ∈ l, U x) (hlen : l.length ≤ 140737488351232) :
    SeqT n Try.prog 88 #[.pointer (some ⟨Bl, 0, none⟩)] momEnc n₀ (fun g => g = w.heap.size + 2) (fun xs => xs = moms l l.length) (fun pre => ∃ k, k ≤ l.length ∧ pre = moms l k) (fun ys => ∃ k, k < l.length ∧ ys = moms l (k + 1)) (w.heap.size + 2) w := by
  intro l0 J Jx W hW hsz hJ hJx hY h0
  obtain ⟨M, hM⟩ : ∃ M, M = w.heap.size + 2 := ⟨_, rfl⟩
  rw [← hM] at hsz hJ hJx hY
  obtain ⟨len, hlen'⟩ : ∃ len, len = l.length := ⟨_, rfl⟩
  rw [← hlen'] at hc hl hlen hY ⊢
  have hcB : W.cell? ⟨Bl, 0, none⟩ = some (.slice ao len cap) := (hW.cell (p := ⟨Bl, 0, none⟩) hBl).trans hc
  have hMn : n₀ ≤ M := by omega
  have HL := Lib.hid hl
  clear hl hc hlen'
  refine callsIn_of_wp Try.func88 rfl trivial ?_ rfl
  simp only [Try.ntmps88, List.size_toArray, List.length_cons, List.length_nil, Nat.reduceAdd, Nat.reduceSub, Array.replicate_succ, Array.replicate_zero, List.push_toArray, List.append_toArray, List.nil_append, List.cons_append]
  have hBW : Bl < W.heap.size := by omega
  have HSZ := Lib.hid hsz
  have HM := Lib.hid hM
  clear hsz hM
  gi_wp2
  have hJ1 : J (moms l 0) (W.alloc (.cells #[.int .u64 0, .int .u64 0, .int .u64 0] 120)) := hJ.alloc _ h0
  have bM := Blk.new W 120 #[.int .u64 0, .int .u64 0, .int .u64 0]
  have hB1 : Below n₀ W (W.alloc (.cells #[.int .u64 0, .int .u64 0, .int .u64 0] 120)) := (Below.refl _ _).alloc (by have := HSZ.out; omega) _
  rw [HSZ.out] at bM ⊢
  gi_loopw [8] (fun i wr => ∃ (k : Nat) (a d : Int), k ≤ len ∧ i = .int .i64 k ∧ J (moms l k) wr ∧ Below n₀ W wr ∧ Blk wr M 120 #[.int .u64 a, .int .u64 (mst l k), .int .u64 d]) (fun i _ => len - (intOf i).toNat)
  case atStart => exact ⟨0, 0, 0, Nat.zero_le _, rfl, hJ1, hB1, bM⟩
  case round =>
    obtain ⟨k, a, d, hk, rfl, hJs, hBs, bm⟩ := hrel
    by_cases hlt : k < len
    · obtain ⟨b, off, rfl, hb, hcell⟩ := HL.out k hlt
      obtain ⟨x, hx⟩ : ∃ x, x = l.getD k 0 := ⟨_, rfl⟩
      rw [← hx] at hcell
      have hbw : b < w.heap.size := by omega
      have hcx : wr.cell? ⟨b, off + k, none⟩ = some (.int .u64 x) := (hBs.cell (p := ⟨b, off + k, none⟩) hb).trans ((hW.cell (p := ⟨b, off + k, none⟩) hbw).trans hcell)
      have ux : U x := by rw [hx]; exact U_getD hU k
      have um : U (mst l k) := U_mst hU k
      have hkk : (k : Int) < len := by omega
      obtain ⟨sb, hsb⟩ : ∃ sb, sb = decide (0 < k) := ⟨_, rfl⟩
      have e1 : decide (0 < k) = sb := hsb.symm
      have hnow : mst l (k + 1) = nowV (mst l k) sb x := by rw [hx, hsb]; rfl
      have hdt : dtt l k = dtV (mst l k) sb x := by rw [hx, hsb]; rfl
      have HX := Lib.hid hx
      have HN := Lib.hid hnow
      have HD := Lib.hid hdt
      have HCL := Lib.hid hcell
      clear hx hnow hdt hsb hcell HL
      obtain ⟨ms, hms⟩ : ∃ ms, ms = mst l k := ⟨_, rfl⟩
      rw [← hms] at um bm HN HD
      have HMS := Lib.hid hms
      clear hms
      obtain ⟨nw, hnw⟩ : ∃ nw, nw = nowV ms sb x := ⟨_, rfl⟩
      obtain ⟨dd, hdd⟩ : ∃ dd, dd = dtV ms sb x := ⟨_, rfl⟩
      have HNW := Lib.hid hnw
      have HDD := Lib.hid hdd
      clear hnw hdd
      have hmom : mom l k = (k, x, nw, dd) := by unfold mom; rw [← HX.out, HN.out, ← HNW.out, HD.out, ← HDD.out]
      have g1 := grown_set wr M 1 (.int .u64 nw)
      have g2 := grown_set (wr.setCell ⟨M, 1, none⟩ (.int .u64 nw)) M 2 (.int .u64 dd)
      have g3 := grown_set ((wr.setCell ⟨M, 1, none⟩ (.int .u64 nw)).setCell ⟨M, 2, none⟩ (.int .u64 dd)) M 0 (.int .u64 x)
      have hJ3 : J (moms l k) (((wr.setCell ⟨M, 1, none⟩ (.int .u64 nw)).setCell ⟨M, 2, none⟩ (.int .u64 dd)).setCell ⟨M, 0, none⟩ (.int .u64 x)) :=
        hJ _ _ _ _ (hJ _ _ _ _ (hJ _ _ _ _ hJs g1 (fun r e => by cases e; rfl)) g2 (fun r e => by cases e; rfl)) g3 (fun r e => by cases e; rfl)
      have hltM := bm.lt
      have bm3 := ((bm.put 1 (.int .u64 nw)).put 2 (.int .u64 dd)).put 0 (.int .u64 x)
      simp only [List.setIfInBounds_toArray, List.set_cons_zero, List.set_cons_succ] at bm3
      have hB3 : Below n₀ W (((wr.setCell ⟨M, 1, none⟩ (.int .u64 nw)).setCell ⟨M, 2, none⟩ (.int .u64 dd)).setCell ⟨M, 0, none⟩ (.int .u64 x)) := ((hBs.setCell (p := ⟨M, 1, none⟩) hMn _).setCell (p := ⟨M, 2, none⟩) hMn _).setCell (p := ⟨M, 0, none⟩) hMn _
      have hlt3 : ∀ g, g = M → g < (((wr.setCell ⟨M, 1, none⟩ (.int .u64 nw)).setCell ⟨M, 2, none⟩ (.int .u64 dd)).setCell ⟨M, 0, none⟩ (.int .u64 x)).heap.size := fun g hg => by rw [hg]; exact bm3.lt
      obtain ⟨fn, tmps, assign, body, hy, hR⟩ := hY _ (k, x, nw, dd) _ hJ3 ⟨k, hlt, by rw [moms_succ, hmom]⟩ hlt3
      dsimp only [momEnc] at hy
      have c0 := bm.cell 0
      have c1 := bm.cell 1
      have c2 := bm.cell 2
      have f0 := bm.frozen 0
      have f1 := bm.frozen 1
      have f2 := bm.frozen 2
      have d0 := bm3.cell 0
      have d1 := bm3.cell 1
      have d2 := bm3.cell 2
      simp only [List.getElem?_toArray, List.getElem?_cons_zero, List.getElem?_cons_succ] at c0 c1 c2 d0 d1 d2
      have BM3 := Lib.hid bm3
      have HJ3 := Lib.hid hJ3
      have HR := Lib.hid hR
      have HMOM := Lib.hid hmom
      clear hJ3 hR g1 g2 g3 hlt3 bm3 hmom
      gi_wp2_with (refine ⟨trivial, ?_⟩; gi_at_call 87; refine (callsIn_wide.2 (step_any _ _ _ _ um ux)).mono ?_; rintro e w' ⟨rfl, rfl⟩; rw [← HNW.out, ← HDD.out])
      have hR := HR.out
      refine hR.mono ?_
      rintro e W4 (⟨rfl, hJ4, hB4, hF4⟩ | ⟨rfl, hJx4⟩)
      · have bm4 : Blk W4 M 120 #[.int .u64 x, .int .u64 nw, .int .u64 dd] := (hF4.2 M rfl).trans BM3.out
        have hB5 := hB3.trans hB4
        clear hB4 hF4 hy c0 c1 c2 f0 f1 f2 d0 d1 d2
        gi_wp2
        go_roundw
        case rel =>
          refine ⟨k + 1, x, dd, by omega, by go_num, ?_, hB5, ?_⟩
          · rw [moms_succ]
            rw [HMOM.out]; exact hJ4
          · rw [HN.out, ← HNW.out]; exact bm4
        case measure => simp [intOf]; omega
      · clear hy c0 c1 c2 f0 f1 f2 d0 d1 d2
        gi_wp2
        refine bodyPost_ret (results_none rfl _ _ _) rfl ?_
        refine ⟨⟨_, rfl⟩, .inr ⟨_, ⟨k + 1, by omega, ?_⟩, hJx4⟩⟩
        rw [moms_succ]
        rw [HMOM.out]
    · obtain rfl : k = len := by omega
      gi_wp2
      go_end0
      exact ⟨⟨_, rfl⟩, .inl ⟨_, rfl, hJs⟩⟩
end Go.Proofs.Ytiaoaoebghnpkaa
