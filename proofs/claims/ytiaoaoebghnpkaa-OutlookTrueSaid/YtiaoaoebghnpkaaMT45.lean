/- Part of the proof. -/
import Derived.Test.YtiaoaoebghnpkaaMT42
import Derived.Test.YtiaoaoebghnpkaaMT44
/- The law OutlookTrue: what its code computes, as the print tells it, is true. -/
namespace Go.Proofs.Ytiaoaoebghnpkaa.P
open Go.RowKit Go.Proofs.YtiaoaoebghnpkaaW.PrintWords Go.Proofs.YtiaoaoebghnpkaaW.PrintLast Go.Proofs.YtiaoaoebghnpkaaW.PrintMore

theorem live_now (n : Nat) : weighbridgelaw30_live.f n = some true := rfl
theorem wrap_here {x : Int} (h : I64 x) : wrap64 x = x := by unfold I64 at h; unfold wrap64; omega
theorem otrue_l3 {xs l out : List Int} (hl : l.length = xs.length) (ho : out.length = xs.length) (hx : xs.length ≤ 1000) (hz : ∀ j, out.getD j 0 = 0) (hm : ∀ j, j + 1 < xs.length → l.getD j 0 ≤ l.getD (j + 1) 0) :
    ∀ d i, i + d = xs.length → Ev (fun n => oTrue.l3 n xs l out (i : Int)) true
  | 0, i, hi => by
    refine Ev.step (f := fun _ => some true) (fun n => ?_) (Ev.now true)
    simp only [oTrue.l3]
    rw [if_neg (by omega), live_now]
    simp only [Option.bind_some, if_true]
    rw [if_pos (by omega)]
    congr 1
    rw [beq_iff_eq]
    omega
  | d + 1, i, hi => by
    refine Ev.step (f := fun n => oTrue.l3 n xs l out ((i + 1 : Nat) : Int)) (fun n => ?_) (otrue_l3 hl ho hx hz hm d (i + 1) (by omega))
    simp only [oTrue.l3]
    rw [if_pos (by omega), if_pos (by omega), rd_nat, hz i, if_pos rfl]
    by_cases h0 : i = 0
    · rw [if_neg (by omega), wrap_up (show i < xs.length by omega) (by omega)]
    · rw [if_pos (by omega), if_pos (by omega)]
      obtain ⟨j, rfl⟩ : ∃ j, i = j + 1 := ⟨i - 1, by omega⟩
      have e : wrap64 (((j + 1 : Nat) : Int) - 1) = (j : Int) := by rw [wrap_here (by unfold I64; omega)]; omega
      have := hm j (by omega)
      rw [e, if_pos (by omega), if_pos (by omega), rd_nat, rd_nat, if_neg (by omega), wrap_up (show j + 1 < xs.length by omega) (by omega)]
def allS (l xs : List Int) (i : Nat) : List S68 := (List.range i).map fun j => ⟨l.getD j 0, xs.getD j 0⟩
theorem allS_succ (l xs : List Int) (i : Nat) : allS l xs (i + 1) = allS l xs i ++ [⟨l.getD i 0, xs.getD i 0⟩] := by unfold allS; rw [List.range_succ, List.map_append]; rfl
theorem allS_length (l xs : List Int) (i : Nat) : (allS l xs i).length = i := by unfold allS; rw [List.length_map, List.length_range]
theorem allS_zip {l xs : List Int} (hl : l.length = xs.length) : (allS l xs xs.length).map pairG = List.zip l xs := by
  apply List.ext_getElem?
  intro j
  rcases Nat.lt_or_ge j xs.length with hj | hj
  · unfold allS
    rw [List.getElem?_map, List.getElem?_map, List.getElem?_range hj]
    simp [pairG, hj, hl]
  · rw [List.getElem?_eq_none (by rw [List.length_map, allS_length]; exact hj), List.getElem?_eq_none (by simp; omega)]
theorem otrue_l2 {k : Int} {a : Bool} {r p b x : Int} {xs l out : List Int} {r0 r1 r2 : Int} {r3 : Bool} (hl : l.length = xs.length) (hx : xs.length ≤ 1000) (hz : ∀ j, out.getD j 0 = 0) (hol : out.length = xs.length) (hm : ∀ j, j + 1 < xs.length → l.getD j 0 ≤ l.getD (j + 1) 0)
    (hrun : meter_Run.f k a r p b x (allS l xs xs.length) [] = some (out, r0, r1, r2, r3)) :
    ∀ d i, i + d = xs.length → Ev (fun n => oTrue.l2 n xs l (allS l xs i) (i : Int) k a r p b x) true
  | 0, i, hi => by
    refine Ev.step (f := fun n => oTrue.j7 n xs l (allS l xs i) k a r p b x) (fun n => ?_) ?_
    · simp only [oTrue.l2]
      rw [if_neg (by omega)]
    · obtain rfl : i = xs.length := by omega
      refine Ev.step (f := fun n => oTrue.l3 n xs l out ((0 : Nat) : Int)) (fun n => ?_) (otrue_l3 hl hol hx hz hm xs.length 0 (by omega))
      simp only [oTrue.j7]
      rw [hrun]
      rfl
  | d + 1, i, hi => by
    refine Ev.step (f := fun n => oTrue.l2 n xs l (allS l xs (i + 1)) ((i + 1 : Nat) : Int) k a r p b x) (fun n => ?_) (otrue_l2 hl hx hz hol hm hrun d (i + 1) (by omega))
    simp only [oTrue.l2]
    rw [if_pos (by omega), if_pos (by omega), if_pos (by omega), if_pos (by rw [allS_length]; omega), rd_nat, rd_nat, ← allS_succ, wrap_up (show i < xs.length by omega) (by omega)]
/-- Behind the loop over the colours. -/
theorem otrue_rest {k : Int} {a : Bool} {r p b x s0 s1 s2 : Int} {s3 : Bool} {xs : List Int} {want : Int} (hc : chkM k r p b x = 0) (hr : U r) (hp : U p) (hb : U b) (hx : U x) (hxs : ∀ z ∈ xs, 0 ≤ z ∧ z ≤ 65535) (hle : xs.length ≤ 30) :
    Ev (fun n => oTrue.j3 n xs want false k a r p b x s0 s1 s2 s3) true := by
  obtain ⟨l, f0, f1, hv⟩ : ∃ l f0 f1, paceV k a r p b x 0 xs = (l, f0, f1) := ⟨_, _, _, rfl⟩
  have hp' := pace_eq (k := k) (a := a) (want := 0) hb hx hr hp (fun z hz => by have := hxs z hz; unfold I64; omega) (show xs.length ≤ 1000000 by omega)
  rw [hv] at hp'
  refine Ev.step (f := fun n => (outlook_Pace.f n k a r p b x xs 0).bind fun bt133 => (if (!(bt133.2.1 == 0) || (!(bt133.2.2 == 0))) = true then ((weighbridgelaw30_live.f n).bind fun t139 => (if t139 = true then (if bt133.2.1 = 8 then (some ((bt133.1.length : Int) == 0)) else (none)) else (none))) else (oTrue.l2 n xs bt133.1 ([] : List (S68)) 0 k a r p b x))) (fun n => ?_) ?_
  · simp only [oTrue.j3]
    rw [if_neg (by simp)]
  · refine Ev.bind hp' ?_
    dsimp only
    rcases paceV_true hc hr hp hb hx hxs hv with ⟨rfl, rfl⟩ | ⟨rfl, rfl, hl, hm, _, r0, r1, r2, r3, out, hrun, hz⟩
    · refine Ev.congr (fun n => ?_) (Ev.now true)
      rw [if_pos (by simp), live_now]
      simp
    · refine Ev.congr (f := fun n => oTrue.l2 n xs l (allS l xs 0) ((0 : Nat) : Int) k a r p b x) (fun n => ?_) ?_
      · rw [if_neg (by simp)]
        rfl
      · have hol : out.length = xs.length := by
          have := mrun_length _ hrun
          dsimp only at this
          rw [this, ovr_len]
        refine otrue_l2 (out := out) (r0 := r0) (r1 := r1) (r2 := r2) (r3 := r3) hl (by omega) hz hol hm ?_ xs.length 0 (by omega)
        unfold meter_Run.f
        rw [if_pos (by rw [allS_length]; omega), mnew_eq k a r p b x hb hx, hc]
        simp only [newS, if_true, Option.bind_some]
        rw [allS_zip hl, allS_length, hrun]
        rfl
theorem otrue_l1 {k : Int} {a : Bool} {r p b x s0 s1 s2 : Int} {s3 : Bool} {xs : List Int} (hc : chkM k r p b x = 0) (hr : U r) (hp : U p) (hb : U b) (hx : U x) (h0 : U s0) (h1 : U s1) (h2 : U s2) (hxs : ∀ z ∈ xs, 0 ≤ z ∧ z ≤ 65535) (hle : xs.length ≤ 30) :
    ∀ (d want : Nat), want + d = 3 → Ev (fun n => oTrue.l1 n xs (want : Int) k a r p b x s0 s1 s2 s3) true
  | 0, want, hw => by
    refine Ev.step (f := fun n => oTrue.j3 n xs (want : Int) false k a r p b x s0 s1 s2 s3) (fun n => ?_) (otrue_rest hc hr hp hb hx hxs hle)
    simp only [oTrue.l1]
    rw [if_neg (by omega)]
  | d + 1, want, hw => by
    by_cases hn : xs.length = 0
    · refine Ev.step (f := fun n => oTrue.j3 n xs (want : Int) false k a r p b x s0 s1 s2 s3) (fun n => ?_) (otrue_rest hc hr hp hb hx hxs hle)
      simp only [oTrue.l1]
      rw [if_pos (by omega), show decide ((xs.length : Int) > 0) = false from decide_eq_false (by omega)]
    · have hrec := otrue_l1 (a := a) (s3 := s3) hc hr hp hb hx h0 h1 h2 hxs hle d (want + 1) (by omega)
      have hsz : 0 ≤ xs.getD 0 0 ∧ xs.getD 0 0 ≤ 65535 := by
        rw [List.getD_eq_getElem?_getD, List.getElem?_eq_getElem (by omega)]
        exact hxs _ (List.getElem_mem _)
      have hsi : I64 (xs.getD 0 0) := by unfold I64; omega
      have e0 : rd xs 0 = xs.getD 0 0 := rd_nat xs 0
      have ew : wrap64 ((want : Int) + 1) = ((want + 1 : Nat) : Int) := wrap_up (show want < 4 by omega) (by omega)
      obtain ⟨T, v, hv⟩ : ∃ T v, outWhen k r p b x s0 s1 s2 s3 (xs.getD 0 0) (want : Int) = (T, v) := ⟨_, _, rfl⟩
      have hW := fun n => outWhen_eq n k a r p b x s0 s1 s2 s3 (xs.getD 0 0) (want : Int) hb hx h0 h1 h2 hr hp hsi
      rw [hv] at hW
      dsimp only at hW
      obtain ⟨K, hK⟩ := hrec
      cases v with
      | false =>
        have hn := never_true (a := a) hc hr hp h2 hsz.1 (by omega) (by omega) hv 9223372036854775808 (by unfold U; omega)
        have hst := mstep_eq k a r p b x s0 s1 s2 s3 9223372036854775808 (xs.getD 0 0) 0 hr hp hb hx h0 h1 h2 (by unfold U; omega) hsi
        refine ⟨K + 5, fun n hn' => ?_⟩
        obtain ⟨m, rfl⟩ : ∃ m, n = m + 5 := ⟨n - 5, by omega⟩
        simp only [oTrue.l1]
        rw [if_pos (by omega), show decide ((xs.length : Int) > 0) = true from decide_eq_true (by omega)]
        simp only [oTrue.j3, if_true]
        rw [if_pos (by omega), e0, hW]
        simp only [Option.bind_some]
        rw [if_neg (by simp), hst]
        simp only [Option.bind_some]
        rw [if_neg (by omega), ew]
        exact hK (m + 3) (by omega)
      | true =>
        obtain ⟨uT, g1, g2, g3, g4⟩ := told_true (a := a) hc hr hp h2 hsz.1 (by omega) (by omega) hv
        have hst := mstep_eq k a r p b x s0 s1 s2 s3 T (xs.getD 0 0) 0 hr hp hb hx h0 h1 h2 uT hsi
        have hj5 : ∀ m, K ≤ m → ∀ c : Bool, (c = true → 0 < T ∧ s2 < T) → oTrue.j5 (m + 1) xs (want : Int) T c k a r p b x s0 s1 s2 s3 = some true := by
          intro m hm c hc'
          simp only [oTrue.j5]
          cases c with
          | false =>
            rw [if_neg (by simp), ew]
            exact hK m hm
          | true =>
            obtain ⟨t1, t2⟩ := hc' rfl
            have uT1 : U (T - 1) := by unfold U at *; omega
            rw [if_pos rfl, if_pos (by omega), e0, wrap_in uT1, mstep_eq k a r p b x s0 s1 s2 s3 (T - 1) (xs.getD 0 0) 0 hr hp hb hx h0 h1 h2 uT1 hsi]
            simp only [Option.bind_some]
            rw [if_neg (by have := g4 t1 t2; omega), ew]
            exact hK m hm
        have hj4 : ∀ m, K ≤ m → oTrue.j4 (m + 2) xs (want : Int) T false k a r p b x s0 s1 s2 s3 = some true := by
          intro m hm
          simp only [oTrue.j4]
          rw [if_neg (by simp)]
          by_cases ht : T > 0
          · rw [if_pos ht]
            exact hj5 m hm _ fun h => ⟨ht, by simpa using h⟩
          · rw [if_neg ht]
            exact hj5 m hm _ fun h => by cases h
        refine ⟨K + 5, fun n hn' => ?_⟩
        obtain ⟨m, rfl⟩ : ∃ m, n = m + 5 := ⟨n - 5, by omega⟩
        simp only [oTrue.l1]
        rw [if_pos (by omega), show decide ((xs.length : Int) > 0) = true from decide_eq_true (by omega)]
        simp only [oTrue.j3, if_true]
        rw [if_pos (by omega), e0, hW]
        simp only [Option.bind_some, if_true]
        rw [hst]
        simp only [Option.bind_some]
        rw [if_neg (by omega)]
        cases s3 with
        | true =>
          rw [if_pos rfl, if_neg (by have := g1 rfl; omega)]
          exact hj4 (m + 1) (by omega)
        | false =>
          rw [if_neg (by simp), show decide (T > 0) = false by rw [g2 rfl]; rfl]
          exact hj4 (m + 1) (by omega)
theorem otrue_l0 {k : Int} {a : Bool} {r p b x s0 s1 s2 : Int} {s3 : Bool} {xs : List Int} (hc : chkM k r p b x = 0) (hr : U r) (hp : U p) (hb : U b) (hx : U x) (h0 : U s0) (h1 : U s1) (h2 : U s2) (hxs : ∀ z ∈ xs, 0 ≤ z ∧ z ≤ 65535) (hle : xs.length ≤ 30) :
    ∀ d i, i + d = xs.length → Ev (fun n => oTrue.l0 n xs (xs.take i) (i : Int) k a r p b x s0 s1 s2 s3) true
  | 0, i, hi => by
    refine Ev.step (f := fun n => oTrue.l1 n xs ((0 : Nat) : Int) k a r p b x s0 s1 s2 s3) (fun n => ?_) (otrue_l1 hc hr hp hb hx h0 h1 h2 hxs hle 3 0 rfl)
    simp only [oTrue.l0]
    rw [if_neg (by omega), List.take_of_length_le (by omega)]
    rfl
  | d + 1, i, hi => by
    refine Ev.step (f := fun n => oTrue.l0 n xs (xs.take (i + 1)) ((i + 1 : Nat) : Int) k a r p b x s0 s1 s2 s3) (fun n => ?_) (otrue_l0 hc hr hp hb hx h0 h1 h2 hxs hle d (i + 1) (by omega))
    have hi' : i < xs.length := by omega
    have hg : xs.getD i 0 = xs[i] := by rw [List.getD_eq_getElem?_getD, List.getElem?_eq_getElem hi']; rfl
    have hs := hxs xs[i] (List.getElem_mem hi')
    simp only [oTrue.l0]
    rw [if_pos (by omega), if_pos (by omega), if_pos (by rw [List.length_take]; omega), rd_nat, hg, wrap_here (by unfold I64; omega), wrap_up hi' (by omega), ← List.take_succ_eq_append_getElem hi']
/-- The law is true. -/
theorem otrue_ev {k : Int} {a : Bool} {r p b x s0 s1 s2 : Int} {s3 : Bool} {xs : List Int} (hr : U r) (hp : U p) (hb : U b) (hx : U x) (h0 : U s0) (h1 : U s1) (h2 : U s2) (hxs : ∀ z ∈ xs, 0 ≤ z ∧ z ≤ 65535) :
    Ev (fun n => oTrue.f n k a r p b x s0 s1 s2 s3 xs) true := by
  have hlive : Ev (fun n => oTrue.j0 n xs true k a r p b x s0 s1 s2 s3) true := by
    refine Ev.step (f := fun _ => some true) (fun n => ?_) (Ev.now true)
    simp only [oTrue.j0, if_true, live_now, Option.bind_some]
  by_cases hc : chkM k r p b x = 0
  · by_cases hl : xs.length ≤ 30
    · refine Ev.congr (f := fun n => oTrue.j0 n xs false k a r p b x s0 s1 s2 s3) (fun n => ?_) ?_
      · unfold oTrue.f
        rw [mcheck_eq k a r p b x hb hx, hc]
        simp only [Option.bind_some, if_true]
        rw [show decide ((xs.length : Int) > 30) = false by simp; omega]
      · refine Ev.step (f := fun n => oTrue.l0 n xs (xs.take 0) ((0 : Nat) : Int) k a r p b x s0 s1 s2 s3) (fun n => ?_) (otrue_l0 hc hr hp hb hx h0 h1 h2 hxs hl xs.length 0 (by omega))
        simp only [oTrue.j0]
        rw [if_neg (by simp)]
        rfl
    · refine Ev.congr (f := fun n => oTrue.j0 n xs true k a r p b x s0 s1 s2 s3) (fun n => ?_) hlive
      unfold oTrue.f
      rw [mcheck_eq k a r p b x hb hx, hc]
      simp only [Option.bind_some, if_true]
      rw [show decide ((xs.length : Int) > 30) = true by simp; omega]
  · refine Ev.congr (f := fun n => oTrue.j0 n xs true k a r p b x s0 s1 s2 s3) (fun n => ?_) hlive
    unfold oTrue.f
    rw [mcheck_eq k a r p b x hb hx]
    simp only [Option.bind_some]
    rw [if_neg hc]
end Go.Proofs.Ytiaoaoebghnpkaa.P
