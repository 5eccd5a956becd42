/- Packets that came in, as a list; what a step leaves is words. -/
import Derived.Test.YtkefamalcmglgaaOpen
import Derived.Test.YtkefamalcmglgaaPureS
import Derived.Test.YtkefamalcmglgaaPF9
import Derived.Test.YtkefamalcmglgaaRatC
namespace Go.Proofs.Ytkefamalcmglgaa.P
open Go.ChangeShapes Go.WideShapes Go.ChangeAt Go.RowKit Go.Proofs.YtkefamalcmglgaaW.PrintWords Go.Proofs.YtkefamalcmglgaaW.PrintLast Go.Proofs.YtkefamalcmglgaaW.PrintMore

theorem stepS_U {k : Int} {a : Bool} {r p b x s0 s1 s2 : Int} {s3 : Bool} {t size pre : Int} (hr : U r) (hb : U b) (hx : U x) (h0 : U s0) (h1 : U s1) (h2 : U s2) (ht : U t) :
    let q := if chkS k r p b x ≠ 0 ∨ size < 0 then (s0, s1, s2, s3, (2 : Int)) else stepS a r b x s0 s1 s2 s3 t size pre
    U q.1 ∧ U q.2.1 ∧ U q.2.2.1 := by
  intro q
  by_cases hc : chkS k r p b x ≠ 0 ∨ size < 0
  · simp only [q, if_pos hc]; exact ⟨h0, h1, h2⟩
  · simp only [q, if_neg hc]
    obtain ⟨_, _, _, kb, kx⟩ := chkS_ok (show chkS k r p b x = 0 by omega)
    obtain ⟨_, ub, _⟩ := nano_in hb kb
    obtain ⟨_, ux, _⟩ := nano_in hx kx
    have hV := V_mul hr (U_dt (seen := s3) h2 ht)
    obtain ⟨_, _, vs, u1⟩ := put_bounds h0 ub hV
    obtain ⟨u2, _, _⟩ := two_bounds h1 ux vs.1
    have tk : ∀ l s, U l → U (takeV l s) := fun l s hl => by
      unfold takeV
      rcases Bool.eq_false_or_eq_true (canV l s) with e | e
      · rw [if_pos e]
        unfold canV at e
        have := U_need s
        simp only [Bool.and_eq_true, decide_eq_true_eq] at e
        unfold U at *; omega
      · rw [if_neg (by simp [e])]; exact hl
    unfold stepS paintS
    simp only []
    refine ⟨?_, ?_, U_now h2 ht⟩
    · split
      · exact tk _ _ u1
      · split <;> exact u1
    · split
      · exact u2
      · split
        · exact tk _ _ u2
        · exact u2

def okA (p : S28) : Prop := U p.f0 ∧ I64 p.f1 ∧ I64 p.f2
theorem rd_ok {xs : List S28} (h : ∀ p ∈ xs, okA p) {i : Nat} (hi : i < xs.length) : okA (rd_T28 xs i) := by
  unfold rd_T28
  rw [Int.toNat_natCast, List.getD_eq_getElem?_getD, List.getElem?_eq_getElem hi]
  exact h _ (List.getElem_mem hi)
theorem wrap_next {i n : Nat} (h : i < n) (hn : n ≤ 1000000) : wrap64 ((i : Int) + 1) = ((i + 1 : Nat) : Int) := by
  unfold wrap64; omega

/-- A slice of packets that came in, as a list. -/
theorem asked_list {w : World} {ao : Option Addr} {n : Nat} (hmax : n ≤ 9223372036854775807)
    (hL : ∀ k, k < n → ∃ (b off : Nat) (cs : List Value), ao = some ⟨b, off, none⟩ ∧ b < w.heap.size ∧ cellsOk [some .u64, some .i64, some .i64] cs ∧ ∀ i, i < 3 → w.cell? ⟨b, off + k * 3 + i, none⟩ = cs[i]?) :
    ∃ xs : List S28, xs.length = n ∧ (∀ p ∈ xs, okA p) ∧ Kd.C k28 w ao n xs := by
  obtain ⟨xs, hl, hx⟩ := list_of (R := fun k (p : S28) => okA p ∧ ∃ b off, ao = some ⟨b, off, none⟩ ∧ ∀ i u, [Value.int .u64 p.f0, .int .i64 p.f1, .int .i64 p.f2][i]? = some u → w.cell? ⟨b, off + k * 3 + i, none⟩ = some u) n fun k hk => by
    obtain ⟨b, off, cs, hao, _, hcs, hcell⟩ := hL k hk
    obtain ⟨_, _, rfl, ⟨z0, rfl, w0⟩, _, _, rfl, ⟨z1, rfl, w1⟩, _, _, rfl, ⟨z2, rfl, w2⟩, rfl⟩ := hcs
    refine ⟨⟨z0, z1, z2⟩, ⟨U_wf w0, I64_wf w1, I64_wf w2⟩, b, off, hao, fun i u hu => ?_⟩
    have hi : i < 3 := by
      have := (List.getElem?_eq_some_iff.1 hu).1
      simpa using this
    rw [hcell i hi]
    exact hu
  refine ⟨xs, hl, fun p hp => ?_, hl, hmax, fun hn => ?_⟩
  · obtain ⟨j, hj, rfl⟩ := List.mem_iff_getElem.1 hp
    exact (hx j _ (List.getElem?_eq_getElem hj)).1
  · obtain ⟨b, off, _, hao, _⟩ := hL 0 hn
    refine ⟨⟨b, off, none⟩, hao, fun j p hj => ⟨[.int .u64 p.f0, .int .i64 p.f1, .int .i64 p.f2], rfl, k28_mk w p, fun i u hu => ?_⟩⟩
    obtain ⟨_, b', off', hao', hc⟩ := hx j p hj
    rw [hao] at hao'
    obtain ⟨rfl, rfl⟩ : b = b' ∧ off = off' := by simpa using hao'
    rw [add_mk, ← Nat.add_assoc]
    exact hc i u hu


/-! ### What one step does with a time that is told otherwise -/
theorem now_now (l : Int) (s : Bool) (t : Int) : nowV l s (nowV l s t) = nowV l s t := by
  unfold nowV
  by_cases h : s = true ∧ t ≤ l
  · rw [if_pos h, if_pos ⟨h.1, Int.le_refl _⟩]
  · rw [if_neg h, if_neg h]
theorem dt_now (l : Int) (s : Bool) (t : Int) : dtV l s (nowV l s t) = dtV l s t := by
  unfold nowV dtV
  by_cases h : s = true ∧ t ≤ l
  · rw [if_pos h, if_neg (by omega), if_neg (by omega)]
  · rw [if_neg h]
theorem now_add (l d : Int) (s : Bool) (t : Int) : nowV (l + d) s (t + d) = nowV l s t + d := by
  unfold nowV
  by_cases h : s = true ∧ t ≤ l
  · rw [if_pos h, if_pos ⟨h.1, by omega⟩]
  · rw [if_neg h, if_neg (fun hh => h ⟨hh.1, by omega⟩)]
theorem dt_add (l d : Int) (s : Bool) (t : Int) : dtV (l + d) s (t + d) = dtV l s t := by
  unfold dtV
  by_cases h : s = true ∧ l < t
  · rw [if_pos h, if_pos ⟨h.1, by omega⟩]; omega
  · rw [if_neg h, if_neg (fun hh => h ⟨hh.1, by omega⟩)]
theorem stepS_dt (a : Bool) (r b x s0 s1 l l' : Int) (s : Bool) (t t' size pre : Int) (h : dtV l s t = dtV l' s t') :
    stepS a r b x s0 s1 l' s t' size pre = ((stepS a r b x s0 s1 l s t size pre).1, (stepS a r b x s0 s1 l s t size pre).2.1, nowV l' s t', true, (stepS a r b x s0 s1 l s t size pre).2.2.2.2) := by
  unfold stepS
  rw [← h]

theorem sstep_ev (k : Int) (a : Bool) (r p b x s0 s1 s2 : Int) (s3 : Bool) (t size pre : Int) (hr : U r) (hb : U b) (hx : U x) (h0 : U s0) (h1 : U s1) (h2 : U s2) (ht : U t) (hs : I64 size) (hc : chkS k r p b x = 0) (hn : 0 ≤ size) :
    Ev (fun n => single_Step.f n k a r p b x s0 s1 s2 s3 t size pre) (stepS a r b x s0 s1 s2 s3 t size pre) := ⟨1, fun n hk => by
  obtain ⟨d, rfl⟩ : ∃ d, n = d + 1 := ⟨n - 1, by omega⟩
  show single_Step.f (d + 1) k a r p b x s0 s1 s2 s3 t size pre = _
  rw [sstep_eq d _ _ _ _ _ _ _ _ _ _ _ _ _ hr hb hx h0 h1 h2 ht hs, if_neg (by omega)]⟩
theorem chk_ev : Ev (fun n => (single_Check.f n 0 false 0 0 0 0).bind fun t => some (t == 10)) true := ⟨1, fun n hk => by
  obtain ⟨d, rfl⟩ : ∃ d, n = d + 1 := ⟨n - 1, by omega⟩
  show ((single_Check.f (d + 1) 0 false 0 0 0 0).bind fun t => some (t == 10)) = _
  rw [scheck_eq d _ _ _ _ _ _ U_zero U_zero]
  rfl⟩

abbrev AS := S28
/-- The times of the first j packets. -/
def tmT (xs : List AS) (j : Nat) : List Int := (List.range j).map fun i : Nat => (rd_T28 xs (i : Int)).f0
theorem tmT_succ (xs : List AS) (j : Nat) : tmT xs (j + 1) = tmT xs j ++ [(rd_T28 xs (j : Int)).f0] := by simp [tmT, List.range_succ]
theorem tmT_length (xs : List AS) (j : Nat) : (tmT xs j).length = j := by simp [tmT]
theorem tmT_get (xs : List AS) (n j : Nat) (h : j < n) : (tmT xs n).getD j 0 = (rd_T28 xs (j : Int)).f0 := by
  unfold tmT
  rw [List.getD_eq_getElem?_getD, List.getElem?_map, List.getElem?_range h]
  rfl
theorem tmT_U {xs : List AS} (hwf : ∀ p ∈ xs, okA p) : ∀ y ∈ tmT xs xs.length, U y := fun y hy => by
  unfold tmT at hy
  obtain ⟨i, hi, rfl⟩ := List.mem_map.1 hy
  exact (rd_ok hwf (by simpa using hi)).1
theorem runL_get (l : List Int) (j : Nat) (h : j < l.length) : rd (runL l) (j : Int) = mst l (j + 1) := by
  unfold rd runL
  rw [Int.toNat_natCast, List.getD_eq_getElem?_getD, List.getElem?_map, List.getElem?_range h]
  rfl

set_option maxHeartbeats 1000000 in
theorem clock_l1 (xs : List AS) (hwf : ∀ p ∈ xs, okA p) (hsz : ∀ p ∈ xs, 0 ≤ p.f1) (hlen : xs.length ≤ 100) (dd : Int) (hdd : U dd) (k : Int) (a : Bool) (r p b x : Int) (hr : U r) (hb : U b) (hx : U x) (hc : chkS k r p b x = 0) :
    ∀ (d j : Nat) (la : Bool) (o w uo uw ul : Int) (us : Bool), j + d = xs.length → U o → U w →
    (la = true → uo = o ∧ uw = w ∧ us = decide (0 < j) ∧ U ul ∧ (0 < j → ul = mst (tmT xs xs.length) j + dd)) →
    Ev (fun n => weighbridgetop_WholeClock.l1 n xs dd (runL (tmT xs xs.length)) la (j : Int) k a r p b x o w (mst (tmT xs xs.length) j) (decide (0 < j)) o w (mst (tmT xs xs.length) j) (decide (0 < j)) uo uw ul us) true
  | 0, j, la, o, w, uo, uw, ul, us, hj, ho, hw, hu => by
    refine Ev.step (fun n => ?_) chk_ev
    simp only [weighbridgetop_WholeClock.l1]
    rw [if_neg (show ¬ ((j : Int) < (xs.length : Int)) by omega)]
  | d + 1, j, la, o, w, uo, uw, ul, us, hj, ho, hw, hu => by
    have hlt : j < xs.length := by omega
    have hT := tmT_U hwf
    obtain ⟨T, hTd⟩ : ∃ T, T = tmT xs xs.length := ⟨_, rfl⟩
    have hTl : T.length = xs.length := by rw [hTd]; exact tmT_length _ _
    have hTg : T.getD j 0 = (rd_T28 xs (j : Int)).f0 := by rw [hTd]; exact tmT_get xs _ j hlt
    have hrec := clock_l1 xs hwf hsz hlen dd hdd k a r p b x hr hb hx hc d (j + 1)
    rw [← hTd] at hT hrec hu ⊢
    obtain ⟨w0, w1, w2⟩ := rd_ok hwf hlt
    have hs0 : 0 ≤ (rd_T28 xs (j : Int)).f1 := by
      unfold rd_T28
      rw [Int.toNat_natCast, List.getD_eq_getElem?_getD, List.getElem?_eq_getElem hlt]
      exact hsz _ (List.getElem_mem hlt)
    obtain ⟨P, hP⟩ : ∃ P, P = rd_T28 xs (j : Int) := ⟨_, rfl⟩
    rw [← hP] at w0 w1 w2 hs0 hTg
    have hm := U_mst hT j
    have hm1 := U_mst hT (j + 1)
    have em : nowV (mst T j) (decide (0 < j)) P.f0 = mst T (j + 1) := by rw [← hTg]; rfl
    obtain ⟨q, hq⟩ : ∃ q, q = stepS a r b x o w (mst T j) (decide (0 < j)) P.f0 P.f1 P.f2 := ⟨_, rfl⟩
    have hqU := stepS_U (k := k) (a := a) (p := p) (s3 := decide (0 < j)) (size := P.f1) (pre := P.f2) hr hb hx ho hw hm w0
    rw [if_neg (show ¬ (chkS k r p b x ≠ 0 ∨ P.f1 < 0) by omega), ← hq] at hqU
    obtain ⟨u0, u1, _⟩ := hqU
    have q22 : q.2.2.1 = mst T (j + 1) := by rw [hq, ← em]; rfl
    have q23 : q.2.2.2.1 = decide (0 < j + 1) := by rw [hq, show decide (0 < j + 1) = true from by simp]; rfl
    have e1 := sstep_ev k a r p b x o w (mst T j) (decide (0 < j)) P.f0 P.f1 P.f2 hr hb hx ho hw hm w0 w1 hc hs0
    have e2 := sstep_ev k a r p b x o w (mst T j) (decide (0 < j)) (mst T (j + 1)) P.f1 P.f2 hr hb hx ho hw hm hm1 w1 hc hs0
    have e3 : stepS a r b x o w (mst T j) (decide (0 < j)) (mst T (j + 1)) P.f1 P.f2 = q := by
      rw [stepS_dt a r b x o w (mst T j) (mst T j) (decide (0 < j)) P.f0 (mst T (j + 1)) P.f1 P.f2 (by rw [← em, dt_now]), ← hq, ← em, now_now, em, ← q22, show (true : Bool) = q.2.2.2.1 from by rw [q23]; simp]
    rw [e3] at e2
    rw [← hq] at e1
    -- one round, as it is told
    refine Ev.step (f := fun n => (single_Step.f n k a r p b x o w (mst T j) (decide (0 < j)) P.f0 P.f1 P.f2).bind fun bt124 => (single_Step.f n k a r p b x o w (mst T j) (decide (0 < j)) (mst T (j + 1)) P.f1 P.f2).bind fun bt132 => if bt124.2.2.2.2 = bt132.2.2.2.2 then (if bt124.1 = bt132.1 then (weighbridgetop_WholeClock.j3 n xs dd (runL T) la (j : Int) bt124.2.2.2.2 (bt124.2.1 != bt132.2.1) k a r p b x bt124.1 bt124.2.1 bt124.2.2.1 bt124.2.2.2.1 bt132.1 bt132.2.1 bt132.2.2.1 bt132.2.2.2.1 uo uw ul us) else (weighbridgetop_WholeClock.j3 n xs dd (runL T) la (j : Int) bt124.2.2.2.2 true k a r p b x bt124.1 bt124.2.1 bt124.2.2.1 bt124.2.2.2.1 bt132.1 bt132.2.1 bt132.2.2.1 bt132.2.2.2.1 uo uw ul us)) else (weighbridgetop_WholeClock.j3 n xs dd (runL T) la (j : Int) bt124.2.2.2.2 true k a r p b x bt124.1 bt124.2.1 bt124.2.2.1 bt124.2.2.2.1 bt132.1 bt132.2.1 bt132.2.2.1 bt132.2.2.2.1 uo uw ul us)) (fun n => ?_) ?_
    · simp only [weighbridgetop_WholeClock.l1]
      have q1 : (j : Int) < ((runL T).length : Int) := by rw [runL_length, hTl]; omega
      rw [if_pos (show (j : Int) < (xs.length : Int) by omega), if_pos (show (0 : Int) ≤ (j : Int) by omega), ← hP]
      simp only [if_pos q1]
      rw [runL_get T j (by omega)]
    refine Ev.bind e1 (Ev.bind e2 ?_)
    refine Ev.congr (fun n => if_pos rfl) (Ev.congr (fun n => if_pos rfl) ?_)
    rw [bne_self_eq_false, q22, q23]
    -- the later one
    cases la with
    | false =>
      refine Ev.step (f := fun n => weighbridgetop_WholeClock.j4 n xs dd (runL T) false (j : Int) q.2.2.2.2 k a r p b x q.1 q.2.1 (mst T (j + 1)) (decide (0 < j + 1)) q.1 q.2.1 (mst T (j + 1)) (decide (0 < j + 1)) uo uw ul us) (fun n => ?_) ?_
      · simp only [weighbridgetop_WholeClock.j3]
        rw [if_neg (by simp), if_neg (by simp)]
      refine Ev.step (fun n => ?_) (hrec false q.1 q.2.1 uo uw ul us (by omega) u0 u1 (fun h => by simp at h))
      simp only [weighbridgetop_WholeClock.j4]
      rw [if_neg (by simp), wrap_next hlt (by omega)]
    | true =>
      obtain ⟨rfl, rfl, rfl, hul, hum⟩ := hu rfl
      refine Ev.step (f := fun n => weighbridgetop_WholeClock.j4 n xs dd (runL T) (decide (IntKind.u64.wrap (P.f0 + dd) ≥ dd)) (j : Int) q.2.2.2.2 k a r p b x q.1 q.2.1 (mst T (j + 1)) (decide (0 < j + 1)) q.1 q.2.1 (mst T (j + 1)) (decide (0 < j + 1)) uo uw ul (decide (0 < j))) (fun n => ?_) ?_
      · simp only [weighbridgetop_WholeClock.j3]
        rw [if_neg (by simp), if_pos trivial, if_pos (show (0 : Int) ≤ (j : Int) by omega), if_pos (show (j : Int) < (xs.length : Int) by omega), ← hP]
      by_cases hov : P.f0 + dd < 18446744073709551616
      · have ew : IntKind.u64.wrap (P.f0 + dd) = P.f0 + dd := by
          rw [wrap_lo, lo_of_U]; unfold U at *; omega
        have wU : U (P.f0 + dd) := by unfold U at *; omega
        have ed : dtV ul (decide (0 < j)) (P.f0 + dd) = dtV (mst T j) (decide (0 < j)) P.f0 := by
          rcases Nat.eq_zero_or_pos j with rfl | h0
          · unfold dtV; rw [if_neg (by simp), if_neg (by simp)]
          · rw [hum h0, dt_add]
        have en : nowV ul (decide (0 < j)) (P.f0 + dd) = mst T (j + 1) + dd := by
          rw [← em]
          rcases Nat.eq_zero_or_pos j with rfl | h0
          · unfold nowV; rw [if_neg (by simp), if_neg (by simp)]
          · rw [hum h0, now_add]
        have e4 := sstep_ev k a r p b x uo uw ul (decide (0 < j)) (P.f0 + dd) P.f1 P.f2 hr hb hx ho hw hul wU w1 hc hs0
        rw [stepS_dt a r b x uo uw (mst T j) ul (decide (0 < j)) P.f0 (P.f0 + dd) P.f1 P.f2 ed.symm, ← hq, en] at e4
        have nU : U (mst T (j + 1) + dd) := by rw [← en]; exact U_now hul wU
        rw [ew, show decide (P.f0 + dd ≥ dd) = true from decide_eq_true (by have := w0.1; omega)]
        refine Ev.step (f := fun n => (single_Step.f n k a r p b x uo uw ul (decide (0 < j)) (P.f0 + dd) P.f1 P.f2).bind fun bt141 => (if bt141.2.2.2.2 = q.2.2.2.2 then (if bt141.1 = q.1 then (if bt141.2.1 = q.2.1 then (weighbridgetop_WholeClock.l1 n xs dd (runL T) true ((j + 1 : Nat) : Int) k a r p b x q.1 q.2.1 (mst T (j + 1)) (decide (0 < j + 1)) q.1 q.2.1 (mst T (j + 1)) (decide (0 < j + 1)) bt141.1 bt141.2.1 bt141.2.2.1 bt141.2.2.2.1) else none) else none) else none)) (fun n => ?_) ?_
        · simp only [weighbridgetop_WholeClock.j4]
          rw [if_pos trivial, if_pos (show (0 : Int) ≤ (j : Int) by omega), if_pos (show (j : Int) < (xs.length : Int) by omega), ← hP, ew, wrap_next hlt (by omega)]
        refine Ev.bind e4 ?_
        refine Ev.congr (fun n => if_pos rfl) (Ev.congr (fun n => if_pos rfl) (Ev.congr (fun n => if_pos rfl) ?_))
        exact hrec true q.1 q.2.1 q.1 q.2.1 (mst T (j + 1) + dd) true (by omega) u0 u1 (fun _ => ⟨rfl, rfl, by simp, nU, fun _ => rfl⟩)
      · have ew : IntKind.u64.wrap (P.f0 + dd) < dd := by
          rw [IntKind.wrap_u64]; unfold U at *; omega
        rw [show decide (IntKind.u64.wrap (P.f0 + dd) ≥ dd) = false from decide_eq_false (by omega)]
        refine Ev.step (fun n => ?_) (hrec false q.1 q.2.1 uo uw ul (decide (0 < j)) (by omega) u0 u1 (fun h => by simp at h))
        simp only [weighbridgetop_WholeClock.j4]
        rw [if_neg (by simp), wrap_next hlt (by omega)]


theorem clock_l0 (xs : List AS) (hwf : ∀ p ∈ xs, okA p) (hlen : xs.length ≤ 100) (dd : Int) (hdd : U dd) (k : Int) (a : Bool) (r p b x : Int) (hr : U r) (hb : U b) (hx : U x) (hc : chkS k r p b x = 0) (o w : Int) (ho : U o) (hw : U w) :
    ∀ (d j : Nat), j + d = xs.length → (∀ i, i < j → 0 ≤ (rd_T28 xs (i : Int)).f1) →
    Ev (fun n => weighbridgetop_WholeClock.l0 n xs dd (tmT xs j) (j : Int) k a r p b x o w 0 false) true
  | 0, j, hj, hsz => by
    have hT := tmT_U hwf
    obtain rfl : j = xs.length := by omega
    have hs' : ∀ q ∈ xs, 0 ≤ q.f1 := fun q hq => by
      obtain ⟨i, hi, rfl⟩ := List.mem_iff_getElem.1 hq
      have := hsz i hi
      unfold rd_T28 at this
      rwa [Int.toNat_natCast, List.getD_eq_getElem?_getD, List.getElem?_eq_getElem hi] at this
    have h1 := clock_l1 xs hwf hs' hlen dd hdd k a r p b x hr hb hx hc xs.length 0 true o w o w 0 false (by omega) ho hw (fun _ => ⟨rfl, rfl, rfl, U_zero, fun h => absurd h (by omega)⟩)
    refine Ev.step (f := fun n => weighbridgetop_WholeClock.l1 n xs dd (runL (tmT xs xs.length)) true 0 k a r p b x o w 0 false o w 0 false o w 0 false) (fun n => ?_) h1
    simp only [weighbridgetop_WholeClock.l0]
    have hf : ratchet_Run.f (tmT xs xs.length) = some (runL (tmT xs xs.length)) := by
      unfold ratchet_Run.f
      rw [if_pos ⟨by rw [tmT_length]; omega, hT⟩]
    rw [if_neg (show ¬ ((xs.length : Int) < (xs.length : Int)) by omega), hf]
    simp only [Option.bind_some]
    rw [if_pos (show ((runL (tmT xs xs.length)).length : Int) = (xs.length : Int) by rw [runL_length, tmT_length])]
  | d + 1, j, hj, hsz => by
    have hlt : j < xs.length := by omega
    by_cases hn : (rd_T28 xs (j : Int)).f1 < 0
    · refine Ev.step (fun n => ?_) chk_ev
      simp only [weighbridgetop_WholeClock.l0]
      rw [if_pos (show (j : Int) < (xs.length : Int) by omega), if_pos (show (0 : Int) ≤ (j : Int) by omega), if_pos hn]
    · refine Ev.step (fun n => ?_) (clock_l0 xs hwf hlen dd hdd k a r p b x hr hb hx hc o w ho hw d (j + 1) (by omega) (fun i hi => by
        rcases Nat.lt_or_ge i j with h | h
        · exact hsz i h
        · obtain rfl : i = j := by omega
          omega))
      simp only [weighbridgetop_WholeClock.l0]
      rw [if_pos (show (j : Int) < (xs.length : Int) by omega), if_pos (show (0 : Int) ≤ (j : Int) by omega), if_neg hn, if_pos (show (tmT xs j).length < 17592186044416 by rw [tmT_length]; omega), wrap_next hlt (by omega), tmT_succ]

theorem clock_pure (xs : List AS) (hwf : ∀ p ∈ xs, okA p) (k : Int) (a : Bool) (r p b x dd : Int) (hr : U r) (hb : U b) (hx : U x) (hdd : U dd) :
    Ev (fun n => weighbridgetop_WholeClock.f n k a r p b x xs dd) true := by
  have hn : Ev (fun n => single_New.f n k a r p b x) (newS (chkS k r p b x) b x) := ⟨1, fun n hk => by
    obtain ⟨d, rfl⟩ : ∃ d, n = d + 1 := ⟨n - 1, by omega⟩
    exact snew_eq d _ _ _ _ _ _ hb hx⟩
  have hend : ∀ o w l s, Ev (fun n => weighbridgetop_WholeClock.j0 n xs dd true k a r p b x o w l s) true := fun o w l s => by
    refine Ev.step (fun n => ?_) chk_ev
    simp only [weighbridgetop_WholeClock.j0]
    rw [if_pos trivial]
  unfold weighbridgetop_WholeClock.f
  refine Ev.bind hn ?_
  unfold newS
  by_cases hc : chkS k r p b x = 0
  · rw [if_pos hc]
    refine Ev.congr (fun n => if_pos rfl) ?_
    obtain ⟨_, _, _, kb, kx⟩ := chkS_ok hc
    by_cases hl : (xs.length : Int) > 100
    · rw [show decide ((xs.length : Int) > 100) = true from decide_eq_true hl]
      exact hend _ _ _ _
    · rw [show decide ((xs.length : Int) > 100) = false from decide_eq_false hl]
      refine Ev.step (fun n => ?_) (clock_l0 xs hwf (by omega) dd hdd k a r p b x hr hb hx hc (b * 1000000000) (x * 1000000000) (nano_in hb kb).2.1 (nano_in hx kx).2.1 xs.length 0 (by omega) (fun i hi => absurd hi (by omega)))
      simp only [weighbridgetop_WholeClock.j0]
      rw [if_neg (by simp)]
      rfl
  · rw [if_neg hc]
    refine Ev.congr (fun n => if_neg hc) ?_
    exact hend _ _ _ _

theorem clock_any (k : Int) (a : Bool) (r p b x : Int) (ao : Option Addr) (n cap : Nat) (dd : Int) (w : World) (hr : U r) (hb : U b) (hx : U x) (hdd : U dd) (hle : n ≤ cap) (hmax : cap ≤ maxLen)
    (hL : ∀ k, k < n → ∃ (b off : Nat) (cs : List Value), ao = some ⟨b, off, none⟩ ∧ b < w.heap.size ∧ cellsOk [some .u64, some .i64, some .i64] cs ∧ ∀ i, i < 3 → w.cell? ⟨b, off + k * 3 + i, none⟩ = cs[i]?) :
    Calls Try.prog 9 #[.agg #[.int .i64 k, .bool a, .int .u64 r, .int .u64 p, .int .u64 b, .int .u64 x], .slice ao n cap, .int .u64 dd] w fun e w' => e = .returned (.bool true) ∧ Below w.heap.size w w' := by
  obtain ⟨xs, rfl, hwf, hC⟩ := asked_list (Nat.le_trans hle hmax) hL
  obtain ⟨K, hK⟩ := clock_pure xs hwf k a r p b x dd hr hb hx hdd
  exact weighbridgetop_WholeClock.calls K k a r p b x ao cap xs dd true w hC hle (hK K (Nat.le_refl _))
end Go.Proofs.Ytkefamalcmglgaa.P
