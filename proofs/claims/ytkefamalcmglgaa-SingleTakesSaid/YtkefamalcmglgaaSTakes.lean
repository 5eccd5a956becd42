/- The law SingleTakes answers true, whatever the input. Condition: none. -/
import Derived.Test.YtkefamalcmglgaaRows
import Derived.Test.YtkefamalcmglgaaOpen
import Derived.Test.YtkefamalcmglgaaPureT
import Derived.Test.YtkefamalcmglgaaPF8
namespace Go.Proofs.Ytkefamalcmglgaa.P
open Go.ChangeShapes Go.WideShapes Go.ChangeAt Go.RowKit Go.Proofs.YtkefamalcmglgaaW.PrintWords Go.Proofs.YtkefamalcmglgaaW.PrintLast Go.Proofs.YtkefamalcmglgaaW.PrintMore

theorem live26_true : weighbridgelaw26_live.f = some true := rfl

theorem stepS_U {k : Int} {a : Bool} {r p b x s0 s1 s2 : Int} {s3 : Bool} {t size pre : Int} (hr : U r) (hb : U b) (hx : U x) (h0 : U s0) (h1 : U s1) (h2 : U s2) (ht : U t) :
    let q := if chkS k r p b x ≠ 0 ∨ size < 0 then (s0, s1, s2, s3, (2 : Int)) else stepS a r b x s0 s1 s2 s3 t size pre
    U q.1 ∧ U q.2.1 ∧ U q.2.2.1 := by
  intro q
  by_cases hc : chkS k r p b x ≠ 0 ∨ size < 0
  · simp only [q, if_pos hc]; exact ⟨h0, h1, h2⟩
  · simp only [q, if_neg hc]
    obtain ⟨_, _, _, kb, kx⟩ := chkS_ok (show chkS k r p b x = 0 by omega)
    obtain ⟨_, ub, _⟩ := nano_in hb kb
    obtain ⟨_, ux, _⟩ := nano_in hx kx
    have hV := V_mul hr (U_dt (seen := s3) h2 ht)
    obtain ⟨_, _, vs, u1⟩ := put_bounds h0 ub hV
    obtain ⟨u2, _, _⟩ := two_bounds h1 ux vs.1
    have tk : ∀ l s, U l → U (takeV l s) := fun l s hl => by
      unfold takeV
      rcases Bool.eq_false_or_eq_true (canV l s) with e | e
      · rw [if_pos e]
        unfold canV at e
        have := U_need s
        simp only [Bool.and_eq_true, decide_eq_true_eq] at e
        unfold U at *; omega
      · rw [if_neg (by simp [e])]; exact hl
    unfold stepS paintS
    simp only []
    refine ⟨?_, ?_, U_now h2 ht⟩
    · split
      · exact tk _ _ u1
      · split <;> exact u1
    · split
      · exact u2
      · split
        · exact tk _ _ u2
        · exact u2

def okA (p : S28) : Prop := U p.f0 ∧ I64 p.f1 ∧ I64 p.f2
theorem rd_ok {xs : List S28} (h : ∀ p ∈ xs, okA p) {i : Nat} (hi : i < xs.length) : okA (rd_T28 xs i) := by
  unfold rd_T28
  rw [Int.toNat_natCast, List.getD_eq_getElem?_getD, List.getElem?_eq_getElem hi]
  exact h _ (List.getElem_mem hi)
theorem wrap_next {i n : Nat} (h : i < n) (hn : n ≤ 1000000) : wrap64 ((i : Int) + 1) = ((i + 1 : Nat) : Int) := by
  unfold wrap64; omega

/-- A slice of packets that came in, as a list. -/
theorem asked_list {w : World} {ao : Option Addr} {n : Nat} (hmax : n ≤ 9223372036854775807)
    (hL : ∀ k, k < n → ∃ (b off : Nat) (cs : List Value), ao = some ⟨b, off, none⟩ ∧ b < w.heap.size ∧ cellsOk [some .u64, some .i64, some .i64] cs ∧ ∀ i, i < 3 → w.cell? ⟨b, off + k * 3 + i, none⟩ = cs[i]?) :
    ∃ xs : List S28, xs.length = n ∧ (∀ p ∈ xs, okA p) ∧ Kd.C k28 w ao n xs := by
  obtain ⟨xs, hl, hx⟩ := list_of (R := fun k (p : S28) => okA p ∧ ∃ b off, ao = some ⟨b, off, none⟩ ∧ ∀ i u, [Value.int .u64 p.f0, .int .i64 p.f1, .int .i64 p.f2][i]? = some u → w.cell? ⟨b, off + k * 3 + i, none⟩ = some u) n fun k hk => by
    obtain ⟨b, off, cs, hao, _, hcs, hcell⟩ := hL k hk
    obtain ⟨_, _, rfl, ⟨z0, rfl, w0⟩, _, _, rfl, ⟨z1, rfl, w1⟩, _, _, rfl, ⟨z2, rfl, w2⟩, rfl⟩ := hcs
    refine ⟨⟨z0, z1, z2⟩, ⟨U_wf w0, I64_wf w1, I64_wf w2⟩, b, off, hao, fun i u hu => ?_⟩
    have hi : i < 3 := by
      have := (List.getElem?_eq_some_iff.1 hu).1
      simpa using this
    rw [hcell i hi]
    exact hu
  refine ⟨xs, hl, fun p hp => ?_, hl, hmax, fun hn => ?_⟩
  · obtain ⟨j, hj, rfl⟩ := List.mem_iff_getElem.1 hp
    exact (hx j _ (List.getElem?_eq_getElem hj)).1
  · obtain ⟨b, off, _, hao, _⟩ := hL 0 hn
    refine ⟨⟨b, off, none⟩, hao, fun j p hj => ⟨[.int .u64 p.f0, .int .i64 p.f1, .int .i64 p.f2], rfl, k28_mk w p, fun i u hu => ?_⟩⟩
    obtain ⟨_, b', off', hao', hc⟩ := hx j p hj
    rw [hao] at hao'
    obtain ⟨rfl, rfl⟩ : b = b' ∧ off = off' := by simpa using hao'
    rw [add_mk, ← Nat.add_assoc]
    exact hc i u hu


theorem takeV_yes {l s : Int} (h : canV l s = true) : takeV l s = l - needV s := by unfold takeV; rw [if_pos h]
theorem can_ok {l s : Int} (h : okV s = false) : canV l s = false := by unfold canV; rw [h]; rfl
theorem take_zero {l : Int} (h : U l) : canV l 0 = true ∧ takeV l 0 = l := by
  have : canV l 0 = true := by
    unfold canV needV okV
    unfold U at h
    simp; omega
  refine ⟨this, ?_⟩
  rw [takeV_yes this]
  show l - needV 0 = l
  have : needV 0 = 0 := by decide
  omega
theorem grow_rim {l r g : Int} (h : l ≤ r) (_ : 0 ≤ g) : growV l r g ≤ r := by
  unfold growV putV
  rw [Int.min_def g, Int.min_def l r]
  split <;> split <;> omega
theorem col_mn (pre : Int) : mn pre 2 ≤ colV true pre := by
  unfold colV mn
  rw [if_pos rfl]
  split <;> split <;> omega

theorem paintS_facts (c one two s : Int) (hc : 0 ≤ c ∧ c ≤ 2) :
    let q := paintS c one two s
    (q.2.2 = 2 ∧ q.1 = one ∧ q.2.1 = two ∨ q.2.2 = 1 ∧ c ≤ 1 ∧ okV s = true ∧ q.1 = one ∧ q.2.1 = two - needV s ∨ q.2.2 = 0 ∧ c = 0 ∧ okV s = true ∧ q.1 = one - needV s ∧ q.2.1 = two) := by
  intro q
  have hok : ∀ l, canV l s = true → okV s = true := fun l h => by
    rcases Bool.eq_false_or_eq_true (okV s) with e | e
    · exact e
    · rw [can_ok e] at h; exact absurd h (by simp)
  by_cases h1 : c = 0 ∧ canV one s = true
  · refine .inr (.inr ?_)
    simp only [q, paint_green h1.1 h1.2]
    exact ⟨trivial, h1.1, hok _ h1.2, takeV_yes h1.2, trivial⟩
  · by_cases h2 : c ≠ 2 ∧ canV two s = true
    · refine .inr (.inl ?_)
      simp only [q, paint_yellow h1 h2.1 h2.2]
      exact ⟨trivial, by omega, hok _ h2.2, trivial, takeV_yes h2.2⟩
    · exact .inl (by simp only [q, paint_red h1 h2]; simp)

set_option maxHeartbeats 1000000 in
theorem stakes_l0 (xs : List S28) (hwf : ∀ p ∈ xs, okA p) (hlen : xs.length ≤ 200) (k : Int) (a : Bool) (r p b x : Int) (hr : U r) (hb : U b) (hx : U x) (hc : chkS k r p b x = 0) (m2 : Int) (m3 : Bool) : ∀ (d j : Nat) (s0 s1 s2 : Int) (s3 : Bool), j + d = xs.length → U s0 → U s1 → U s2 → s0 ≤ b * 1000000000 → s1 ≤ x * 1000000000 →
    Ev (fun n => weighbridgelaw26_SingleTakes.l0 n xs (j : Int) k a r p b x s0 s1 s2 s3 (b * 1000000000) (x * 1000000000) m2 m3) true
  | 0, j, s0, s1, s2, s3, hj, h0, h1, h2, l0, l1 => by
    refine Ev.step (f := fun _ => some true) (fun n => ?_) (Ev.now _)
    simp only [weighbridgelaw26_SingleTakes.l0]
    rw [if_neg (show ¬ ((j : Int) < (xs.length : Int)) by omega), live26_true]
    rfl
  | d + 1, j, s0, s1, s2, s3, hj, h0, h1, h2, l0, l1 => by
    have hlt : j < xs.length := by omega
    have hrec := stakes_l0 xs hwf hlen k a r p b x hr hb hx hc m2 m3 d (j + 1)
    obtain ⟨w0, w1, w2⟩ := rd_ok hwf hlt
    obtain ⟨P, hP⟩ : ∃ P, P = rd_T28 xs (j : Int) := ⟨_, rfl⟩
    rw [← hP] at w0 w1 w2
    by_cases hn : P.f1 < 0
    · refine Ev.step (fun n => ?_) (hrec s0 s1 s2 s3 (by omega) h0 h1 h2 l0 l1)
      simp only [weighbridgelaw26_SingleTakes.l0]
      rw [if_pos (show (j : Int) < (xs.length : Int) by omega), if_pos (show (0 : Int) ≤ (j : Int) by omega), ← hP, if_pos hn, wrap_next hlt (by omega)]
    · obtain ⟨_, _, _, kb, kx⟩ := chkS_ok hc
      obtain ⟨_, ub, _⟩ := nano_in hb kb
      obtain ⟨_, ux, _⟩ := nano_in hx kx
      have ud := U_dt (seen := s3) h2 w0
      have hV := V_mul hr ud
      obtain ⟨_, _, vs, u1⟩ := put_bounds h0 ub hV
      obtain ⟨u2, _, tb⟩ := two_bounds h1 ux vs.1
      have g1 := grow_rim l0 hV.1
      have g2 := tb l1
      have un := U_now (seen := s3) h2 w0
      have hI := fun n => sstep_eq n k a r p b x s0 s1 s2 s3 P.f0 0 0 hr hb hx h0 h1 h2 w0 (by unfold I64; omega)
      have hQ := fun n => sstep_eq n k a r p b x s0 s1 s2 s3 P.f0 P.f1 P.f2 hr hb hx h0 h1 h2 w0 w1
      rw [if_neg (by omega)] at hI hQ
      have hQU := stepS_U (k := k) (a := a) (p := p) (s3 := s3) (size := P.f1) (pre := P.f2) hr hb hx h0 h1 h2 w0
      rw [if_neg (show ¬ (chkS k r p b x ≠ 0 ∨ P.f1 < 0) by omega)] at hQU
      unfold stepS at hI hQ hQU
      simp only [] at hI hQ hQU
      obtain ⟨one, e1⟩ : ∃ one, one = growV s0 (b * 1000000000) (r * dtV s2 s3 P.f0) := ⟨_, rfl⟩
      obtain ⟨two, e2⟩ : ∃ two, two = twoV s1 (x * 1000000000) (spillV s0 (b * 1000000000) (r * dtV s2 s3 P.f0)) := ⟨_, rfl⟩
      rw [← e2] at hI hQ hQU u2 g2
      rw [← e1] at hI hQ hQU u1 g1
      have hp0 : paintS (colV a 0) one two 0 = (one, two, 0) := by
        have hcol : colV a 0 = 0 := by unfold colV; cases a <;> simp
        obtain ⟨c1, t1⟩ := take_zero u1
        rw [hcol, paint_green rfl c1, t1]
      rw [hp0] at hI
      have hcr := colV_range a P.f2
      have hF := paintS_facts (colV a P.f2) one two P.f1 hcr
      obtain ⟨⟨z0, z1, c⟩, hz⟩ : ∃ z, z = paintS (colV a P.f2) one two P.f1 := ⟨_, rfl⟩
      rw [← hz] at hQ hF hQU
      dsimp only at hI hQ hF hQU
      obtain ⟨uz0, uz1, _⟩ := hQU
      have hnd := U_need P.f1
      obtain ⟨nd, end'⟩ : ∃ nd, nd = needV P.f1 := ⟨_, rfl⟩
      rw [← end'] at hF hnd
      have hN : bucket_Need.f P.f1 = some (nd, okV P.f1) := by unfold bucket_Need.f; rw [if_pos w1, end']
      obtain ⟨nw, enw⟩ : ∃ nw, nw = nowV s2 s3 P.f0 := ⟨_, rfl⟩
      rw [← enw] at hI hQ un
      have hseen : s3 = true → ¬ (nw < s2) := fun hs => by
        rw [enw]; unfold nowV
        split
        · omega
        · rename_i hh
          have : ¬ (P.f0 ≤ s2) := fun h' => hh ⟨hs, h'⟩
          omega
      have hcol : a = true → decide (c < mn P.f2 2) = false := fun ha => by
        have := col_mn P.f2
        have hm2 : mn P.f2 2 ≤ 2 := by unfold mn; split <;> omega
        rw [ha] at hF
        exact decide_eq_false (by omega)
      have hz0 : ¬ (z0 > b * 1000000000) := by unfold U at *; omega
      have hz1 : ¬ (z1 > x * 1000000000) := by unfold U at *; omega
      have wz : ∀ v : Int, U v → IntKind.u64.wrap v = v := fun v hv => by rw [wrap_lo, lo_of_U hv]
      have hlast := hrec z0 z1 nw true (by omega) uz0 uz1 un (by omega) (by omega)
      obtain ⟨x0, ex0⟩ : ∃ x0, x0 = IntKind.u64.wrap (one - z0) := ⟨_, rfl⟩
      obtain ⟨x1, ex1⟩ : ∃ x1, x1 = IntKind.u64.wrap (two - z1) := ⟨_, rfl⟩
      -- behind the first flag
      have h2' : Ev (fun n => weighbridgelaw26_SingleTakes.j2 n xs (j : Int) c nd (okV P.f1) x0 x1 false k a r p b x (b * 1000000000) (x * 1000000000) m2 m3 z0 z1 nw true) true := by
        refine Ev.step (f := fun n => weighbridgelaw26_SingleTakes.j3 n xs (j : Int) c nd (okV P.f1) x0 x1 (decide (c > 2)) k a r p b x (b * 1000000000) (x * 1000000000) m2 m3 z0 z1 nw true) (fun n => ?_) ?_
        · simp only [weighbridgelaw26_SingleTakes.j2]
          rw [if_neg (by simp), if_neg (by omega)]
        rw [show decide (c > 2) = false from decide_eq_false (by omega)]
        rcases hF with ⟨rfl, f0, f1⟩ | ⟨rfl, _, hk, f0, f1⟩ | ⟨rfl, _, hk, f0, f1⟩
        · have hx0 : x0 = 0 := by rw [ex0, show one - z0 = 0 from by omega]; exact wz 0 U_zero
          have hx1 : x1 = 0 := by rw [ex1, show two - z1 = 0 from by omega]; exact wz 0 U_zero
          refine Ev.step (f := fun n => weighbridgelaw26_SingleTakes.j4 n xs (j : Int) 2 nd (okV P.f1) x0 x1 false k a r p b x (b * 1000000000) (x * 1000000000) m2 m3 z0 z1 nw true 0 0) (fun n => ?_) ?_
          · simp only [weighbridgelaw26_SingleTakes.j3]
            rw [if_neg (by simp)]
            rcases Bool.eq_false_or_eq_true (okV P.f1) with e | e
            · rw [e, if_pos rfl]; rfl
            · rw [e, if_neg (by simp)]
          refine Ev.step (fun n => ?_) hlast
          simp only [weighbridgelaw26_SingleTakes.j4]
          rw [if_neg (by simp), if_pos hx0, if_pos hx1, wrap_next hlt (by omega)]
          rcases Bool.eq_false_or_eq_true (okV P.f1) with e | e
          · rw [e, if_pos rfl]
          · rw [e, if_neg (by simp), if_pos trivial]
        · have hx0 : x0 = 0 := by rw [ex0, show one - z0 = 0 from by omega]; exact wz 0 U_zero
          have hx1 : x1 = nd := by rw [ex1, show two - z1 = nd from by omega]; exact wz nd hnd
          refine Ev.step (f := fun n => weighbridgelaw26_SingleTakes.j4 n xs (j : Int) 1 nd (okV P.f1) x0 x1 true k a r p b x (b * 1000000000) (x * 1000000000) m2 m3 z0 z1 nw true 0 0) (fun n => ?_) ?_
          · simp only [weighbridgelaw26_SingleTakes.j3]
            rw [if_neg (by simp), hk, if_pos rfl]; rfl
          refine Ev.step (fun n => ?_) hlast
          simp only [weighbridgelaw26_SingleTakes.j4]
          rw [if_pos trivial, if_neg (by omega), if_pos trivial, if_pos hx0, if_pos hx1, wrap_next hlt (by omega), hk, if_pos rfl]
        · have hx0 : x0 = nd := by rw [ex0, show one - z0 = nd from by omega]; exact wz nd hnd
          have hx1 : x1 = 0 := by rw [ex1, show two - z1 = 0 from by omega]; exact wz 0 U_zero
          refine Ev.step (f := fun n => weighbridgelaw26_SingleTakes.j4 n xs (j : Int) 0 nd (okV P.f1) x0 x1 true k a r p b x (b * 1000000000) (x * 1000000000) m2 m3 z0 z1 nw true 0 0) (fun n => ?_) ?_
          · simp only [weighbridgelaw26_SingleTakes.j3]
            rw [if_neg (by simp), hk, if_pos rfl]; rfl
          refine Ev.step (fun n => ?_) hlast
          simp only [weighbridgelaw26_SingleTakes.j4]
          rw [if_pos trivial, if_pos trivial, if_pos hx0, if_pos hx1, wrap_next hlt (by omega), hk, if_pos rfl]
      obtain ⟨K, hK⟩ := h2'
      refine ⟨K + 2, fun n hn2 => ?_⟩
      obtain ⟨m, rfl⟩ : ∃ m, n = m + 1 + 1 := ⟨n - 2, by omega⟩
      have hJ := hK (m + 1) (by omega)
      simp only [weighbridgelaw26_SingleTakes.l0]
      rw [if_pos (show (j : Int) < (xs.length : Int) by omega), if_pos (show (0 : Int) ≤ (j : Int) by omega), ← hP, if_neg hn, hI, hQ, hN]
      simp only [Option.bind_some]
      rw [if_neg hz0, if_neg hz1, if_pos trivial, if_pos trivial, ← ex0, ← ex1]
      by_cases ha : a = true
      · rw [hcol ha]
        by_cases hs : s3 = true
        · rw [if_pos hs, if_neg (hseen hs), if_pos ha]; exact hJ
        · rw [if_neg hs, if_pos ha]; exact hJ
      · by_cases hs : s3 = true
        · rw [if_pos hs, if_neg (hseen hs), if_neg ha]; exact hJ
        · rw [if_neg hs, if_neg ha]; exact hJ

theorem stakes_pure (xs : List S28) (hwf : ∀ p ∈ xs, okA p) (k : Int) (a : Bool) (r p b x : Int) (hr : U r) (hb : U b) (hx : U x) :
    Ev (fun n => weighbridgelaw26_SingleTakes.f n k a r p b x xs) true := by
  have hn : Ev (fun n => single_New.f n k a r p b x) (newS (chkS k r p b x) b x) := ⟨1, fun n hk => by
    obtain ⟨d, rfl⟩ : ∃ d, n = d + 1 := ⟨n - 1, by omega⟩
    exact snew_eq d _ _ _ _ _ _ hb hx⟩
  have hend : ∀ s0 s1 s2 s3, Ev (fun n => weighbridgelaw26_SingleTakes.j0 n xs true k a r p b x s0 s1 s2 s3) true := fun s0 s1 s2 s3 => by
    refine Ev.step (f := fun _ => some true) (fun n => ?_) (Ev.now _)
    simp only [weighbridgelaw26_SingleTakes.j0]
    rw [if_pos trivial, live26_true]
    rfl
  unfold weighbridgelaw26_SingleTakes.f
  refine Ev.bind hn ?_
  unfold newS
  by_cases hc : chkS k r p b x = 0
  · rw [if_pos hc]
    refine Ev.congr (fun n => if_pos rfl) ?_
    obtain ⟨_, _, _, kb, kx⟩ := chkS_ok hc
    by_cases hl : (xs.length : Int) > 200
    · rw [show decide ((xs.length : Int) > 200) = true from decide_eq_true hl]
      exact hend _ _ _ _
    · rw [show decide ((xs.length : Int) > 200) = false from decide_eq_false hl]
      refine Ev.step (fun n => ?_) (stakes_l0 xs hwf (by omega) k a r p b x hr hb hx hc 0 false xs.length 0 _ _ 0 false (by omega) (nano_in hb kb).2.1 (nano_in hx kx).2.1 U_zero (Int.le_refl _) (Int.le_refl _))
      simp only [weighbridgelaw26_SingleTakes.j0]
      rw [if_neg (by simp)]
      rfl
  · rw [if_neg hc]
    refine Ev.congr (fun n => if_neg hc) ?_
    exact hend _ _ _ _

theorem stakes_any (k : Int) (a : Bool) (r p b x : Int) (ao : Option Addr) (n cap : Nat) (w : World) (hr : U r) (hb : U b) (hx : U x) (hle : n ≤ cap) (hmax : cap ≤ maxLen)
    (hL : ∀ k, k < n → ∃ (b off : Nat) (cs : List Value), ao = some ⟨b, off, none⟩ ∧ b < w.heap.size ∧ cellsOk [some .u64, some .i64, some .i64] cs ∧ ∀ i, i < 3 → w.cell? ⟨b, off + k * 3 + i, none⟩ = cs[i]?) :
    Calls Try.prog 8 #[.agg #[.int .i64 k, .bool a, .int .u64 r, .int .u64 p, .int .u64 b, .int .u64 x], .slice ao n cap] w fun e w' => e = .returned (.bool true) ∧ Below w.heap.size w w' := by
  obtain ⟨xs, rfl, hwf, hC⟩ := asked_list (Nat.le_trans hle hmax) hL
  obtain ⟨K, hK⟩ := stakes_pure xs hwf k a r p b x hr hb hx
  exact weighbridgelaw26_SingleTakes.calls K k a r p b x ao cap xs true w hC hle (hK K (Nat.le_refl _))
end Go.Proofs.Ytkefamalcmglgaa.P
namespace Go.Proofs.Ytkefamalcmglgaa
open Go.ChangeShapes Go.WideShapes Go.ChangeAt Go.RowKit
set_option maxRecDepth 100000 in
set_option maxHeartbeats 1000000 in
theorem stakes_lifted (os : Os) (started : os.Started) (H : Type) (enc : TypeId × Value → H) :
    ReturnsInHanded {} Try.checked os 8 .any (Rows.singleTakesSpec.pre6 enc Try.prog Try.f8 Rows.singleTakesRow.domain false) (Rows.singleTakesSpec.post enc Try.prog Try.f8 false true false false) := by
  refine returnsInHanded_of_change_sized (C := Try.checked) Try.own started (by kernel_rfl) Try.func8
    (ChangeSpec.witness6 (enc := enc) (C := Try.checked) false ⟨#[], #[.agg #[.int .i64 0, .bool false, .int .u64 0, .int .u64 0, .int .u64 0, .int .u64 0], .slice none 0 0], []⟩ 8 (by kernel_rfl) (by kernel_rfl) (by kernel_rfl) (by kernel_rfl)) ?_
  intro W base args ds gs before hval0 hW hcnd hsz0 _
  have hsz : (DataW.weightsEach Try.prog (Try.f8.params.toList ++ Rows.singleTakesSpec.plain.varTypes Try.prog) (ds ++ gs)).all (· ≤ reachBytes) = true := hsz0
  have hval : ∀ (j : Nat) t v, Try.f8.params[j]? = some t → args[j]? = some v → Value.okWide Try.prog W .any base t v := hval0
  have hW' := hW
  obtain ⟨p, q, hA0, hV, rfl, hfz, hnd⟩ := hW
  have hA : DataW.TrodAll enc Try.prog W 0 (fun _ => true) true Try.f8.params.toList args.toList ds p := hA0
  have hAk := hA
  rw [Try.params8] at hA hval hsz
  obtain ⟨v0, vs0, d0, ds0, p0, q0, hargs, rfl, rfl, h0, r0⟩ := trodAll_cons hA
  obtain ⟨v1, vs1, d1, ds1, p1, q1, rfl, rfl, rfl, h1, r1⟩ := trodAll_cons r0
  obtain ⟨rfl, rfl, rfl⟩ := trodAll_nil r1
  obtain rfl : args = #[v0, v1] := by simpa using congrArg List.toArray hargs
  obtain ⟨rfl, rfl⟩ := trodVars_none hV
  obtain ⟨cs0, rfl, hc0⟩ := open_struct Try.underlying24 (by kernel_rfl) (ks := [some .i64, none, some .u64, some .u64, some .u64, some .u64]) (by kernel_rfl) (by kernel_rfl) (hval 0 24 v0 rfl rfl) h0
  obtain ⟨_, _, rfl, ⟨m0, rfl, wfm0⟩, _, _, rfl, ⟨m1, rfl⟩, _, _, rfl, ⟨m2, rfl, wfm2⟩, _, _, rfl, ⟨m3, rfl, wfm3⟩, _, _, rfl, ⟨m4, rfl, wfm4⟩, _, _, rfl, ⟨m5, rfl, wfm5⟩, rfl⟩ := hc0
  have wm0 : I64 m0 := I64_wf wfm0
  have wm2 : U m2 := U_wf wfm2
  have wm3 : U m3 := U_wf wfm3
  have wm4 : U m4 := U_wf wfm4
  have wm5 : U m5 := U_wf wfm5
  have hs1 := hsz
  obtain ⟨ao1, n1, cap1, rfl, hle1, hmax1, hL1⟩ := open_structs Try.underlying37 Try.underlying28 (by kernel_rfl) (ks := [some .u64, some .i64, some .i64]) (by kernel_rfl) (c := 3) (by kernel_rfl) rfl (by decide) (hval 1 37 v1 rfl rfl) h1
  have hz1 := len_sized hs1 (j := 1) rfl rfl Try.underlying37 rfl h1
  clear hA0 hval0 hsz0 hsz
  simp only [List.append_nil] at hW' hAk
  refine (P.stakes_any m0 m1 m2 m3 m4 m5 ao1 n1 cap1 W wm2 wm4 wm5 hle1 hmax1 hL1).mono fun e W' ⟨he, hb⟩ => ?_
  subst he
  exact ⟨_, rfl, law_post Try.laidOut (by kernel_rfl) rfl Try.underlying4 rfl hW' hAk rfl hb⟩

/-- The law SingleTakes answers true, whatever the input. Condition: none. -/
theorem singleTakes_holds : Rows.SingleTakesSaid :=
  OpenClaim.holds_of_wide 8 Try.f8 rfl rfl rfl rfl rfl rfl rfl ⟨rfl, rfl, rfl, rfl, rfl⟩ rfl rfl rfl rfl rfl (by kernel_rfl) Try.func8 (by kernel_rfl)
    (of_decide_eq_true (by kernel_rfl)) (by unfold Func.isWrapper; rw [if_neg (of_decide_eq_false (by kernel_rfl))]; exact ⟨rfl, rfl⟩)
    (fun os started H enc _ => stakes_lifted os started H enc)

end Go.Proofs.Ytkefamalcmglgaa
