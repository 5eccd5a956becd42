/- The law DoubleTakes answers true, whatever the input. Condition: none. -/
import Derived.Test.YtkefamalcmglgaaRows
import Derived.Test.YtkefamalcmglgaaOpen
import Derived.Test.YtkefamalcmglgaaPureD
import Derived.Test.YtkefamalcmglgaaPF5
namespace Go.Proofs.Ytkefamalcmglgaa.P
open Go.ChangeShapes Go.WideShapes Go.ChangeAt Go.RowKit Go.Proofs.YtkefamalcmglgaaW.PrintWords Go.Proofs.YtkefamalcmglgaaW.PrintLast Go.Proofs.YtkefamalcmglgaaW.PrintMore

theorem live27_true : weighbridgelaw27_live.f = some true := rfl

def okA (p : S28) : Prop := U p.f0 ∧ I64 p.f1 ∧ I64 p.f2
theorem rd_ok {xs : List S28} (h : ∀ p ∈ xs, okA p) {i : Nat} (hi : i < xs.length) : okA (rd_T28 xs i) := by
  unfold rd_T28
  rw [Int.toNat_natCast, List.getD_eq_getElem?_getD, List.getElem?_eq_getElem hi]
  exact h _ (List.getElem_mem hi)
theorem wrap_next {i n : Nat} (h : i < n) (hn : n ≤ 1000000) : wrap64 ((i : Int) + 1) = ((i + 1 : Nat) : Int) := by
  unfold wrap64; omega

/-- A slice of packets that came in, as a list. -/
theorem asked_list {w : World} {ao : Option Addr} {n : Nat} (hmax : n ≤ 9223372036854775807)
    (hL : ∀ k, k < n → ∃ (b off : Nat) (cs : List Value), ao = some ⟨b, off, none⟩ ∧ b < w.heap.size ∧ cellsOk [some .u64, some .i64, some .i64] cs ∧ ∀ i, i < 3 → w.cell? ⟨b, off + k * 3 + i, none⟩ = cs[i]?) :
    ∃ xs : List S28, xs.length = n ∧ (∀ p ∈ xs, okA p) ∧ Kd.C k28 w ao n xs := by
  obtain ⟨xs, hl, hx⟩ := list_of (R := fun k (p : S28) => okA p ∧ ∃ b off, ao = some ⟨b, off, none⟩ ∧ ∀ i u, [Value.int .u64 p.f0, .int .i64 p.f1, .int .i64 p.f2][i]? = some u → w.cell? ⟨b, off + k * 3 + i, none⟩ = some u) n fun k hk => by
    obtain ⟨b, off, cs, hao, _, hcs, hcell⟩ := hL k hk
    obtain ⟨_, _, rfl, ⟨z0, rfl, w0⟩, _, _, rfl, ⟨z1, rfl, w1⟩, _, _, rfl, ⟨z2, rfl, w2⟩, rfl⟩ := hcs
    refine ⟨⟨z0, z1, z2⟩, ⟨U_wf w0, I64_wf w1, I64_wf w2⟩, b, off, hao, fun i u hu => ?_⟩
    have hi : i < 3 := by
      have := (List.getElem?_eq_some_iff.1 hu).1
      simpa using this
    rw [hcell i hi]
    exact hu
  refine ⟨xs, hl, fun p hp => ?_, hl, hmax, fun hn => ?_⟩
  · obtain ⟨j, hj, rfl⟩ := List.mem_iff_getElem.1 hp
    exact (hx j _ (List.getElem?_eq_getElem hj)).1
  · obtain ⟨b, off, _, hao, _⟩ := hL 0 hn
    refine ⟨⟨b, off, none⟩, hao, fun j p hj => ⟨[.int .u64 p.f0, .int .i64 p.f1, .int .i64 p.f2], rfl, k28_mk w p, fun i u hu => ?_⟩⟩
    obtain ⟨_, b', off', hao', hc⟩ := hx j p hj
    rw [hao] at hao'
    obtain ⟨rfl, rfl⟩ : b = b' ∧ off = off' := by simpa using hao'
    rw [add_mk, ← Nat.add_assoc]
    exact hc i u hu


/-! ### What a packet leaves -/
theorem takeV_yes {l s : Int} (h : canV l s = true) : takeV l s = l - needV s := by unfold takeV; rw [if_pos h]
theorem can_ok {l s : Int} (h : okV s = false) : canV l s = false := by unfold canV; rw [h]; rfl
theorem paintD_facts (c one two s : Int) (hc : 0 ≤ c ∧ c ≤ 2) :
    let q := paintD c one two s
    (q.2.2 = 2 ∧ q.1 = one ∧ q.2.1 = two ∨ q.2.2 = 1 ∧ c ≤ 1 ∧ okV s = true ∧ q.1 = one ∧ q.2.1 = two - needV s ∨ q.2.2 = 0 ∧ c = 0 ∧ okV s = true ∧ q.1 = one - needV s ∧ q.2.1 = two - needV s) := by
  intro q
  have hok : ∀ l, canV l s = true → okV s = true := fun l h => by
    rcases Bool.eq_false_or_eq_true (okV s) with e | e
    · exact e
    · rw [can_ok e] at h; exact absurd h (by simp)
  by_cases h1 : c = 2 ∨ canV two s = false
  · exact .inl (by simp only [q, dpaint_red h1]; simp)
  · have h2 : canV two s = true := by
      rcases Bool.eq_false_or_eq_true (canV two s) with e | e
      · exact e
      · exact absurd (.inr e) h1
    have h3 : c ≠ 2 := fun e => h1 (.inl e)
    by_cases h4 : c = 1 ∨ canV one s = false
    · refine .inr (.inl ?_)
      simp only [q, dpaint_yellow h1 h4]
      exact ⟨trivial, by omega, hok _ h2, trivial, takeV_yes h2⟩
    · have h5 : canV one s = true := by
        rcases Bool.eq_false_or_eq_true (canV one s) with e | e
        · exact e
        · exact absurd (.inr e) h4
      refine .inr (.inr ?_)
      simp only [q, dpaint_green h1 h4]
      exact ⟨trivial, by omega, hok _ h2, takeV_yes h5, takeV_yes h2⟩
theorem take_zero {l : Int} (h : U l) : canV l 0 = true ∧ takeV l 0 = l := by
  have : canV l 0 = true := by
    unfold canV needV okV
    unfold U at h
    simp; omega
  refine ⟨this, ?_⟩
  rw [takeV_yes this]
  show l - needV 0 = l
  have : needV 0 = 0 := by decide
  omega
theorem grow_rim {l r g : Int} (h : l ≤ r) (hg : 0 ≤ g) : growV l r g ≤ r := by
  unfold growV putV
  rw [Int.min_def g, Int.min_def l r]
  split <;> split <;> omega
theorem col_mn (pre : Int) : mn pre 2 ≤ colV true pre := by
  unfold colV mn
  rw [if_pos rfl]
  split <;> split <;> omega

set_option maxHeartbeats 1000000 in
theorem dtakes_l0 (xs : List S28) (hwf : ∀ p ∈ xs, okA p) (hlen : xs.length ≤ 200) (k : Int) (a : Bool) (r p b x : Int) (hr : U r) (hp : U p) (hb : U b) (hx : U x) (hc : chkD k r p b x = 0) (m2 : Int) (m3 : Bool) : ∀ (d j : Nat) (s0 s1 s2 : Int) (s3 : Bool), j + d = xs.length → U s0 → U s1 → U s2 → s0 ≤ b * 1000000000 → s1 ≤ x * 1000000000 →
    Ev (fun n => weighbridgelaw27_DoubleTakes.l0 n xs (j : Int) k a r p b x s0 s1 s2 s3 (b * 1000000000) (x * 1000000000) m2 m3) true
  | 0, j, s0, s1, s2, s3, hj, h0, h1, h2, l0, l1 => by
    refine Ev.step (f := fun _ => some true) (fun n => ?_) (Ev.now _)
    simp only [weighbridgelaw27_DoubleTakes.l0]
    rw [if_neg (show ¬ ((j : Int) < (xs.length : Int)) by omega), live27_true]
    rfl
  | d + 1, j, s0, s1, s2, s3, hj, h0, h1, h2, l0, l1 => by
    have hlt : j < xs.length := by omega
    have hrec := dtakes_l0 xs hwf hlen k a r p b x hr hp hb hx hc m2 m3 d (j + 1)
    obtain ⟨w0, w1, w2⟩ := rd_ok hwf hlt
    obtain ⟨P, hP⟩ : ∃ P, P = rd_T28 xs (j : Int) := ⟨_, rfl⟩
    rw [← hP] at w0 w1 w2
    by_cases hn : P.f1 < 0
    · refine Ev.step (fun n => ?_) (hrec s0 s1 s2 s3 (by omega) h0 h1 h2 l0 l1)
      simp only [weighbridgelaw27_DoubleTakes.l0]
      rw [if_pos (show (j : Int) < (xs.length : Int) by omega), if_pos (show (0 : Int) ≤ (j : Int) by omega), ← hP, if_pos hn, wrap_next hlt (by omega)]
    · obtain ⟨kb, kx⟩ := chkD_ok hc
      obtain ⟨_, ub, _⟩ := nano_in hb kb
      obtain ⟨_, ux, _⟩ := nano_in hx kx
      have ud := U_dt (seen := s3) h2 w0
      have hV1 := V_mul hr ud
      have hV2 := V_mul hp ud
      obtain ⟨_, _, _, u1⟩ := put_bounds h0 ub hV1
      obtain ⟨_, _, _, u2⟩ := put_bounds h1 ux hV2
      have g1 := grow_rim l0 hV1.1
      have g2 := grow_rim l1 hV2.1
      have un := U_now (seen := s3) h2 w0
      have hI := dstep_eq k a r p b x s0 s1 s2 s3 P.f0 0 0 hr hp hb hx h0 h1 h2 w0 (by unfold I64; omega)
      have hQ := dstep_eq k a r p b x s0 s1 s2 s3 P.f0 P.f1 P.f2 hr hp hb hx h0 h1 h2 w0 w1
      rw [if_neg (by omega)] at hI hQ
      have hQU := stepD_U (k := k) (a := a) (s3 := s3) (size := P.f1) (pre := P.f2) hr hp hb hx h0 h1 h2 w0
      rw [if_neg (show ¬ (chkD k r p b x ≠ 0 ∨ P.f1 < 0) by omega)] at hQU
      unfold stepD at hI hQ hQU
      simp only [] at hI hQ hQU
      obtain ⟨one, e1⟩ : ∃ one, one = growV s0 (b * 1000000000) (r * dtV s2 s3 P.f0) := ⟨_, rfl⟩
      obtain ⟨two, e2⟩ : ∃ two, two = growV s1 (x * 1000000000) (p * dtV s2 s3 P.f0) := ⟨_, rfl⟩
      rw [← e1] at hI hQ hQU u1 g1
      rw [← e2] at hI hQ hQU u2 g2
      have hp0 : paintD (colV a 0) one two 0 = (one, two, 0) := by
        have hcol : colV a 0 = 0 := by unfold colV; cases a <;> simp
        obtain ⟨c1, t1⟩ := take_zero u1
        obtain ⟨c2, t2⟩ := take_zero u2
        rw [hcol, dpaint_green (by simp [c2]) (by simp [c1]), t1, t2]
      rw [hp0] at hI
      have hcr := colV_range a P.f2
      have hF := paintD_facts (colV a P.f2) one two P.f1 hcr
      obtain ⟨⟨z0, z1, c⟩, hz⟩ : ∃ z, z = paintD (colV a P.f2) one two P.f1 := ⟨_, rfl⟩
      rw [← hz] at hQ hF hQU
      dsimp only at hI hQ hF hQU
      obtain ⟨uz0, uz1, _⟩ := hQU
      have hnd := U_need P.f1
      obtain ⟨nd, end'⟩ : ∃ nd, nd = needV P.f1 := ⟨_, rfl⟩
      rw [← end'] at hF hnd
      have hN : bucket_Need.f P.f1 = some (nd, okV P.f1) := by unfold bucket_Need.f; rw [if_pos w1, end']
      obtain ⟨nw, enw⟩ : ∃ nw, nw = nowV s2 s3 P.f0 := ⟨_, rfl⟩
      rw [← enw] at hI hQ un
      have hseen : s3 = true → ¬ (nw < s2) := fun hs => by
        rw [enw]; unfold nowV
        split
        · omega
        · rename_i hh
          have : ¬ (P.f0 ≤ s2) := fun h' => hh ⟨hs, h'⟩
          omega
      have hcol : a = true → ¬ (c < mn P.f2 2) := fun ha => by
        have := col_mn P.f2
        have hm2 : mn P.f2 2 ≤ 2 := by unfold mn; split <;> omega
        rw [ha] at hF
        omega
      have hz0 : ¬ (z0 > b * 1000000000) := by unfold U at *; omega
      have hz1 : ¬ (z1 > x * 1000000000) := by unfold U at *; omega
      have hno : okV P.f1 = false → c = 2 := fun h => by
        rw [h] at hF
        simp at hF
        exact hF.1
      refine Ev.step (f := fun n => weighbridgelaw27_DoubleTakes.j2 n xs (j : Int) c nd false k a r p b x (b * 1000000000) (x * 1000000000) m2 m3 one two nw true z0 z1 nw true) (fun n => ?_) ?_
      · simp only [weighbridgelaw27_DoubleTakes.l0]
        rw [if_pos (show (j : Int) < (xs.length : Int) by omega), if_pos (show (0 : Int) ≤ (j : Int) by omega), ← hP, if_neg hn, hI, hQ, hN]
        simp only [Option.bind_some]
        rw [if_neg hz0, if_neg hz1, if_pos trivial, if_pos trivial]
        have hend : (if okV P.f1 = true then weighbridgelaw27_DoubleTakes.j2 n xs (j : Int) c nd false k a r p b x (b * 1000000000) (x * 1000000000) m2 m3 one two nw true z0 z1 nw true else weighbridgelaw27_DoubleTakes.j2 n xs (j : Int) c nd (c != 2) k a r p b x (b * 1000000000) (x * 1000000000) m2 m3 one two nw true z0 z1 nw true) = weighbridgelaw27_DoubleTakes.j2 n xs (j : Int) c nd false k a r p b x (b * 1000000000) (x * 1000000000) m2 m3 one two nw true z0 z1 nw true := by
          rcases Bool.eq_false_or_eq_true (okV P.f1) with e | e
          · rw [if_pos e]
          · rw [if_neg (by simp [e]), hno e]
            rfl
        have hend2 : (if a = true then (if c < mn P.f2 2 then none else (if okV P.f1 = true then weighbridgelaw27_DoubleTakes.j2 n xs (j : Int) c nd false k a r p b x (b * 1000000000) (x * 1000000000) m2 m3 one two nw true z0 z1 nw true else weighbridgelaw27_DoubleTakes.j2 n xs (j : Int) c nd (c != 2) k a r p b x (b * 1000000000) (x * 1000000000) m2 m3 one two nw true z0 z1 nw true)) else (if okV P.f1 = true then weighbridgelaw27_DoubleTakes.j2 n xs (j : Int) c nd false k a r p b x (b * 1000000000) (x * 1000000000) m2 m3 one two nw true z0 z1 nw true else weighbridgelaw27_DoubleTakes.j2 n xs (j : Int) c nd (c != 2) k a r p b x (b * 1000000000) (x * 1000000000) m2 m3 one two nw true z0 z1 nw true)) = weighbridgelaw27_DoubleTakes.j2 n xs (j : Int) c nd false k a r p b x (b * 1000000000) (x * 1000000000) m2 m3 one two nw true z0 z1 nw true := by
          by_cases ha : a = true
          · rw [if_pos ha, if_neg (hcol ha), hend]
          · rw [if_neg ha, hend]
        by_cases hs : s3 = true
        · rw [if_pos hs, if_neg (hseen hs)]; exact hend2
        · rw [if_neg hs]; exact hend2
      have hlast := hrec z0 z1 nw true (by omega) uz0 uz1 un (by omega) (by omega)
      have wz : ∀ v : Int, U v → IntKind.u64.wrap v = v := fun v hv => by rw [wrap_lo, lo_of_U hv]
      rcases hF with ⟨rfl, f0, f1⟩ | ⟨rfl, _, _, f0, f1⟩ | ⟨rfl, _, _, f0, f1⟩
      · refine Ev.step (f := fun n => weighbridgelaw27_DoubleTakes.j3 n xs (j : Int) 2 nd 0 0 k a r p b x (b * 1000000000) (x * 1000000000) m2 m3 one two nw true z0 z1 nw true) (fun n => ?_) ?_
        · simp only [weighbridgelaw27_DoubleTakes.j2]
          rw [if_neg (by simp), if_neg (by omega)]
        refine Ev.step (fun n => ?_) hlast
        simp only [weighbridgelaw27_DoubleTakes.j3]
        rw [if_pos trivial, show one - z0 = 0 from by omega, show two - z1 = 0 from by omega, if_pos (wz 0 U_zero), if_pos (wz 0 U_zero), wrap_next hlt (by omega)]
      · refine Ev.step (f := fun n => weighbridgelaw27_DoubleTakes.j3 n xs (j : Int) 1 nd 0 0 k a r p b x (b * 1000000000) (x * 1000000000) m2 m3 one two nw true z0 z1 nw true) (fun n => ?_) ?_
        · simp only [weighbridgelaw27_DoubleTakes.j2]
          rw [if_neg (by simp), if_neg (by omega)]
        refine Ev.step (fun n => ?_) hlast
        simp only [weighbridgelaw27_DoubleTakes.j3]
        rw [if_neg (by omega), show one - z0 = 0 from by omega, show two - z1 = nd from by omega, if_pos (wz 0 U_zero), if_pos (wz nd hnd), wrap_next hlt (by omega)]
      · refine Ev.step (f := fun n => weighbridgelaw27_DoubleTakes.j3 n xs (j : Int) 0 nd nd 0 k a r p b x (b * 1000000000) (x * 1000000000) m2 m3 one two nw true z0 z1 nw true) (fun n => ?_) ?_
        · simp only [weighbridgelaw27_DoubleTakes.j2]
          rw [if_neg (by simp), if_pos trivial]
        refine Ev.step (fun n => ?_) hlast
        simp only [weighbridgelaw27_DoubleTakes.j3]
        rw [if_neg (by omega), show one - z0 = nd from by omega, show two - z1 = nd from by omega, if_pos (wz nd hnd), if_pos (wz nd hnd), wrap_next hlt (by omega)]

theorem dtakes_pure (xs : List S28) (hwf : ∀ p ∈ xs, okA p) (k : Int) (a : Bool) (r p b x : Int) (hr : U r) (hp : U p) (hb : U b) (hx : U x) :
    Ev (fun n => weighbridgelaw27_DoubleTakes.f n k a r p b x xs) true := by
  have hend : ∀ s0 s1 s2 s3, Ev (fun n => weighbridgelaw27_DoubleTakes.j0 n xs true k a r p b x s0 s1 s2 s3) true := fun s0 s1 s2 s3 => by
    refine Ev.step (f := fun _ => some true) (fun n => ?_) (Ev.now _)
    simp only [weighbridgelaw27_DoubleTakes.j0]
    rw [if_pos trivial, live27_true]
    rfl
  unfold weighbridgelaw27_DoubleTakes.f
  rw [dnew_eq _ _ _ _ _ _ hb hx]
  refine Ev.congr (fun n => Option.bind_some _ _) ?_
  unfold newS
  by_cases hc : chkD k r p b x = 0
  · rw [if_pos hc]
    refine Ev.congr (fun n => if_pos rfl) ?_
    obtain ⟨kb, kx⟩ := chkD_ok hc
    by_cases hl : (xs.length : Int) > 200
    · rw [show decide ((xs.length : Int) > 200) = true from decide_eq_true hl]
      exact hend _ _ _ _
    · rw [show decide ((xs.length : Int) > 200) = false from decide_eq_false hl]
      refine Ev.step (fun n => ?_) (dtakes_l0 xs hwf (by omega) k a r p b x hr hp hb hx hc 0 false xs.length 0 _ _ 0 false (by omega) (nano_in hb kb).2.1 (nano_in hx kx).2.1 U_zero (Int.le_refl _) (Int.le_refl _))
      simp only [weighbridgelaw27_DoubleTakes.j0]
      rw [if_neg (by simp)]
      rfl
  · rw [if_neg hc]
    refine Ev.congr (fun n => if_neg hc) ?_
    exact hend _ _ _ _

theorem dtakes_any (k : Int) (a : Bool) (r p b x : Int) (ao : Option Addr) (n cap : Nat) (w : World) (hr : U r) (hp : U p) (hb : U b) (hx : U x) (hle : n ≤ cap) (hmax : cap ≤ maxLen)
    (hL : ∀ k, k < n → ∃ (b off : Nat) (cs : List Value), ao = some ⟨b, off, none⟩ ∧ b < w.heap.size ∧ cellsOk [some .u64, some .i64, some .i64] cs ∧ ∀ i, i < 3 → w.cell? ⟨b, off + k * 3 + i, none⟩ = cs[i]?) :
    Calls Try.prog 5 #[.agg #[.int .i64 k, .bool a, .int .u64 r, .int .u64 p, .int .u64 b, .int .u64 x], .slice ao n cap] w fun e w' => e = .returned (.bool true) ∧ Below w.heap.size w w' := by
  obtain ⟨xs, rfl, hwf, hC⟩ := asked_list (Nat.le_trans hle hmax) hL
  obtain ⟨K, hK⟩ := dtakes_pure xs hwf k a r p b x hr hp hb hx
  exact weighbridgelaw27_DoubleTakes.calls K k a r p b x ao cap xs true w hC hle (hK K (Nat.le_refl _))
end Go.Proofs.Ytkefamalcmglgaa.P
namespace Go.Proofs.Ytkefamalcmglgaa
open Go.ChangeShapes Go.WideShapes Go.ChangeAt Go.RowKit
set_option maxRecDepth 100000 in
set_option maxHeartbeats 1000000 in
theorem dtakes_lifted (os : Os) (started : os.Started) (H : Type) (enc : TypeId × Value → H) :
    ReturnsInHanded {} Try.checked os 5 .any (Rows.doubleTakesSpec.pre6 enc Try.prog Try.f5 Rows.doubleTakesRow.domain false) (Rows.doubleTakesSpec.post enc Try.prog Try.f5 false true false false) := by
  refine returnsInHanded_of_change_sized (C := Try.checked) Try.own started (by kernel_rfl) Try.func5
    (ChangeSpec.witness6 (enc := enc) (C := Try.checked) false ⟨#[], #[.agg #[.int .i64 0, .bool false, .int .u64 0, .int .u64 0, .int .u64 0, .int .u64 0], .slice none 0 0], []⟩ 8 (by kernel_rfl) (by kernel_rfl) (by kernel_rfl) (by kernel_rfl)) ?_
  intro W base args ds gs before hval0 hW hcnd hsz0 _
  have hsz : (DataW.weightsEach Try.prog (Try.f5.params.toList ++ Rows.doubleTakesSpec.plain.varTypes Try.prog) (ds ++ gs)).all (· ≤ reachBytes) = true := hsz0
  have hval : ∀ (j : Nat) t v, Try.f5.params[j]? = some t → args[j]? = some v → Value.okWide Try.prog W .any base t v := hval0
  have hW' := hW
  obtain ⟨p, q, hA0, hV, rfl, hfz, hnd⟩ := hW
  have hA : DataW.TrodAll enc Try.prog W 0 (fun _ => true) true Try.f5.params.toList args.toList ds p := hA0
  have hAk := hA
  rw [Try.params5] at hA hval hsz
  obtain ⟨v0, vs0, d0, ds0, p0, q0, hargs, rfl, rfl, h0, r0⟩ := trodAll_cons hA
  obtain ⟨v1, vs1, d1, ds1, p1, q1, rfl, rfl, rfl, h1, r1⟩ := trodAll_cons r0
  obtain ⟨rfl, rfl, rfl⟩ := trodAll_nil r1
  obtain rfl : args = #[v0, v1] := by simpa using congrArg List.toArray hargs
  obtain ⟨rfl, rfl⟩ := trodVars_none hV
  obtain ⟨cs0, rfl, hc0⟩ := open_struct Try.underlying24 (by kernel_rfl) (ks := [some .i64, none, some .u64, some .u64, some .u64, some .u64]) (by kernel_rfl) (by kernel_rfl) (hval 0 24 v0 rfl rfl) h0
  obtain ⟨_, _, rfl, ⟨m0, rfl, wfm0⟩, _, _, rfl, ⟨m1, rfl⟩, _, _, rfl, ⟨m2, rfl, wfm2⟩, _, _, rfl, ⟨m3, rfl, wfm3⟩, _, _, rfl, ⟨m4, rfl, wfm4⟩, _, _, rfl, ⟨m5, rfl, wfm5⟩, rfl⟩ := hc0
  have wm0 : I64 m0 := I64_wf wfm0
  have wm2 : U m2 := U_wf wfm2
  have wm3 : U m3 := U_wf wfm3
  have wm4 : U m4 := U_wf wfm4
  have wm5 : U m5 := U_wf wfm5
  have hs1 := hsz
  obtain ⟨ao1, n1, cap1, rfl, hle1, hmax1, hL1⟩ := open_structs Try.underlying37 Try.underlying28 (by kernel_rfl) (ks := [some .u64, some .i64, some .i64]) (by kernel_rfl) (c := 3) (by kernel_rfl) rfl (by decide) (hval 1 37 v1 rfl rfl) h1
  have hz1 := len_sized hs1 (j := 1) rfl rfl Try.underlying37 rfl h1
  clear hA0 hval0 hsz0 hsz
  simp only [List.append_nil] at hW' hAk
  refine (P.dtakes_any m0 m1 m2 m3 m4 m5 ao1 n1 cap1 W wm2 wm3 wm4 wm5 hle1 hmax1 hL1).mono fun e W' ⟨he, hb⟩ => ?_
  subst he
  exact ⟨_, rfl, law_post Try.laidOut (by kernel_rfl) rfl Try.underlying4 rfl hW' hAk rfl hb⟩

/-- The law DoubleTakes answers true, whatever the input. Condition: none. -/
theorem doubleTakes_holds : Rows.DoubleTakesSaid :=
  OpenClaim.holds_of_wide 5 Try.f5 rfl rfl rfl rfl rfl rfl rfl ⟨rfl, rfl, rfl, rfl, rfl⟩ rfl rfl rfl rfl rfl (by kernel_rfl) Try.func5 (by kernel_rfl)
    (of_decide_eq_true (by kernel_rfl)) (by unfold Func.isWrapper; rw [if_neg (of_decide_eq_false (by kernel_rfl))]; exact ⟨rfl, rfl⟩)
    (fun os started H enc _ => dtakes_lifted os started H enc)

end Go.Proofs.Ytkefamalcmglgaa
