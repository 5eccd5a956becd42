/- The law DoubleRuns answers true, whatever the input. Condition: none. -/
import Derived.Test.YtkefamalcmglgaaRows
import Derived.Test.YtkefamalcmglgaaOpen
import Derived.Test.YtkefamalcmglgaaPureD
import Derived.Test.YtkefamalcmglgaaPF4
namespace Go.Proofs.Ytkefamalcmglgaa.P
open Go.ChangeShapes Go.WideShapes Go.ChangeAt Go.RowKit Go.Proofs.YtkefamalcmglgaaW.PrintWords Go.Proofs.YtkefamalcmglgaaW.PrintLast Go.Proofs.YtkefamalcmglgaaW.PrintMore

theorem live27_true : weighbridgelaw27_live.f = some true := rfl

def okA (p : S28) : Prop := U p.f0 ∧ I64 p.f1 ∧ I64 p.f2
theorem rd_ok {xs : List S28} (h : ∀ p ∈ xs, okA p) {i : Nat} (hi : i < xs.length) : okA (rd_T28 xs i) := by
  unfold rd_T28
  rw [Int.toNat_natCast, List.getD_eq_getElem?_getD, List.getElem?_eq_getElem hi]
  exact h _ (List.getElem_mem hi)
theorem wrap_next {i n : Nat} (h : i < n) (hn : n ≤ 1000000) : wrap64 ((i : Int) + 1) = ((i + 1 : Nat) : Int) := by
  unfold wrap64; omega

/-- A slice of packets that came in, as a list. -/
theorem asked_list {w : World} {ao : Option Addr} {n : Nat} (hmax : n ≤ 9223372036854775807)
    (hL : ∀ k, k < n → ∃ (b off : Nat) (cs : List Value), ao = some ⟨b, off, none⟩ ∧ b < w.heap.size ∧ cellsOk [some .u64, some .i64, some .i64] cs ∧ ∀ i, i < 3 → w.cell? ⟨b, off + k * 3 + i, none⟩ = cs[i]?) :
    ∃ xs : List S28, xs.length = n ∧ (∀ p ∈ xs, okA p) ∧ Kd.C k28 w ao n xs := by
  obtain ⟨xs, hl, hx⟩ := list_of (R := fun k (p : S28) => okA p ∧ ∃ b off, ao = some ⟨b, off, none⟩ ∧ ∀ i u, [Value.int .u64 p.f0, .int .i64 p.f1, .int .i64 p.f2][i]? = some u → w.cell? ⟨b, off + k * 3 + i, none⟩ = some u) n fun k hk => by
    obtain ⟨b, off, cs, hao, _, hcs, hcell⟩ := hL k hk
    obtain ⟨_, _, rfl, ⟨z0, rfl, w0⟩, _, _, rfl, ⟨z1, rfl, w1⟩, _, _, rfl, ⟨z2, rfl, w2⟩, rfl⟩ := hcs
    refine ⟨⟨z0, z1, z2⟩, ⟨U_wf w0, I64_wf w1, I64_wf w2⟩, b, off, hao, fun i u hu => ?_⟩
    have hi : i < 3 := by
      have := (List.getElem?_eq_some_iff.1 hu).1
      simpa using this
    rw [hcell i hi]
    exact hu
  refine ⟨xs, hl, fun p hp => ?_, hl, hmax, fun hn => ?_⟩
  · obtain ⟨j, hj, rfl⟩ := List.mem_iff_getElem.1 hp
    exact (hx j _ (List.getElem?_eq_getElem hj)).1
  · obtain ⟨b, off, _, hao, _⟩ := hL 0 hn
    refine ⟨⟨b, off, none⟩, hao, fun j p hj => ⟨[.int .u64 p.f0, .int .i64 p.f1, .int .i64 p.f2], rfl, k28_mk w p, fun i u hu => ?_⟩⟩
    obtain ⟨_, b', off', hao', hc⟩ := hx j p hj
    rw [hao] at hao'
    obtain ⟨rfl, rfl⟩ : b = b' ∧ off = off' := by simpa using hao'
    rw [add_mk, ← Nat.add_assoc]
    exact hc i u hu

theorem druns_l0 (xs : List S28) (hwf : ∀ p ∈ xs, okA p) (hlen : xs.length ≤ 200) (k : Int) (a : Bool) (r p b x : Int) (hr : U r) (hp : U p) (hb : U b) (hx : U x) : ∀ (d i : Nat) (s0 s1 s2 : Int) (s3 : Bool), i + d = xs.length → U s0 → U s1 → U s2 →
    weighbridgelaw27_DoubleRuns.l0 (d + 5) xs i k a r p b x s0 s1 s2 s3 s0 s1 s2 s3 = some true
  | 0, i, s0, s1, s2, s3, hi, h0, h1, h2 => by
    simp only [weighbridgelaw27_DoubleRuns.l0]
    rw [if_neg (by omega), live27_true]
    rfl
  | d + 1, i, s0, s1, s2, s3, hi, h0, h1, h2 => by
    have hlt : i < xs.length := by omega
    obtain ⟨w0, w1, w2⟩ := rd_ok hwf hlt
    rw [show d + 1 + 5 = (d + 5) + 1 from by omega]
    simp only [weighbridgelaw27_DoubleRuns.l0]
    rw [if_pos (by omega), if_pos (by omega), dstep_eq _ _ _ _ _ _ _ _ _ _ _ _ _ hr hp hb hx h0 h1 h2 w0 w1, rstep27_eq (d + 3) _ _ _ _ _ _ _ _ _ _ _ _ _ hr hp hb hx h0 h1 h2 w0 w1]
    simp only [Option.bind_some]
    rw [if_neg (by simp), if_pos trivial, wrap_next hlt (by omega)]
    obtain ⟨u0, u1, u2⟩ := stepD_U (k := k) (a := a) (s3 := s3) (size := (rd_T28 xs i).f1) (pre := (rd_T28 xs i).f2) hr hp hb hx h0 h1 h2 w0
    exact druns_l0 xs hwf hlen k a r p b x hr hp hb hx d (i + 1) _ _ _ _ (by omega) u0 u1 u2

theorem druns_pure (xs : List S28) (hwf : ∀ p ∈ xs, okA p) (k : Int) (a : Bool) (r p b x : Int) (hr : U r) (hp : U p) (hb : U b) (hx : U x) :
    weighbridgelaw27_DoubleRuns.f (xs.length + 6) k a r p b x xs = some true := by
  unfold weighbridgelaw27_DoubleRuns.f
  rw [dnew_eq _ _ _ _ _ _ hb hx]
  simp only [Option.bind_some]
  have hlive : ∀ k xs k2 a r p b x s0 s1 s2 s3, weighbridgelaw27_DoubleRuns.j0 (k + 1) xs true k2 a r p b x s0 s1 s2 s3 = some true := by
    intros
    simp only [weighbridgelaw27_DoubleRuns.j0, live27_true]
    rfl
  unfold newS
  by_cases hc : chkD k r p b x = 0
  · obtain ⟨kb, kx⟩ := chkD_ok hc
    rw [if_pos hc]
    simp only []
    rw [if_pos trivial]
    by_cases hl : (xs.length : Int) > 200
    · rw [show decide ((xs.length : Int) > 200) = true from by simpa using hl]
      exact hlive _ _ _ _ _ _ _ _ _ _ _ _
    · rw [show decide ((xs.length : Int) > 200) = false from by simpa using hl]
      simp only [weighbridgelaw27_DoubleRuns.j0]
      rw [if_neg (by simp)]
      exact druns_l0 xs hwf (by omega) k a r p b x hr hp hb hx xs.length 0 _ _ _ _ (by omega) (nano_in hb kb).2.1 (nano_in hx kx).2.1 U_zero
  · rw [if_neg hc]
    simp only []
    rw [if_neg hc]
    exact hlive _ _ _ _ _ _ _ _ _ _ _ _

theorem druns_any (k : Int) (a : Bool) (r p b x : Int) (ao : Option Addr) (n cap : Nat) (w : World) (hr : U r) (hp : U p) (hb : U b) (hx : U x) (hle : n ≤ cap) (hmax : cap ≤ maxLen)
    (hL : ∀ k, k < n → ∃ (b off : Nat) (cs : List Value), ao = some ⟨b, off, none⟩ ∧ b < w.heap.size ∧ cellsOk [some .u64, some .i64, some .i64] cs ∧ ∀ i, i < 3 → w.cell? ⟨b, off + k * 3 + i, none⟩ = cs[i]?) :
    Calls Try.prog 4 #[.agg #[.int .i64 k, .bool a, .int .u64 r, .int .u64 p, .int .u64 b, .int .u64 x], .slice ao n cap] w fun e w' => e = .returned (.bool true) ∧ Below w.heap.size w w' := by
  obtain ⟨xs, rfl, hwf, hC⟩ := asked_list (Nat.le_trans hle hmax) hL
  exact weighbridgelaw27_DoubleRuns.calls (xs.length + 6) k a r p b x ao cap xs true w hC hle (druns_pure xs hwf k a r p b x hr hp hb hx)
end Go.Proofs.Ytkefamalcmglgaa.P
namespace Go.Proofs.Ytkefamalcmglgaa
open Go.ChangeShapes Go.WideShapes Go.ChangeAt Go.RowKit
set_option maxRecDepth 100000 in
set_option maxHeartbeats 1000000 in
theorem druns_lifted (os : Os) (started : os.Started) (H : Type) (enc : TypeId × Value → H) :
    ReturnsInHanded {} Try.checked os 4 .any (Rows.doubleRunsSpec.pre6 enc Try.prog Try.f4 Rows.doubleRunsRow.domain false) (Rows.doubleRunsSpec.post enc Try.prog Try.f4 false true false false) := by
  refine returnsInHanded_of_change_sized (C := Try.checked) Try.own started (by kernel_rfl) Try.func4
    (ChangeSpec.witness6 (enc := enc) (C := Try.checked) false ⟨#[], #[.agg #[.int .i64 0, .bool false, .int .u64 0, .int .u64 0, .int .u64 0, .int .u64 0], .slice none 0 0], []⟩ 8 (by kernel_rfl) (by kernel_rfl) (by kernel_rfl) (by kernel_rfl)) ?_
  intro W base args ds gs before hval0 hW hcnd hsz0 _
  have hsz : (DataW.weightsEach Try.prog (Try.f4.params.toList ++ Rows.doubleRunsSpec.plain.varTypes Try.prog) (ds ++ gs)).all (· ≤ reachBytes) = true := hsz0
  have hval : ∀ (j : Nat) t v, Try.f4.params[j]? = some t → args[j]? = some v → Value.okWide Try.prog W .any base t v := hval0
  have hW' := hW
  obtain ⟨p, q, hA0, hV, rfl, hfz, hnd⟩ := hW
  have hA : DataW.TrodAll enc Try.prog W 0 (fun _ => true) true Try.f4.params.toList args.toList ds p := hA0
  have hAk := hA
  rw [Try.params4] at hA hval hsz
  obtain ⟨v0, vs0, d0, ds0, p0, q0, hargs, rfl, rfl, h0, r0⟩ := trodAll_cons hA
  obtain ⟨v1, vs1, d1, ds1, p1, q1, rfl, rfl, rfl, h1, r1⟩ := trodAll_cons r0
  obtain ⟨rfl, rfl, rfl⟩ := trodAll_nil r1
  obtain rfl : args = #[v0, v1] := by simpa using congrArg List.toArray hargs
  obtain ⟨rfl, rfl⟩ := trodVars_none hV
  obtain ⟨cs0, rfl, hc0⟩ := open_struct Try.underlying24 (by kernel_rfl) (ks := [some .i64, none, some .u64, some .u64, some .u64, some .u64]) (by kernel_rfl) (by kernel_rfl) (hval 0 24 v0 rfl rfl) h0
  obtain ⟨_, _, rfl, ⟨m0, rfl, wfm0⟩, _, _, rfl, ⟨m1, rfl⟩, _, _, rfl, ⟨m2, rfl, wfm2⟩, _, _, rfl, ⟨m3, rfl, wfm3⟩, _, _, rfl, ⟨m4, rfl, wfm4⟩, _, _, rfl, ⟨m5, rfl, wfm5⟩, rfl⟩ := hc0
  have wm0 : I64 m0 := I64_wf wfm0
  have wm2 : U m2 := U_wf wfm2
  have wm3 : U m3 := U_wf wfm3
  have wm4 : U m4 := U_wf wfm4
  have wm5 : U m5 := U_wf wfm5
  have hs1 := hsz
  obtain ⟨ao1, n1, cap1, rfl, hle1, hmax1, hL1⟩ := open_structs Try.underlying37 Try.underlying28 (by kernel_rfl) (ks := [some .u64, some .i64, some .i64]) (by kernel_rfl) (c := 3) (by kernel_rfl) rfl (by decide) (hval 1 37 v1 rfl rfl) h1
  have hz1 := len_sized hs1 (j := 1) rfl rfl Try.underlying37 rfl h1
  clear hA0 hval0 hsz0 hsz
  simp only [List.append_nil] at hW' hAk
  refine (P.druns_any m0 m1 m2 m3 m4 m5 ao1 n1 cap1 W wm2 wm3 wm4 wm5 hle1 hmax1 hL1).mono fun e W' ⟨he, hb⟩ => ?_
  subst he
  exact ⟨_, rfl, law_post Try.laidOut (by kernel_rfl) rfl Try.underlying4 rfl hW' hAk rfl hb⟩

/-- The law DoubleRuns answers true, whatever the input. Condition: none. -/
theorem doubleRuns_holds : Rows.DoubleRunsSaid :=
  OpenClaim.holds_of_wide 4 Try.f4 rfl rfl rfl rfl rfl rfl rfl ⟨rfl, rfl, rfl, rfl, rfl⟩ rfl rfl rfl rfl rfl (by kernel_rfl) Try.func4 (by kernel_rfl)
    (of_decide_eq_true (by kernel_rfl)) (by unfold Func.isWrapper; rw [if_neg (of_decide_eq_false (by kernel_rfl))]; exact ⟨rfl, rfl⟩)
    (fun os started H enc _ => druns_lifted os started H enc)

end Go.Proofs.Ytkefamalcmglgaa
