/- Part of the proof. -/
import Derived.Test.YtiaoaoebghnpkaaKP48
import Derived.Test.YtiaoaoebghnpkaaKP46
import Derived.Test.YtiaoaoebghnpkaaKP10
import Derived.Test.YtiaoaoebghnpkaaKP11
/- What outlook.Pace and the document's answer come to: the same. -/
namespace Go.Proofs.Ytiaoaoebghnpkaa.P
open Go.RowKit Go.Proofs.YtiaoaoebghnpkaaW.PrintWords Go.Proofs.YtiaoaoebghnpkaaW.PrintLast Go.Proofs.YtiaoaoebghnpkaaW.PrintMore

theorem rd_nat (l : List Int) (j : Nat) : rd l (j : Int) = l.getD j 0 := by unfold rd; rw [Int.toNat_natCast]
theorem wrap_up {j n : Nat} (h : j < n) (hl : n ≤ 17592186044416) : wrap64 ((j : Int) + 1) = ((j + 1 : Nat) : Int) := by unfold wrap64; omega
/-- The least times at which packets have the colour, from the i-th one on. -/
def paceL (k : Int) (a : Bool) (r p b x want : Int) (xs : List Int) : Nat → Nat → List Int → Int → Int → Int → Bool → List Int × Int × Int
  | 0, _, acc, _, _, _, _ => (acc, 0, 0)
  | d + 1, i, acc, s0, s1, s2, s3 =>
    let q := outWhen k r p b x s0 s1 s2 s3 (xs.getD i 0) want
    let z := stepM k a r p b x s0 s1 s2 s3 q.1 (xs.getD i 0) 0
    if q.2 = true then paceL k a r p b x want xs d (i + 1) (acc ++ [q.1]) z.1 z.2.1 z.2.2.1 z.2.2.2.1 else ([], 8, (i : Int))
def paceV (k : Int) (a : Bool) (r p b x want : Int) (xs : List Int) : List Int × Int × Int :=
  if chkM k r p b x ≠ 0 then ([], chkM k r p b x, 0) else if want < 0 ∨ 2 < want then ([], 13, 0) else paceL k a r p b x want xs xs.length 0 [] (b * 1000000000) (x * 1000000000) 0 false
theorem getD_I64 {xs : List Int} (h : ∀ z ∈ xs, I64 z) (i : Nat) : I64 (xs.getD i 0) := by
  rw [List.getD_eq_getElem?_getD]
  rcases Nat.lt_or_ge i xs.length with hi | hi
  · rw [List.getElem?_eq_getElem hi]
    exact h _ (List.getElem_mem hi)
  · rw [List.getElem?_eq_none hi]
    show I64 0
    unfold I64; omega
theorem outWhen_U {k r p b x s0 s1 s2 : Int} {s3 : Bool} {size want : Int} (hr : U r) (hp : U p) (h2 : U s2) (h : (outWhen k r p b x s0 s1 s2 s3 size want).2 = true) : U (outWhen k r p b x s0 s1 s2 s3 size want).1 := by
  unfold outWhen at h ⊢
  split
  · exact U_zero
  · rename_i hc
    rw [if_neg hc] at h
    obtain ⟨T, v, hv⟩ : ∃ T v, whenV s2 s3 (askV k s0 s1 (b * 1000000000) (x * 1000000000) r p size want) = (T, v) := ⟨_, _, rfl⟩
    rw [hv] at h ⊢
    dsimp only at h
    subst h
    exact (when_some h2 (ask_waits (k := k) (s0 := s0) (s1 := s1) (R1 := b * 1000000000) (R2 := x * 1000000000) (size := size) hr.1 hp.1 (by omega) (by omega)) hv).2.1
theorem set_here (acc : List Int) (d : Nat) (v : Int) : (acc ++ List.replicate (d + 1) 0).set acc.length v = (acc ++ [v]) ++ List.replicate d 0 := by
  rw [List.set_append_right _ _ (Nat.le_refl _), Nat.sub_self, List.replicate_succ, List.set_cons_zero]
  simp

theorem pace_l0 {k : Int} {a : Bool} {r p b x want : Int} {xs : List Int} (hb : U b) (hx : U x) (hr : U r) (hp : U p) (hxs : ∀ z ∈ xs, I64 z) (hl : xs.length ≤ 1000000) : ∀ (d i : Nat) (acc : List Int) (s0 s1 s2 : Int) (s3 : Bool), i + d = xs.length → acc.length = i → U s0 → U s1 → U s2 →
    Ev (fun n => outlook_Pace.l0 n want (acc ++ List.replicate d 0) xs (xs.length : Int) (i : Int) k a r p b x s0 s1 s2 s3) (paceL k a r p b x want xs d i acc s0 s1 s2 s3)
  | 0, i, acc, s0, s1, s2, s3, hi, ha, h0, h1, h2 => by
    refine Ev.step (f := fun _ => some (acc, 0, 0)) (fun n => ?_) (Ev.now _)
    simp only [outlook_Pace.l0]
    rw [if_neg (by omega)]
    simp
  | d + 1, i, acc, s0, s1, s2, s3, hi, ha, h0, h1, h2 => by
    have us := getD_I64 hxs i
    have hW := fun n => outWhen_eq n k a r p b x s0 s1 s2 s3 (xs.getD i 0) want hb hx h0 h1 h2 hr hp us
    unfold paceL
    simp only []
    obtain ⟨q, hq⟩ : ∃ q, q = outWhen k r p b x s0 s1 s2 s3 (xs.getD i 0) want := ⟨_, rfl⟩
    have hqU : q.2 = true → U q.1 := fun h => by rw [hq] at h ⊢; exact outWhen_U hr hp h2 h
    rw [← hq] at hW ⊢
    clear hq
    rcases Bool.eq_false_or_eq_true q.2 with e | e
    · rw [if_pos e]
      have ut := hqU e
      have hS := stepM_U (k := k) (a := a) (s3 := s3) (size := xs.getD i 0) (pre := 0) hr hp hb hx h0 h1 h2 ut
      have hrec := pace_l0 (k := k) (a := a) (want := want) hb hx hr hp hxs hl d (i + 1) (acc ++ [q.1]) _ _ _ (stepM k a r p b x s0 s1 s2 s3 q.1 (xs.getD i 0) 0).2.2.2.1 (by omega) (by simp [ha]) hS.1 hS.2.1 hS.2.2
      obtain ⟨K, hK⟩ := hrec
      dsimp only at hK
      refine ⟨K + 4, fun n hn => ?_⟩
      obtain ⟨m, rfl⟩ : ∃ m, n = m + 4 := ⟨n - 4, by omega⟩
      simp only [outlook_Pace.l0]
      rw [if_pos (by omega), if_pos (by omega), if_pos (by omega), rd_nat, hW m]
      simp only [Option.bind_some]
      rw [if_pos e, mstep_eq k a r p b x s0 s1 s2 s3 q.1 _ 0 hr hp hb hx h0 h1 h2 ut us]
      simp only [Option.bind_some]
      rw [if_pos (by simp; omega), Int.toNat_natCast, ← ha, set_here, ha, wrap_up (show i < xs.length by omega) (by omega)]
      exact hK (m + 3) (by omega)
    · rw [if_neg (by simp [e])]
      refine ⟨4, fun n hn => ?_⟩
      obtain ⟨m, rfl⟩ : ∃ m, n = m + 4 := ⟨n - 4, by omega⟩
      simp only [outlook_Pace.l0]
      rw [if_pos (by omega), if_pos (by omega), if_pos (by omega), rd_nat, hW m]
      simp only [Option.bind_some]
      rw [if_neg (by simp [e])]
theorem pace_eq {k : Int} {a : Bool} {r p b x want : Int} {xs : List Int} (hb : U b) (hx : U x) (hr : U r) (hp : U p) (hxs : ∀ z ∈ xs, I64 z) (hl : xs.length ≤ 1000000) :
    Ev (fun n => outlook_Pace.f n k a r p b x xs want) (paceV k a r p b x want xs) := by
  unfold paceV
  refine Ev.congr (fun n => by unfold outlook_Pace.f; rw [mnew_eq k a r p b x hb hx]) ?_
  unfold newS
  by_cases hc : chkM k r p b x = 0
  · obtain ⟨kb, kx⟩ := chkM_ok hc
    rw [if_pos hc, if_neg (fun h => h hc)]
    by_cases hw : want < 0 ∨ 2 < want
    · rw [if_pos hw]
      refine Ev.congr (fun n => ?_) (Ev.now _)
      simp only [Option.bind_some, if_true]
      rw [is_eq]
      simp only [Option.bind_some]
      rw [if_neg (by simp; omega)]
    · rw [if_neg hw]
      have h := pace_l0 (k := k) (want := want) (a := a) hb hx hr hp hxs hl xs.length 0 [] (b * 1000000000) (x * 1000000000) 0 false (by omega) rfl (nano_in hb kb).2.1 (nano_in hx kx).2.1 U_zero
      refine Ev.congr (fun n => ?_) h
      simp only [Option.bind_some, if_true]
      rw [is_eq]
      simp only [Option.bind_some]
      rw [if_pos (by simp; omega), if_pos (by omega), if_pos (by simp; omega)]
      simp
  · rw [if_neg hc, if_pos hc]
    refine Ev.congr (fun n => ?_) (Ev.now _)
    simp only [Option.bind_some]
    rw [if_neg hc]
end Go.Proofs.Ytiaoaoebghnpkaa.P
