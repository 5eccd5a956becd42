/- Part of the proof. -/
import Derived.Test.YtiaoaoebghnpkaaMT41
/- What the law OutlookTrue asks, of plain numbers: at the time that is told a packet has the colour, ahead of it not; packets at their pace have it all. -/
namespace Go.Proofs.Ytiaoaoebghnpkaa.P
open Go.RowKit

theorem outWhen_ok {k r p b x s0 s1 s2 : Int} {s3 : Bool} {size want : Int} (hc : chkM k r p b x = 0) (hs : 0 ≤ size) (w0 : 0 ≤ want) (w2 : want ≤ 2) :
    outWhen k r p b x s0 s1 s2 s3 size want = whenV s2 s3 (askV k s0 s1 (b * 1000000000) (x * 1000000000) r p size want) := by
  unfold outWhen
  rw [if_neg (by omega)]
/-- No time is told: at no time it has the colour. -/
theorem never_true {k : Int} {a : Bool} {r p b x s0 s1 s2 : Int} {s3 : Bool} {size want T : Int} (hc : chkM k r p b x = 0) (hr : U r) (hp : U p) (h2 : U s2) (hs : 0 ≤ size) (w0 : 0 ≤ want) (w2 : want ≤ 2)
    (h : outWhen k r p b x s0 s1 s2 s3 size want = (T, false)) (t : Int) (ht : U t) : want < (stepM k a r p b x s0 s1 s2 s3 t size 0).2.2.2.2 := by
  rw [outWhen_ok hc hs w0 w2] at h
  rw [stepM_colE hc hs]
  have := (when_none h2 (ask_waits (k := k) (s0 := s0) (s1 := s1) (R1 := b * 1000000000) (R2 := x * 1000000000) (size := size) hr.1 hp.1 w0 w2) h).2 t ht
  omega
/-- A time is told: it is not ahead of the last one, and from it on, and no earlier, the packet has the colour. -/
theorem told_true {k : Int} {a : Bool} {r p b x s0 s1 s2 : Int} {s3 : Bool} {size want T : Int} (hc : chkM k r p b x = 0) (hr : U r) (hp : U p) (h2 : U s2) (hs : 0 ≤ size) (w0 : 0 ≤ want) (w2 : want ≤ 2)
    (h : outWhen k r p b x s0 s1 s2 s3 size want = (T, true)) :
    U T ∧ (s3 = true → s2 ≤ T) ∧ (s3 = false → T = 0) ∧ (stepM k a r p b x s0 s1 s2 s3 T size 0).2.2.2.2 ≤ want ∧ (0 < T → s2 < T → want < (stepM k a r p b x s0 s1 s2 s3 (T - 1) size 0).2.2.2.2) := by
  rw [outWhen_ok hc hs w0 w2] at h
  obtain ⟨g1, g2, g3⟩ := when_some h2 (ask_waits (k := k) (s0 := s0) (s1 := s1) (R1 := b * 1000000000) (R2 := x * 1000000000) (size := size) hr.1 hp.1 w0 w2) h
  have hz : s3 = false → T = 0 := fun e => by
    subst e
    unfold whenV at h
    rw [if_neg (by simp)] at h
    split at h
    · simp at h
    · simpa using h.symm
  refine ⟨g2, fun e => (by rw [if_pos e] at g1; exact g1), hz, ?_, fun hT hl => ?_⟩
  · rw [stepM_colE hc hs]
    exact (g3 T g2 g1).2 (Int.le_refl _)
  · rw [stepM_colE hc hs]
    cases s3 with
    | true =>
      rw [if_pos rfl] at g3
      have := g3 (T - 1) (by unfold U at *; omega) (by omega)
      omega
    | false => have := hz rfl; omega
theorem stepM_last {k : Int} {a : Bool} {r p b x s0 s1 s2 : Int} {s3 : Bool} {t size pre : Int} (hc : chkM k r p b x = 0) (hs : 0 ≤ size) :
    (stepM k a r p b x s0 s1 s2 s3 t size pre).2.2.1 = nowV s2 s3 t ∧ (stepM k a r p b x s0 s1 s2 s3 t size pre).2.2.2.1 = true := by
  unfold stepM
  rw [if_neg (by omega)]
  split <;> exact ⟨rfl, rfl⟩

theorem zip_get (l xs : List Int) (i : Nat) (hi : i < l.length) (hx : i < xs.length) : (List.zip l xs).getD i (0, 0) = (l.getD i 0, xs.getD i 0) := by
  rw [List.getD_eq_getElem?_getD, List.getElem?_eq_getElem (by rw [List.length_zip]; omega), List.getD_eq_getElem?_getD, List.getD_eq_getElem?_getD, List.getElem?_eq_getElem hi, List.getElem?_eq_getElem hx]
  simp [List.getElem_zip]
theorem set_zero {o : List Int} (ho : ∀ j, o.getD j 0 = 0) (i : Nat) : ∀ j, (o.set i 0).getD j 0 = 0 := fun j => by
  have := ho j
  rw [List.getD_eq_getElem?_getD] at this ⊢
  rw [List.getElem?_set]
  split
  · split <;> simp
  · exact this
/-- Packets at their pace have the colour all. -/
theorem pace_true {k : Int} {a : Bool} {r p b x : Int} {xs : List Int} (hc : chkM k r p b x = 0) (hr : U r) (hp : U p) (hb : U b) (hx : U x) (hxs : ∀ z ∈ xs, 0 ≤ z ∧ z ≤ 65535) (o : List Int) (S0 S1 S2 : Int) (S3 : Bool) :
    ∀ (d i : Nat) (acc : List Int) (s0 s1 s2 : Int) (s3 : Bool) (l : List Int) (f0 f1 : Int), i + d = xs.length → acc.length = i → U s0 → U s1 → U s2 → paceL k a r p b x 0 xs d i acc s0 s1 s2 s3 = (l, f0, f1) →
      (f0 = 8 ∧ l = []) ∨ (f0 = 0 ∧ f1 = 0 ∧ l.length = xs.length ∧ (∀ j, j < i → l.getD j 0 = acc.getD j 0) ∧ (s3 = true → i < xs.length → s2 ≤ l.getD i 0) ∧ (∀ j, i ≤ j → j + 1 < xs.length → l.getD j 0 ≤ l.getD (j + 1) 0) ∧ (∀ j, i ≤ j → j < xs.length → U (l.getD j 0)) ∧
        ∀ out, out.length = xs.length → (∀ j, out.getD j 0 = 0) → mrun k a r p b x (List.zip l xs) o S0 S1 S2 S3 i = some ((s0, s1, s2, s3), out) →
          ∃ q, mrun k a r p b x (List.zip l xs) o S0 S1 S2 S3 xs.length = some q ∧ ∀ j, q.2.getD j 0 = 0)
  | 0, i, acc, s0, s1, s2, s3, l, f0, f1, hi, ha, h0, h1, h2, h => by
    unfold paceL at h
    simp only [Prod.mk.injEq] at h
    obtain ⟨rfl, rfl, rfl⟩ := h
    refine .inr ⟨rfl, rfl, by omega, fun _ _ => rfl, fun _ hl => absurd hl (by omega), fun j h1 h2 => absurd h2 (by omega), fun j h1 h2 => absurd h2 (by omega), fun out _ ho hm => ?_⟩
    obtain rfl : i = xs.length := by omega
    exact ⟨_, hm, ho⟩
  | d + 1, i, acc, s0, s1, s2, s3, l, f0, f1, hi, ha, h0, h1, h2, h => by
    unfold paceL at h
    simp only [] at h
    have hsz : 0 ≤ xs.getD i 0 ∧ xs.getD i 0 ≤ 65535 := by
      rw [List.getD_eq_getElem?_getD, List.getElem?_eq_getElem (by omega)]
      exact hxs _ (List.getElem_mem _)
    have hsi : I64 (xs.getD i 0) := by unfold I64; omega
    obtain ⟨T, v, hv⟩ : ∃ T v, outWhen k r p b x s0 s1 s2 s3 (xs.getD i 0) 0 = (T, v) := ⟨_, _, rfl⟩
    rw [hv] at h
    dsimp only at h
    cases v with
    | false =>
      rw [if_neg (by simp)] at h
      simp only [Prod.mk.injEq] at h
      exact .inl ⟨h.2.1.symm, h.1.symm⟩
    | true =>
      rw [if_pos rfl] at h
      obtain ⟨uT, g1, g2, g3, _⟩ := told_true (a := a) hc hr hp h2 hsz.1 (Int.le_refl 0) (by omega) hv
      have u := stepM_U (k := k) (a := a) (s3 := s3) (size := xs.getD i 0) (pre := 0) hr hp hb hx h0 h1 h2 uT
      have hcol := (stepM_col (k := k) (a := a) (r := r) (p := p) (b := b) (x := x) (s0 := s0) (s1 := s1) (s2 := s2) (s3 := s3) (t := T) (size := xs.getD i 0) (pre := 0)).1
      obtain ⟨e1, e2⟩ := stepM_last (k := k) (a := a) (s0 := s0) (s1 := s1) (s2 := s2) (s3 := s3) (t := T) (pre := 0) hc hsz.1
      have hst := mstep_eq k a r p b x s0 s1 s2 s3 T (xs.getD i 0) 0 hr hp hb hx h0 h1 h2 uT hsi
      obtain ⟨z0, z1, z2, z3, z4, hz⟩ : ∃ z0 z1 z2 z3 z4, stepM k a r p b x s0 s1 s2 s3 T (xs.getD i 0) 0 = (z0, z1, z2, z3, z4) := ⟨_, _, _, _, _, rfl⟩
      rw [hz] at h u g3 e1 e2 hst hcol
      dsimp only at h u g3 e1 e2 hst hcol
      have hz4 : z4 = 0 := by omega
      subst hz4
      have hnow : T ≤ z2 := by
        rw [e1]
        unfold nowV
        split <;> omega
      rcases pace_true hc hr hp hb hx hxs o S0 S1 S2 S3 d (i + 1) (acc ++ [T]) z0 z1 z2 z3 l f0 f1 (by omega) (by simp [ha]) u.1 u.2.1 u.2.2 h with hh | ⟨hf0, hf1, hl, hpre, hnext, hmono, hU, hrun⟩
      · exact .inl hh
      · have hT : l.getD i 0 = T := by
          rw [hpre i (by omega), List.getD_eq_getElem?_getD, List.getElem?_append_right (by omega), ha]
          simp
        refine .inr ⟨hf0, hf1, hl, fun j hj => ?_, fun e _ => ?_, fun j hj hj1 => ?_, fun j hj hj1 => ?_, fun out hol ho hm => ?_⟩
        · rw [hpre j (by omega), List.getD_eq_getElem?_getD, List.getD_eq_getElem?_getD, List.getElem?_append_left (by omega)]
        · rw [hT]; exact g1 e
        · rcases Nat.lt_or_ge i j with hlt | hge
          · exact hmono j (by omega) hj1
          · obtain rfl : j = i := by omega
            rw [hT]
            exact Int.le_trans hnow (hnext e2 hj1)
        · rcases Nat.lt_or_ge i j with hlt | hge
          · exact hU j (by omega) hj1
          · obtain rfl : j = i := by omega
            rw [hT]; exact uT
        · refine hrun (out.set i 0) (by rw [List.length_set]; exact hol) (set_zero ho i) ?_
          unfold mrun
          rw [hm]
          simp only [Option.bind_some]
          rw [zip_get l xs i (by omega) (by omega), hT, ho i, hst]
          rfl
/-- What is told of the pace, and what a run at this pace answers. -/
theorem paceV_true {k : Int} {a : Bool} {r p b x : Int} {xs : List Int} (hc : chkM k r p b x = 0) (hr : U r) (hp : U p) (hb : U b) (hx : U x) (hxs : ∀ z ∈ xs, 0 ≤ z ∧ z ≤ 65535) {l : List Int} {f0 f1 : Int} (h : paceV k a r p b x 0 xs = (l, f0, f1)) :
    (f0 = 8 ∧ l = []) ∨ (f0 = 0 ∧ f1 = 0 ∧ l.length = xs.length ∧ (∀ j, j + 1 < xs.length → l.getD j 0 ≤ l.getD (j + 1) 0) ∧ (∀ j, j < xs.length → U (l.getD j 0)) ∧
      ∃ r0 r1 r2 r3 out, mrun k a r p b x (List.zip l xs) (ovr xs.length []) (b * 1000000000) (x * 1000000000) 0 false xs.length = some ((r0, r1, r2, r3), out) ∧ ∀ j, out.getD j 0 = 0) := by
  obtain ⟨kb, kx⟩ := chkM_ok hc
  unfold paceV at h
  rw [if_neg (fun g => g hc), if_neg (by omega)] at h
  have hz : ∀ j, (ovr xs.length []).getD j 0 = 0 := fun j => by
    unfold ovr
    simp [List.getD_eq_getElem?_getD, List.getElem?_replicate]
    split <;> rfl
  have hol : (ovr xs.length []).length = xs.length := by unfold ovr; simp
  rcases pace_true hc hr hp hb hx hxs (ovr xs.length []) (b * 1000000000) (x * 1000000000) 0 false xs.length 0 [] _ _ _ _ l f0 f1 (by omega) rfl (nano_in hb kb).2.1 (nano_in hx kx).2.1 U_zero h with hh | ⟨e0, e1, hl, _, _, hm, hU, hrun⟩
  · exact .inl hh
  · obtain ⟨⟨⟨r0, r1, r2, r3⟩, out⟩, hq, ho⟩ := hrun _ hol hz rfl
    exact .inr ⟨e0, e1, hl, fun j hj => hm j (Nat.zero_le _) hj, fun j hj => hU j (Nat.zero_le _) hj, r0, r1, r2, r3, out, hq, ho⟩
end Go.Proofs.Ytiaoaoebghnpkaa.P
