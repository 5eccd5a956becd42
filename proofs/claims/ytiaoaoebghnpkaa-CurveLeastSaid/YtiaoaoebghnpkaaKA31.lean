/- Parts of the proof, in one text. -/
import Derived.Test.YtiaoaoebghnpkaaKA18
import Derived.Test.YtiaoaoebghnpkaaKA26
import Derived.Test.YtiaoaoebghnpkaaKA25
section
namespace Go.Proofs.Ytiaoaoebghnpkaa.P
open Go.RowKit Go.Proofs.YtiaoaoebghnpkaaW.PrintWords Go.Proofs.YtiaoaoebghnpkaaW.PrintLast Go.Proofs.YtiaoaoebghnpkaaW.PrintMore
attribute [local go_sem] max2_int min2_int max_two min_two max_three min_three max_four min_four   -- for this text's walks alone
set_option linter.unusedVariables false
set_option linter.unusedSimpArgs false

/-! ### curve_Only: function 19 -/
def curve_Only.l0 : Nat → List Int → Int → List (S68) → Int → Int → Option ((List (S68)))
  | 0, _, _, _, _, _ => none
  | k + 1, x1, x2, x7, x12, x13 => if x13 < x12 then (if x13 ≥ (x1.length : Int) then (if 0 ≤ x13 then (if x13 < (x7.length : Int) then (curve_Only.l0 k x1 x2 (x7.set (x13 : Int).toNat (⟨(rd_T68 x7 x13).f0, 0⟩ : S68)) x12 (wrap64 (x13 + 1))) else (none)) else (none)) else (if 0 ≤ x13 then (if x13 < (x1.length : Int) then (if (rd x1 x13) > x2 then (if x13 < (x7.length : Int) then (curve_Only.l0 k x1 x2 (x7.set (x13 : Int).toNat (⟨(rd_T68 x7 x13).f0, 0⟩ : S68)) x12 (wrap64 (x13 + 1))) else (none)) else (curve_Only.l0 k x1 x2 x7 x12 (wrap64 (x13 + 1)))) else (none)) else (none))) else (some x7)
def curve_Only.f (k : Nat) (l0 : List (S68)) (l1 : List Int) (a2 : Int) : Option ((List (S68))) := (api_Sample.f l0).bind fun t101 => (curve_Only.l0 k l1 a2 t101 (t101.length : Int) 0)
set_option maxHeartbeats 8000000 in
set_option maxRecDepth 100000 in
theorem curve_Only.calls (k : Nat) (A0 : Option Addr) (c0 : Nat) (l0 : List (S68)) (A1 : Option Addr) (c1 : Nat) (l1 : List Int) (a2 : Int) (r : List (S68)) (w : World) (hr0 : Kd.C k68 w A0 l0.length l0) (hc0 : l0.length ≤ c0) (hr1 : Kd.C (Kd.int .i64) w A1 l1.length l1) (hc1 : l1.length ≤ c1) (h : curve_Only.f k l0 l1 a2 = some r) :
    Calls Try.prog 19 #[.slice A0 l0.length c0, .slice A1 l1.length c1, .int .i64 a2] w fun e w' => ∃ v0_ : Value, e = .returned (v0_) ∧ Kd.R k68 68 w' w.heap.size (fun _ => True) v0_ r ∧ Below w.heap.size w w' := by
  have HR0 := zq3 hr0
  have HC0 := zq3 hc0
  clear hr0 hc0
  have HR1 := zq3 hr1
  have HC1 := zq3 hc1
  clear hr1 hc1
  have HB := zq3 (Below.refl w.heap.size w)
  have H : ((api_Sample.f l0).bind fun t101 => (curve_Only.l0 k l1 a2 t101 (t101.length : Int) 0)) = some r := h
  clear h
  replace H := Option.bind_eq_some_iff.mp H
  obtain ⟨t101, A40, H⟩ := H
  replace H : (curve_Only.l0 k l1 a2 t101 (t101.length : Int) 0) = some r := H
  have A4 := zq3 A40
  clear A40
  have H' := zq3 H
  clear H
  go_enter Try.func19, Try.ntmps19
  go_wp2_with (first | ((with_reducible refine gate_callee (f := 49) rfl ?_); refine goesL_ (some 10) rfl rfl Try.func49 (by kernel_rfl) rfl #[.slice A0 l0.length c0] rfl (by (try simp only [List.map_toArray, List.map_cons, List.map_nil]); first | done | rfl | (simp only [List.length_drop, List.length_take]; rfl)) ?_; (with_reducible refine (api_Sample.calls _ _ l0 t101 _ ?side1 ?side2 A4.out).mono ?_); (case side1 => repeat (first | exact HR0.out | (with_reducible refine Kd.C_alloc ?_ _) | (with_reducible refine Kd.C_drewN ?_ _) | (with_reducible refine Kd.C_drew ?_))); (case side2 => exact HC0.out); rintro e w5 ⟨v102, rfl, ho0, hb⟩; refine ⟨_, rfl, ?_⟩; have n0_ := zq3 (Kd.R_lower ho0 (below_size (by repeat (first | (with_reducible first | exact HB.out | apply zq9 | apply zq7 | apply zq8) | exact HB.out)))); have n1_ := zq3 (below_step (by repeat (first | (with_reducible first | exact HB.out | apply zq9 | apply zq7 | apply zq8) | exact HB.out)) hb); clear HB; have HO103 := n0_; have HB := n1_; clear n0_ n1_; (try clear hb); (try clear hb2); (try clear hk); (try clear hi); (try clear ho0); obtain ⟨Ao6, co6, eo6⟩ := Kd.R_slice HO103.out; subst eo6))
  go_loopg [13] k (fun kq v13 w' => ∃ (x7_1 : List (S68)) (x13_1 : Int), v13 = .int .i64 x13_1 ∧ Aside0 (curve_Only.l0 kq l1 a2 x7_1 (t101.length : Int) x13_1 = some r) ∧ Aside0 (kq ≤ k) ∧ Aside0 (Kd.R k68 68 w' w.heap.size (fun _ => True) (.slice Ao6 t101.length co6) x7_1) ∧ Aside0 (Below w.heap.size w w'))
  case atStart => exact ⟨(t101), (0), (by first | rfl | (simp; done) | (simp [*]; done)), H', ⟨Nat.le_refl _⟩, ⟨by (with_reducible repeat (first | apply Kd.R_alloc | apply Kd.R_drewN | apply Kd.R_drew)); exact HO103.out⟩, ⟨by repeat (first | (with_reducible first | exact HB.out | apply zq9 | apply zq7 | apply zq8) | exact HB.out)⟩⟩
  case round =>
    clear H'
    try clear c1
    try clear p2
    try clear c4
    obtain ⟨x7_1, x13_1, rfl, HA, HK1, HO_7, HB⟩ := hrel
    have hl7_1 := (Kd.R_reads' HO_7.out).1
    rw [hl7_1] at HO_7
    (try simp only [hl7_1])
    cases gk with
    | zero => exact absurd HA.out (by simp [curve_Only.l0])
    | succ k1 =>
      have H := HA.out
      clear HA
      simp only [curve_Only.l0] at H
      by_cases c7 : x13_1 < (t101.length : Int)
      · rw [if_pos c7] at H
        have c7b0 : decide (x13_1 < (t101.length : Int)) = true := decide_eq_true c7
        clear c7
        rw [hl7_1] at c7b0
        by_cases c8 : x13_1 ≥ (l1.length : Int)
        · rw [if_pos c8] at H
          have c8b0 : decide ((l1.length : Int) ≤ x13_1) = true := decide_eq_true c8
          clear c8
          by_cases c9 : 0 ≤ x13_1
          · rw [if_pos c9] at H
            have c9b0 : decide (0 ≤ x13_1) = true := decide_eq_true c9
            clear c9
            by_cases c10 : x13_1 < (x7_1.length : Int)
            · rw [if_pos c10] at H
              have c10b0 : decide (x13_1 < (x7_1.length : Int)) = true := decide_eq_true c10
              clear c10
              obtain ⟨y104, hy104⟩ : ∃ y_ : List (S68), y_ = (x7_1.set (x13_1 : Int).toNat (⟨(rd_T68 x7_1 x13_1).f0, 0⟩ : S68)) := ⟨_, rfl⟩
              replace H : (curve_Only.l0 k1 l1 a2 y104 (t101.length : Int) (wrap64 (x13_1 + 1))) = some r := by first | (rw [hy104]; with_reducible exact H) | (have H2_ := (Option.bind_some _ _).symm.trans H; rw [hy104]; with_reducible exact H2_) | (have H2_ := (Option.bind_some _ _).symm.trans H; with_reducible exact H2_) | with_reducible exact H | (rw [hy104]; exact H) | exact H
              have Ny104 := zq3 hy104
              clear hy104
              have H' := zq3 H
              clear H
              have p11 : 0 ≤ (x13_1 : Int) := of_decide_eq_true (by first | (with_reducible assumption) | assumption)
              have q11 : (x13_1 : Int) < ((x7_1.length : Int) : Int) := of_decide_eq_true (by first | (with_reducible assumption) | assumption)
              obtain ⟨go11, co11, eo11, gb11, gl11, cl11, HG11⟩ := Kd.R_form HO_7.out (by omega)
              (first | cases eo11 | (injection eo11 with ea_ en_ ec_; (first | subst ea_ | (injection ea_ with ea_; subst ea_)); subst ec_; clear en_))
              have GB11 := zq3 gb11
              have GG11 := zq3 HG11
              clear gb11 gl11 HG11
              obtain ⟨ce11, hcl11, hM11, hcc11, hfr11⟩ := Kd.R_elem HO_7.out z68 (x13_1 : Int) p11 q11
              obtain rfl := k68_openM hM11
              have hx11_0 : wr.cell? ⟨go11, (x13_1 : Int).toNat * 2, none⟩ = some (.int .u64 ((rd_T68 x7_1 x13_1).f0)) := hcc11 0 _ rfl
              have hx11_1 : wr.cell? ⟨go11, (x13_1 : Int).toNat * 2 + 1, none⟩ = some (.int .i64 ((rd_T68 x7_1 x13_1).f1)) := hcc11 1 _ rfl
              have hf11_0 : wr.frozen? ⟨go11, (x13_1 : Int).toNat * 2, none⟩ = false := hfr11 0
              have hf11_1 : wr.frozen? ⟨go11, (x13_1 : Int).toNat * 2 + 1, none⟩ = false := hfr11 1
              clear hcl11 hcc11 hfr11 hM11
              replace p11 := eq_true p11
              replace q11 := eq_true q11
              have HX12 := zq3 (show Kd.R k68 68 wr w.heap.size (fun _ => True) (.slice (some ⟨go11, 0, none⟩) x7_1.length co6) x7_1 from (by (with_reducible repeat (first | apply Kd.R_alloc | apply Kd.R_drewN | apply Kd.R_drew)); exact HO_7.out))
              obtain ⟨ce12, hcl12, hM12, hcc12, hfr12⟩ := Kd.R_elem HX12.out z68 (x13_1 : Int) (of_decide_eq_true (by first | (with_reducible assumption) | assumption)) (by have h_ : (x13_1 : Int) < ((x7_1.length : Int) : Int) := of_decide_eq_true (by first | (with_reducible assumption) | assumption); first | exact h_ | (have e_ := (Kd.R_reads' HO_7.out).1; omega) | simpa using h_)
              obtain rfl := k68_openM hM12
              have HP12 := Kd.R_seg HX12.out (x13_1 : Int) (of_decide_eq_true (by first | (with_reducible assumption) | assumption)) (by have h_ : (x13_1 : Int) < ((x7_1.length : Int) : Int) := of_decide_eq_true (by first | (with_reducible assumption) | assumption); first | exact h_ | (have e_ := (Kd.R_reads' HO_7.out).1; omega) | simpa using h_) (seg := [.int .i64 0]) (j := 1) hcl12 hcc12 (show 2 ≤ 2 from by decide) (x' := (⟨(rd_T68 x7_1 x13_1).f0, 0⟩ : S68)) (k68_mkM _ _ _ (⟨(rd_T68 x7_1 x13_1).f0, 0⟩ : S68) ) (fun _ hk => hk)
              have hx12_1 := hcc12 1 _ rfl
              (try simp only [show (k68).sz = 2 from rfl, Nat.mul_one, Nat.add_zero] at hx12_1)
              have hf12_1 := hfr12 1
              (try simp only [show (k68).sz = 2 from rfl, Nat.mul_one, Nat.add_zero] at hf12_1)
              clear hcl12 hcc12 hfr12 hM12
              go_wp2_with (first | ((with_reducible refine gate_store (t := 3) (p := 31) rfl ?_); refine store_event (t := 3) (p := 31) (v := ?vo_w13) (w1 := (wr.setCell ⟨go11, (x13_1 : Int).toNat * 2 + 1, none⟩ (.int .i64 0))) ?hg ?ho ?hn ?hr ?_; (case ho => rfl); (case hg => rfl); (case hn => rfl); (case hr => first | (go_simp; done) | (go_simp; rfl)); intro w13 hw; have hg : wr.grownBy w13 (some go11) := (by rw [hw]; exact HP12.2); have hp_ : Kd.R k68 68 w13 w.heap.size (fun _ => True) (.slice (some ⟨go11, 0, none⟩) x7_1.length co6) y104 := (by rw [hw, Ny104.out]; exact HP12.1); clear HP12; have n0_ := zq3 (hp_); have n1_ := zq3 ((by rw [hw]; exact zq6 (HB.out) GB11.out : Below w.heap.size w w13)); clear HO_7; clear HB; have HO_7 := n0_; have HB := n1_; clear n0_ n1_; clear hg hw hp_))
              (try simp only [← hl7_1])
              go_roundg k1
              case measure => have := HK1.out; omega
              case rel => exact ⟨(y104), (wrap64 (x13_1 + 1)), (by first | rfl | (simp; done) | (simp [*]; done)), H', ⟨by have := HK1.out; omega⟩, ⟨by (try simp only [hl7_1]); (with_reducible repeat (first | apply Kd.R_alloc | apply Kd.R_drewN | apply Kd.R_drew)); exact HO_7.out⟩, ⟨by repeat (first | (with_reducible first | exact HB.out | apply zq9 | apply zq7 | apply zq8) | exact HB.out)⟩⟩
            · rw [if_neg c10] at H
              exact absurd H (by simp)
          · rw [if_neg c9] at H
            exact absurd H (by simp)
        · rw [if_neg c8] at H
          have c8b0 : decide ((l1.length : Int) ≤ x13_1) = false := decide_eq_false c8
          clear c8
          by_cases c14 : 0 ≤ x13_1
          · rw [if_pos c14] at H
            have c14b0 : decide (0 ≤ x13_1) = true := decide_eq_true c14
            clear c14
            by_cases c15 : x13_1 < (l1.length : Int)
            · rw [if_pos c15] at H
              have c15b0 : decide (x13_1 < (l1.length : Int)) = true := decide_eq_true c15
              clear c15
              by_cases c16 : (rd l1 x13_1) > a2
              · rw [if_pos c16] at H
                have c16b0 : decide (a2 < (rd l1 x13_1)) = true := decide_eq_true c16
                clear c16
                by_cases c17 : x13_1 < (x7_1.length : Int)
                · rw [if_pos c17] at H
                  have c17b0 : decide (x13_1 < (x7_1.length : Int)) = true := decide_eq_true c17
                  clear c17
                  obtain ⟨y106, hy106⟩ : ∃ y_ : List (S68), y_ = (x7_1.set (x13_1 : Int).toNat (⟨(rd_T68 x7_1 x13_1).f0, 0⟩ : S68)) := ⟨_, rfl⟩
                  replace H : (curve_Only.l0 k1 l1 a2 y106 (t101.length : Int) (wrap64 (x13_1 + 1))) = some r := by first | (rw [hy106]; with_reducible exact H) | (have H2_ := (Option.bind_some _ _).symm.trans H; rw [hy106]; with_reducible exact H2_) | (have H2_ := (Option.bind_some _ _).symm.trans H; with_reducible exact H2_) | with_reducible exact H | (rw [hy106]; exact H) | exact H
                  have Ny106 := zq3 hy106
                  clear hy106
                  have H' := zq3 H
                  clear H
                  have p105 : 0 ≤ (x13_1 : Int) := of_decide_eq_true (by first | (with_reducible assumption) | assumption)
                  have q105 : x13_1 < (l1.length : Int) := of_decide_eq_true (by first | (with_reducible assumption) | assumption)
                  obtain ⟨ad105, e105, hx105_0⟩ := Kd.at_int HR1.out x13_1 p105 q105
                  cases e105
                  replace hx105_0 := (HB.out.cell (World.block_lt_of_cell? w _ hx105_0)).trans hx105_0
                  replace p105 := eq_true p105
                  replace q105 := eq_true q105
                  have p18 : 0 ≤ (x13_1 : Int) := of_decide_eq_true (by first | (with_reducible assumption) | assumption)
                  have q18 : (x13_1 : Int) < ((x7_1.length : Int) : Int) := of_decide_eq_true (by first | (with_reducible assumption) | assumption)
                  obtain ⟨go18, co18, eo18, gb18, gl18, cl18, HG18⟩ := Kd.R_form HO_7.out (by omega)
                  (first | cases eo18 | (injection eo18 with ea_ en_ ec_; (first | subst ea_ | (injection ea_ with ea_; subst ea_)); subst ec_; clear en_))
                  have GB18 := zq3 gb18
                  have GG18 := zq3 HG18
                  clear gb18 gl18 HG18
                  obtain ⟨ce18, hcl18, hM18, hcc18, hfr18⟩ := Kd.R_elem HO_7.out z68 (x13_1 : Int) p18 q18
                  obtain rfl := k68_openM hM18
                  have hx18_0 : wr.cell? ⟨go18, (x13_1 : Int).toNat * 2, none⟩ = some (.int .u64 ((rd_T68 x7_1 x13_1).f0)) := hcc18 0 _ rfl
                  have hx18_1 : wr.cell? ⟨go18, (x13_1 : Int).toNat * 2 + 1, none⟩ = some (.int .i64 ((rd_T68 x7_1 x13_1).f1)) := hcc18 1 _ rfl
                  have hf18_0 : wr.frozen? ⟨go18, (x13_1 : Int).toNat * 2, none⟩ = false := hfr18 0
                  have hf18_1 : wr.frozen? ⟨go18, (x13_1 : Int).toNat * 2 + 1, none⟩ = false := hfr18 1
                  clear hcl18 hcc18 hfr18 hM18
                  replace p18 := eq_true p18
                  replace q18 := eq_true q18
                  have HX19 := zq3 (show Kd.R k68 68 wr w.heap.size (fun _ => True) (.slice (some ⟨go18, 0, none⟩) x7_1.length co6) x7_1 from (by (with_reducible repeat (first | apply Kd.R_alloc | apply Kd.R_drewN | apply Kd.R_drew)); exact HO_7.out))
                  obtain ⟨ce19, hcl19, hM19, hcc19, hfr19⟩ := Kd.R_elem HX19.out z68 (x13_1 : Int) (of_decide_eq_true (by first | (with_reducible assumption) | assumption)) (by have h_ : (x13_1 : Int) < ((x7_1.length : Int) : Int) := of_decide_eq_true (by first | (with_reducible assumption) | assumption); first | exact h_ | (have e_ := (Kd.R_reads' HO_7.out).1; omega) | simpa using h_)
                  obtain rfl := k68_openM hM19
                  have HP19 := Kd.R_seg HX19.out (x13_1 : Int) (of_decide_eq_true (by first | (with_reducible assumption) | assumption)) (by have h_ : (x13_1 : Int) < ((x7_1.length : Int) : Int) := of_decide_eq_true (by first | (with_reducible assumption) | assumption); first | exact h_ | (have e_ := (Kd.R_reads' HO_7.out).1; omega) | simpa using h_) (seg := [.int .i64 0]) (j := 1) hcl19 hcc19 (show 2 ≤ 2 from by decide) (x' := (⟨(rd_T68 x7_1 x13_1).f0, 0⟩ : S68)) (k68_mkM _ _ _ (⟨(rd_T68 x7_1 x13_1).f0, 0⟩ : S68) ) (fun _ hk => hk)
                  have hx19_1 := hcc19 1 _ rfl
                  (try simp only [show (k68).sz = 2 from rfl, Nat.mul_one, Nat.add_zero] at hx19_1)
                  have hf19_1 := hfr19 1
                  (try simp only [show (k68).sz = 2 from rfl, Nat.mul_one, Nat.add_zero] at hf19_1)
                  clear hcl19 hcc19 hfr19 hM19
                  go_wp2_with (first | ((with_reducible refine gate_store (t := 3) (p := 31) rfl ?_); refine store_event (t := 3) (p := 31) (v := ?vo_w20) (w1 := (wr.setCell ⟨go18, (x13_1 : Int).toNat * 2 + 1, none⟩ (.int .i64 0))) ?hg ?ho ?hn ?hr ?_; (case ho => rfl); (case hg => rfl); (case hn => rfl); (case hr => first | (go_simp; done) | (go_simp; rfl)); intro w20 hw; have hg : wr.grownBy w20 (some go18) := (by rw [hw]; exact HP19.2); have hp_ : Kd.R k68 68 w20 w.heap.size (fun _ => True) (.slice (some ⟨go18, 0, none⟩) x7_1.length co6) y106 := (by rw [hw, Ny106.out]; exact HP19.1); clear HP19; have n0_ := zq3 (hp_); have n1_ := zq3 ((by rw [hw]; exact zq6 (HB.out) GB18.out : Below w.heap.size w w20)); clear HO_7; clear HB; have HO_7 := n0_; have HB := n1_; clear n0_ n1_; clear hg hw hp_))
                  (try simp only [← hl7_1])
                  go_roundg k1
                  case measure => have := HK1.out; omega
                  case rel => exact ⟨(y106), (wrap64 (x13_1 + 1)), (by first | rfl | (simp; done) | (simp [*]; done)), H', ⟨by have := HK1.out; omega⟩, ⟨by (try simp only [hl7_1]); (with_reducible repeat (first | apply Kd.R_alloc | apply Kd.R_drewN | apply Kd.R_drew)); exact HO_7.out⟩, ⟨by repeat (first | (with_reducible first | exact HB.out | apply zq9 | apply zq7 | apply zq8) | exact HB.out)⟩⟩
                · rw [if_neg c17] at H
                  exact absurd H (by simp)
              · rw [if_neg c16] at H
                have c16b0 : decide (a2 < (rd l1 x13_1)) = false := decide_eq_false c16
                clear c16
                have H' := zq3 H
                clear H
                have p105 : 0 ≤ (x13_1 : Int) := of_decide_eq_true (by first | (with_reducible assumption) | assumption)
                have q105 : x13_1 < (l1.length : Int) := of_decide_eq_true (by first | (with_reducible assumption) | assumption)
                obtain ⟨ad105, e105, hx105_0⟩ := Kd.at_int HR1.out x13_1 p105 q105
                cases e105
                replace hx105_0 := (HB.out.cell (World.block_lt_of_cell? w _ hx105_0)).trans hx105_0
                replace p105 := eq_true p105
                replace q105 := eq_true q105
                go_wp2
                (try simp only [← hl7_1])
                go_roundg k1
                case measure => have := HK1.out; omega
                case rel => exact ⟨(x7_1), (wrap64 (x13_1 + 1)), (by first | rfl | (simp; done) | (simp [*]; done)), H', ⟨by have := HK1.out; omega⟩, ⟨by (try simp only [hl7_1]); (with_reducible repeat (first | apply Kd.R_alloc | apply Kd.R_drewN | apply Kd.R_drew)); exact HO_7.out⟩, ⟨by repeat (first | (with_reducible first | exact HB.out | apply zq9 | apply zq7 | apply zq8) | exact HB.out)⟩⟩
            · rw [if_neg c15] at H
              exact absurd H (by simp)
          · rw [if_neg c14] at H
            exact absurd H (by simp)
      · rw [if_neg c7] at H
        have c7b0 : decide (x13_1 < (t101.length : Int)) = false := decide_eq_false c7
        clear c7
        rw [hl7_1] at c7b0
        obtain rfl := Option.some.inj H
        go_wp2
        go_ret
        exact ⟨_, by first | rfl | (simp [errW_none, errW_some] <;> rfl) | (simp [*, errW_none, errW_some] <;> rfl), by (with_reducible repeat (first | apply Kd.R_alloc | apply Kd.R_drewN | apply Kd.R_drew)); exact HO_7.out, by repeat (first | (with_reducible first | exact HB.out | apply zq9 | apply zq7 | apply zq8) | exact HB.out)⟩

end Go.Proofs.Ytiaoaoebghnpkaa.P
end
section
namespace Go.Proofs.Ytiaoaoebghnpkaa.P
open Go.RowKit Go.Proofs.YtiaoaoebghnpkaaW.PrintWords Go.Proofs.YtiaoaoebghnpkaaW.PrintLast Go.Proofs.YtiaoaoebghnpkaaW.PrintMore
attribute [local go_sem] max2_int min2_int max_two min_two max_three min_three max_four min_four   -- for this text's walks alone
set_option linter.unusedVariables false
set_option linter.unusedSimpArgs false

theorem eqA26 (d : Nat) (w : World) (x0 y0 : Int) (x1 y1 : Int) :
    (Op.equalIn (d + 2) 26 (.agg #[.int .i64 x0, .int .i64 x1]) (.agg #[.int .i64 y0, .int .i64 y1])).run Try.prog w = .ok (x0 == y0 && (x1 == y1)) w := by
  refine eqA_of Try.underlying26 (by kernel_rfl) ?_
  refine eqf_cons (by rfl) (by go_simp; rfl) (by go_simp; rfl) (by go_simp) ?_
  exact eqf_last (by rfl) (by go_simp; rfl) (by go_simp; rfl) (by go_simp)
end Go.Proofs.Ytiaoaoebghnpkaa.P
end
section
namespace Go.Proofs.Ytiaoaoebghnpkaa.P
open Go.RowKit Go.Proofs.YtiaoaoebghnpkaaW.PrintWords Go.Proofs.YtiaoaoebghnpkaaW.PrintLast Go.Proofs.YtiaoaoebghnpkaaW.PrintMore
attribute [local go_sem] max2_int min2_int max_two min_two max_three min_three max_four min_four   -- for this text's walks alone
set_option linter.unusedVariables false
set_option linter.unusedSimpArgs false

theorem eqA68 (d : Nat) (w : World) (x0 y0 : Int) (x1 y1 : Int) :
    (Op.equalIn (d + 2) 68 (.agg #[.int .u64 x0, .int .i64 x1]) (.agg #[.int .u64 y0, .int .i64 y1])).run Try.prog w = .ok (x0 == y0 && (x1 == y1)) w := by
  refine eqA_of Try.underlying68 (by kernel_rfl) ?_
  refine eqf_cons (by rfl) (by go_simp; rfl) (by go_simp; rfl) (by go_simp) ?_
  exact eqf_last (by rfl) (by go_simp; rfl) (by go_simp; rfl) (by go_simp)
end Go.Proofs.Ytiaoaoebghnpkaa.P
end
section
namespace Go.Proofs.Ytiaoaoebghnpkaa.P
open Go.RowKit Go.Proofs.YtiaoaoebghnpkaaW.PrintWords Go.Proofs.YtiaoaoebghnpkaaW.PrintLast Go.Proofs.YtiaoaoebghnpkaaW.PrintMore
attribute [local go_sem] max2_int min2_int max_two min_two max_three min_three max_four min_four   -- for this text's walks alone
set_option linter.unusedVariables false
set_option linter.unusedSimpArgs false

attribute [local go_sem high] eqA68
/-! ### weighbridgeref29_SameSamples: function 18 -/
def weighbridgeref29_SameSamples.l0 : Nat → List (S68) → List (S68) → Int → Option (Bool)
 | 0, _, _, _ => none
 | k + 1, x0, x1, x5 => if x5 < (x0.length : Int) then (if 0 ≤ x5 then (if x5 < (x1.length : Int) then (if (!(((rd_T68 x0 x5).f0) == ((rd_T68 x1 x5).f0)) || (!(((rd_T68 x0 x5).f1) == ((rd_T68 x1 x5).f1)))) = true then (some false) else (weighbridgeref29_SameSamples.l0 k x0 x1 (wrap64 (x5 + 1)))) else (none)) else (none)) else (some true)
def weighbridgeref29_SameSamples.f (k : Nat) (l0 : List (S68)) (l1 : List (S68)) : Option (Bool) := if (l0.length : Int) = (l1.length : Int) then (weighbridgeref29_SameSamples.l0 k l0 l1 0) else (some false)
set_option maxHeartbeats 8000000 in
set_option maxRecDepth 100000 in
theorem weighbridgeref29_SameSamples.calls (k : Nat) (A0 : Option Addr) (c0 : Nat) (l0 : List (S68)) (A1 : Option Addr) (c1 : Nat) (l1 : List (S68)) (r : Bool) (w : World) (hr0 : Kd.C k68 w A0 l0.length l0) (hc0 : l0.length ≤ c0) (hr1 : Kd.C k68 w A1 l1.length l1) (hc1 : l1.length ≤ c1) (h : weighbridgeref29_SameSamples.f k l0 l1 = some r) :
  Calls Try.prog 18 #[.slice A0 l0.length c0, .slice A1 l1.length c1] w fun e w' => e = .returned (.bool r) ∧ Below w.heap.size w w' := by
 have hu68 := Try.underlying68
 have HR0 := zq3 hr0
 have HC0 := zq3 hc0
 clear hr0 hc0
 have HR1 := zq3 hr1
 have HC1 := zq3 hc1
 clear hr1 hc1
 have HB := zq3 (Below.refl w.heap.size w)
 have H : (if (l0.length : Int) = (l1.length : Int) then (weighbridgeref29_SameSamples.l0 k l0 l1 0) else (some false)) = some r := h
 clear h
 by_cases c3 : (l0.length : Int) = (l1.length : Int)
 ·
  rw [if_pos c3] at H
  have c3b0 : ((l0.length : Int) == (l1.length : Int)) = true := beq_iff_eq.mpr c3
  have c3b1 : ((l0.length : Int) != (l1.length : Int)) = false := bne_eq_false_iff_eq.mpr c3
  have c3b2 : (l0.length == l1.length) = true := by first | simpa using c3 | (simp at c3 ⊢; omega)
  clear c3
  have H' := zq3 H
  clear H
  go_enter Try.func18, Try.ntmps18
  go_wp2
  repeat (go_quiet (fail); try go_wp2)
  go_loopg [5] k (fun kq v5 w' => ∃ (x5_1 : Int), v5 = .int .i64 x5_1 ∧ Aside0 (weighbridgeref29_SameSamples.l0 kq l0 l1 x5_1 = some r) ∧ Aside0 (kq ≤ k) ∧ Aside0 (Below w.heap.size w w'))
  case atStart => exact ⟨(0), (by first | rfl | (simp; done) | (simp [*]; done)), H', ⟨Nat.le_refl _⟩, ⟨zh HB⟩⟩
  case round =>
   clear H'
   (try clear c1); (try clear p2); (try clear c3); (try clear c3b0); (try clear c3b1); (try clear c3b2)
   obtain ⟨x5_1, rfl, HA, HK1, HB⟩ := hrel
   cases gk with
   | zero => exact absurd HA.out (by simp [weighbridgeref29_SameSamples.l0])
   | succ k1 =>
    have H := HA.out
    clear HA
    simp only [weighbridgeref29_SameSamples.l0] at H
    by_cases c4 : x5_1 < (l0.length : Int)
    ·
     rw [if_pos c4] at H
     have c4b0 : decide (x5_1 < (l0.length : Int)) = true := decide_eq_true c4
     clear c4
     by_cases c5 : 0 ≤ x5_1
     ·
      rw [if_pos c5] at H
      have c5b0 : decide (0 ≤ x5_1) = true := decide_eq_true c5
      clear c5
      by_cases c6 : x5_1 < (l1.length : Int)
      ·
       rw [if_pos c6] at H
       have c6b0 : decide (x5_1 < (l1.length : Int)) = true := decide_eq_true c6
       clear c6
       by_cases c7 : (!(((rd_T68 l0 x5_1).f0) == ((rd_T68 l1 x5_1).f0)) || (!(((rd_T68 l0 x5_1).f1) == ((rd_T68 l1 x5_1).f1)))) = true
       ·
        rw [if_pos c7] at H
        have c7b0 : (!(((rd_T68 l0 x5_1).f0) == ((rd_T68 l1 x5_1).f0)) || (!(((rd_T68 l0 x5_1).f1) == ((rd_T68 l1 x5_1).f1)))) = true := c7
        clear c7
        obtain rfl := Option.some.inj H
        have p101 : 0 ≤ (x5_1 : Int) := of_decide_eq_true (by first | (with_reducible assumption) | assumption)
        have q101 : x5_1 < (l0.length : Int) := of_decide_eq_true (by first | (with_reducible assumption) | assumption)
        obtain ⟨ad101, e101, hx101_0, hx101_1⟩ := at_T68 HR0.out x5_1 p101 q101
        cases e101
        replace hx101_0 := (HB.out.cell (World.block_lt_of_cell? w _ hx101_0)).trans hx101_0
        replace hx101_1 := (HB.out.cell (World.block_lt_of_cell? w _ hx101_1)).trans hx101_1
        replace p101 := eq_true p101
        replace q101 := eq_true q101
        have p102 : 0 ≤ (x5_1 : Int) := of_decide_eq_true (by first | (with_reducible assumption) | assumption)
        have q102 : x5_1 < (l1.length : Int) := of_decide_eq_true (by first | (with_reducible assumption) | assumption)
        obtain ⟨ad102, e102, hx102_0, hx102_1⟩ := at_T68 HR1.out x5_1 p102 q102
        cases e102
        replace hx102_0 := (HB.out.cell (World.block_lt_of_cell? w _ hx102_0)).trans hx102_0
        replace hx102_1 := (HB.out.cell (World.block_lt_of_cell? w _ hx102_1)).trans hx102_1
        replace p102 := eq_true p102
        replace q102 := eq_true q102
        go_wp2
        repeat (go_quiet (fail); try go_wp2)
        go_ret
        exact ⟨by first | rfl | (simp [errW_none, errW_some] <;> rfl) | (simp [*, errW_none, errW_some] <;> rfl), zh HB⟩
       ·
        rw [if_neg c7] at H
        have c7b0 : (!(((rd_T68 l0 x5_1).f0) == ((rd_T68 l1 x5_1).f0)) || (!(((rd_T68 l0 x5_1).f1) == ((rd_T68 l1 x5_1).f1)))) = false := by simpa using c7
        clear c7
        have H' := zq3 H
        clear H
        have p101 : 0 ≤ (x5_1 : Int) := of_decide_eq_true (by first | (with_reducible assumption) | assumption)
        have q101 : x5_1 < (l0.length : Int) := of_decide_eq_true (by first | (with_reducible assumption) | assumption)
        obtain ⟨ad101, e101, hx101_0, hx101_1⟩ := at_T68 HR0.out x5_1 p101 q101
        cases e101
        replace hx101_0 := (HB.out.cell (World.block_lt_of_cell? w _ hx101_0)).trans hx101_0
        replace hx101_1 := (HB.out.cell (World.block_lt_of_cell? w _ hx101_1)).trans hx101_1
        replace p101 := eq_true p101
        replace q101 := eq_true q101
        have p102 : 0 ≤ (x5_1 : Int) := of_decide_eq_true (by first | (with_reducible assumption) | assumption)
        have q102 : x5_1 < (l1.length : Int) := of_decide_eq_true (by first | (with_reducible assumption) | assumption)
        obtain ⟨ad102, e102, hx102_0, hx102_1⟩ := at_T68 HR1.out x5_1 p102 q102
        cases e102
        replace hx102_0 := (HB.out.cell (World.block_lt_of_cell? w _ hx102_0)).trans hx102_0
        replace hx102_1 := (HB.out.cell (World.block_lt_of_cell? w _ hx102_1)).trans hx102_1
        replace p102 := eq_true p102
        replace q102 := eq_true q102
        go_wp2
        repeat (go_quiet (fail); try go_wp2)
        go_roundg k1
        case measure => have := HK1.out; omega
        case rel => exact ⟨(wrap64 (x5_1 + 1)), (by first | rfl | (simp; done) | (simp [*]; done)), H', ⟨by have := HK1.out; omega⟩, ⟨zh HB⟩⟩
      ·
       rw [if_neg c6] at H
       exact absurd H (by simp)
     ·
      rw [if_neg c5] at H
      exact absurd H (by simp)
    ·
     rw [if_neg c4] at H
     have c4b0 : decide (x5_1 < (l0.length : Int)) = false := decide_eq_false c4
     clear c4
     obtain rfl := Option.some.inj H
     go_wp2
     repeat (go_quiet (fail); try go_wp2)
     go_ret
     exact ⟨by first | rfl | (simp [errW_none, errW_some] <;> rfl) | (simp [*, errW_none, errW_some] <;> rfl), zh HB⟩
 ·
  rw [if_neg c3] at H
  have c3b0 : ((l0.length : Int) == (l1.length : Int)) = false := beq_eq_false_iff_ne.mpr c3
  have c3b1 : ((l0.length : Int) != (l1.length : Int)) = true := bne_iff_ne.mpr c3
  have c3b2 : (l0.length == l1.length) = false := by first | simpa using c3 | (simp at c3 ⊢; omega)
  obtain rfl := Option.some.inj H
  go_enter Try.func18, Try.ntmps18
  go_wp2
  repeat (go_quiet (fail); try go_wp2)
  go_ret
  exact ⟨by first | rfl | (simp [errW_none, errW_some] <;> rfl) | (simp [*, errW_none, errW_some] <;> rfl), zh HB⟩

end Go.Proofs.Ytiaoaoebghnpkaa.P
end
section
namespace Go.Proofs.Ytiaoaoebghnpkaa.P
open Go.RowKit Go.Proofs.YtiaoaoebghnpkaaW.PrintWords Go.Proofs.YtiaoaoebghnpkaaW.PrintLast Go.Proofs.YtiaoaoebghnpkaaW.PrintMore
attribute [local go_sem] max2_int min2_int max_two min_two max_three min_three max_four min_four   -- for this text's walks alone
set_option linter.unusedVariables false
set_option linter.unusedSimpArgs false

/-! ### wide_twice: function 72 -/
def wide_twice.f (a0_0 : Int) (a0_1 : Int) (a1 : Int) : Option (Int × Int) := some (Go.bits .or .u64 (IntKind.u64.wrap (a0_0 * 2)) (a0_1 / 9223372036854775808), Go.bits .or .u64 (IntKind.u64.wrap (a0_1 * 2)) a1)
set_option maxHeartbeats 8000000 in
set_option maxRecDepth 100000 in
theorem wide_twice.calls (a0_0 : Int) (a0_1 : Int) (a1 : Int) (r1 : Int) (r2 : Int) (w : World) (h : wide_twice.f a0_0 a0_1 a1 = some (r1, r2)) :
  Calls Try.prog 72 #[.agg #[.int .u64 a0_0, .int .u64 a0_1], .int .u64 a1] w fun e w' => e = .returned (.agg #[.int .u64 r1, .int .u64 r2]) ∧ Below w.heap.size w w' := by
 have hu42 := Try.underlying42
 have HB := zq3 (Below.refl w.heap.size w)
 have H : (some (Go.bits .or .u64 (IntKind.u64.wrap (a0_0 * 2)) (a0_1 / 9223372036854775808), Go.bits .or .u64 (IntKind.u64.wrap (a0_1 * 2)) a1)) = some (r1, r2) := h
 clear h
 simp only [Option.some.injEq, Prod.mk.injEq] at H
 obtain ⟨rfl, rfl⟩ := H
 go_enter Try.func72, Try.ntmps72
 go_wp2_with (first | ((with_reducible refine zd 2 rfl ?_); refine zb 2 #[.int .u64 a0_0, .int .u64 a0_1] 42 ?_; intro gb101 hg w3 hbox hb; have BK101 := zq3 (hbox); have GW101 := ze hg HB; have GE101 := GW101; replace HB := zt HB hb; clear hb hbox hg) | ((with_reducible refine zd 4 rfl ?_); refine zb 4 #[.int .u64 0, .int .u64 0] 42 ?_; intro gb102 hg w4 hbox hb; have BK102 := zq3 (hbox); have GW102 := ze hg HB; have GE102 := GW102; have NB101_102 := zl hg BK101; have NB102_101 := zg hg BK101; replace BK101 := zs BK101 hb; replace HB := zt HB hb; clear hb hbox hg; have hnb5 := NB101_102.out; have hnc5 := NB102_101.out; obtain ⟨hc6_0, hc6_1⟩ := zc2 BK101; obtain ⟨hf6_0, hf6_1⟩ := zf2 BK101; obtain ⟨hc7_0, hc7_1⟩ := zc2 BK102; obtain ⟨hf7_0, hf7_1⟩ := zf2 BK102))
 refine bodyPost_ret (results_cell_row rfl _ _ gb102 42 #[.int .u64 (Go.bits .or .u64 (IntKind.u64.wrap (a0_0 * 2)) (a0_1 / 9223372036854775808)), .int .u64 (Go.bits .or .u64 (IntKind.u64.wrap (a0_1 * 2)) a1)] (0, 0) _ rfl (zw2 BK102) Try.underlying42 rfl (by kernel_rfl)) rfl ?_
 exact ⟨by first | rfl | (simp [errW_none, errW_some] <;> rfl) | (simp [*, errW_none, errW_some] <;> rfl), zh HB⟩

end Go.Proofs.Ytiaoaoebghnpkaa.P
end
section
namespace Go.Proofs.Ytiaoaoebghnpkaa.P
open Go.RowKit Go.Proofs.YtiaoaoebghnpkaaW.PrintWords Go.Proofs.YtiaoaoebghnpkaaW.PrintLast Go.Proofs.YtiaoaoebghnpkaaW.PrintMore
attribute [local go_sem] max2_int min2_int max_two min_two max_three min_three max_four min_four   -- for this text's walks alone
set_option linter.unusedVariables false
set_option linter.unusedSimpArgs false

/-! ### wide_Div: function 44 -/
def wide_Div.l0 : Nat → Int → Int → Int → Int → Int → Int → Int → Int → Option (Int × Int × Int)
 | 0, _, _, _, _, _, _, _, _ => none
 | k + 1, x1, x8, x102000, x102001, x104000, x104001, x105000, x105001 => if x8 ≥ 0 then (if 0 ≤ (IntKind.u64.wrap (x8)) then ((wide_twice.f x105000 x105001 (Go.bits .and .u64 (shr .u64 x102001 (IntKind.u64.wrap (x8))) 1)).bind fun bt105 => ((wide_Of.f x1).bind fun bt107 => ((wide_Less.f bt105.1 bt105.2 bt107.1 bt107.2).bind fun t109 => (if t109 = true then (wide_Div.l0 k x1 (wrap64 (x8 - 1)) x102000 x102001 x104000 (IntKind.u64.wrap (x104001 * 2)) bt105.1 bt105.2) else ((wide_Of.f x1).bind fun bt110 => ((wide_Sub.f bt105.1 bt105.2 bt110.1 bt110.2).bind fun bt112 => (wide_Div.l0 k x1 (wrap64 (x8 - 1)) x102000 x102001 x104000 (Go.bits .or .u64 (IntKind.u64.wrap (x104001 * 2)) 1) bt112.1 bt112.2.1))))))) else (none)) else (some (x104000, x104001, x105001))
def wide_Div.f (k : Nat) (a0_0 : Int) (a0_1 : Int) (a1 : Int) : Option (Int × Int × Int) := if a1 = 0 then (some (0, 0, 0)) else (wide_Div.l0 k a1 63 a0_0 a0_1 (IntKind.u64.wrap (Int.tdiv a0_0 a1)) 0 0 (Int.tmod a0_0 a1))
def wide_Div.T11 : Bool × List (List Nat × List Nat) := (true, [([], []), ([], []), ([1], [1]), ([0, 2, 2], [0, 2]), ([3], [3]), ([4], [4]), ([4], [4]), ([5, 3, 0, 1, 2, 3, 4, 5], [5])])
def wide_Div.B11 : List Nat := [0, 0, 2, 7, 15, 31, 31, 63]
theorem wide_Div.tab11 : rtab .any (opsOf Try.f44 11) = wide_Div.T11 := by kernel_rfl
theorem wide_Div.bits11 : waitsOk wide_Div.T11.2 wide_Div.B11 = true := by kernel_rfl
set_option maxHeartbeats 8000000 in
set_option maxRecDepth 100000 in
theorem wide_Div.calls (k : Nat) (a0_0 : Int) (a0_1 : Int) (a1 : Int) (r1 : Int) (r2 : Int) (r3 : Int) (w : World) (h : wide_Div.f k a0_0 a0_1 a1 = some (r1, r2, r3)) :
  Calls Try.prog 44 #[.agg #[.int .u64 a0_0, .int .u64 a0_1], .int .u64 a1] w fun e w' => e = .returned (.tuple #[.agg #[.int .u64 r1, .int .u64 r2], .int .u64 r3]) ∧ Below w.heap.size w w' := by
 have hu42 := Try.underlying42
 have HB := zq3 (Below.refl w.heap.size w)
 have H : (if a1 = 0 then (some (0, 0, 0)) else (wide_Div.l0 k a1 63 a0_0 a0_1 (IntKind.u64.wrap (Int.tdiv a0_0 a1)) 0 0 (Int.tmod a0_0 a1))) = some (r1, r2, r3) := h
 clear h
 by_cases c3 : a1 = 0
 ·
  rw [if_pos c3] at H
  have c3b0 : (a1 == 0) = true := beq_iff_eq.mpr c3
  have c3b1 : (a1 != 0) = false := bne_eq_false_iff_eq.mpr c3
  clear c3
  simp only [Option.some.injEq, Prod.mk.injEq] at H
  obtain ⟨rfl, rfl, rfl⟩ := H
  go_enter Try.func44, Try.ntmps44
  go_wp2_with (first | ((with_reducible refine zd 2 rfl ?_); refine zb 2 #[.int .u64 a0_0, .int .u64 a0_1] 42 ?_; intro gb101 hg w4 hbox hb; have BK101 := zq3 (hbox); have GW101 := ze hg HB; have GE101 := GW101; replace HB := zt HB hb; clear hb hbox hg) | ((with_reducible refine zd 4 rfl ?_); refine zb 4 #[.int .u64 0, .int .u64 0] 42 ?_; intro gb102 hg w5 hbox hb; have BK102 := zq3 (hbox); have GW102 := ze hg HB; have GE102 := GW102; have NB101_102 := zl hg BK101; have NB102_101 := zg hg BK101; replace BK101 := zs BK101 hb; replace HB := zt HB hb; clear hb hbox hg; have hnb6 := NB102_101.out; have hnc6 := NB101_102.out; obtain ⟨hc7_0, hc7_1⟩ := zc2 BK102; obtain ⟨hf7_0, hf7_1⟩ := zf2 BK102))
  refine bodyPost_ret (results_ct rfl _ _ gb102 42 #[.int .u64 0, .int .u64 0] (0, 0) _ rfl (zw2 BK102) Try.underlying42 rfl (by kernel_rfl)) rfl ?_
  exact ⟨by first | rfl | (simp [errW_none, errW_some] <;> rfl) | (simp [*, errW_none, errW_some] <;> rfl), zh HB⟩
 ·
  rw [if_neg c3] at H
  have c3b0 : (a1 == 0) = false := beq_eq_false_iff_ne.mpr c3
  have c3b1 : (a1 != 0) = true := bne_iff_ne.mpr c3
  have H' := zq3 H
  clear H
  go_enter Try.func44, Try.ntmps44
  go_wp2_with (first | ((with_reducible refine zd 2 rfl ?_); refine zb 2 #[.int .u64 a0_0, .int .u64 a0_1] 42 ?_; intro gb101 hg w8 hbox hb; have BK101 := zq3 (hbox); have GW101 := ze hg HB; have GE101 := GW101; replace HB := zt HB hb; clear hb hbox hg) | ((with_reducible refine zd 4 rfl ?_); refine zb 4 #[.int .u64 0, .int .u64 0] 42 ?_; intro gb102 hg w9 hbox hb; have BK102 := zq3 (hbox); have GW102 := ze hg HB; have GE102 := GW102; have NB101_102 := zl hg BK101; have NB102_101 := zg hg BK101; replace BK101 := zs BK101 hb; replace HB := zt HB hb; clear hb hbox hg; have hnb10 := NB101_102.out; have hnc10 := NB102_101.out; obtain ⟨hc11_0, hc11_1⟩ := zc2 BK101; obtain ⟨hf11_0, hf11_1⟩ := zf2 BK101) | ((with_reducible refine zd 6 rfl ?_); refine zb 6 #[.int .u64 0, .int .u64 0] 42 ?_; intro gb103 hg w12 hbox hb; have BK103 := zq3 (hbox); have GW103 := ze hg HB; have GE103 := GW103; have NB101_103 := zl hg BK101; have NB103_101 := zg hg BK101; have NB102_103 := zl hg BK102; have NB103_102 := zg hg BK102; replace BK101 := zs BK101 hb; replace BK102 := zs BK102 hb; replace HB := zt HB hb; clear hb hbox hg; have hnb13 := NB103_101.out; have hnc13 := NB101_103.out; have hnb14 := NB103_102.out; have hnc14 := NB102_103.out; obtain ⟨hc15_0, hc15_1⟩ := zc2 BK103; obtain ⟨hf15_0, hf15_1⟩ := zf2 BK103; obtain ⟨hc16_0, hc16_1⟩ := zc2 BK101; obtain ⟨hf16_0, hf16_1⟩ := zf2 BK101) | ((with_reducible refine zd 7 rfl ?_); refine zb 7 #[.int .u64 0, .int .u64 0] 42 ?_; intro gb104 hg w17 hbox hb; have BK104 := zq3 (hbox); have GW104 := ze hg HB; have GE104 := GW104; have NB101_104 := zq3 ((by rw [hg]; exact Nat.ne_of_lt (blk_lt (g := gb101) (o := .cells #[.int .u64 a0_0, .int .u64 a0_1] 42 (0, 0)) (zw BK101)) : gb101 ≠ gb104)); have NB104_101 := zq3 ((by rw [hg]; exact Nat.ne_of_gt (blk_lt (g := gb101) (o := .cells #[.int .u64 a0_0, .int .u64 a0_1] 42 (0, 0)) (zw BK101)) : gb104 ≠ gb101)); have NB102_104 := zq3 ((by rw [hg]; exact Nat.ne_of_lt (blk_lt (g := gb102) (o := .cells #[.int .u64 0, .int .u64 0] 42 (0, 0)) (zw BK102)) : gb102 ≠ gb104)); have NB104_102 := zq3 ((by rw [hg]; exact Nat.ne_of_gt (blk_lt (g := gb102) (o := .cells #[.int .u64 0, .int .u64 0] 42 (0, 0)) (zw BK102)) : gb104 ≠ gb102)); have NB103_104 := zq3 ((by rw [hg]; exact Nat.ne_of_lt (blk_lt (g := gb103) (o := .cells #[.int .u64 (IntKind.u64.wrap (Int.tdiv a0_0 a1)), .int .u64 0] 42 (0, 0)) (zw2 BK103)) : gb103 ≠ gb104)); have NB104_103 := zq3 ((by rw [hg]; exact Nat.ne_of_gt (blk_lt (g := gb103) (o := .cells #[.int .u64 (IntKind.u64.wrap (Int.tdiv a0_0 a1)), .int .u64 0] 42 (0, 0)) (zw2 BK103)) : gb104 ≠ gb103)); replace BK101 := zsf BK101 hb; replace BK102 := zsf BK102 hb; replace BK103 := zq3 (zq10 (o := .cells #[.int .u64 (IntKind.u64.wrap (Int.tdiv a0_0 a1)), .int .u64 0] 42 (0, 0)) (zw2 BK103) hb); replace HB := zt HB hb; clear hb hbox hg; have hnb18 := NB104_101.out; have hnc18 := NB101_104.out; have hnb19 := NB104_102.out; have hnc19 := NB102_104.out; have hnb20 := NB104_103.out; have hnc20 := NB103_104.out; obtain ⟨hc21_0, hc21_1⟩ := zc2 BK104; obtain ⟨hf21_0, hf21_1⟩ := zf2 BK104))
  go_loopg [8] k (fun kq v8 w' => ∃ (x8_1 : Int) (x104001_1 : Int) (x105000_1 : Int) (x105001_1 : Int), v8 = .int .i64 x8_1 ∧ Aside0 (wide_Div.l0 kq a1 x8_1 a0_0 a0_1 (IntKind.u64.wrap (Int.tdiv a0_0 a1)) x104001_1 x105000_1 x105001_1 = some (r1, r2, r3)) ∧ Aside0 (kq ≤ k) ∧ Aside0 (w'.heap[gb101]? = some (.cells #[.int .u64 a0_0, .int .u64 a0_1] 42 (0, 0))) ∧ Aside0 (w'.heap[gb102]? = some (.cells #[.int .u64 0, .int .u64 0] 42 (0, 0))) ∧ Aside0 (w'.heap[gb103]? = some (.cells #[.int .u64 (IntKind.u64.wrap (Int.tdiv a0_0 a1)), .int .u64 x104001_1] 42 (0, 0))) ∧ Aside0 (w'.heap[gb104]? = some (.cells #[.int .u64 x105000_1, .int .u64 x105001_1] 42 (0, 0))) ∧ Aside0 (Below w.heap.size w w'))
  case atStart => exact ⟨(63), (0), (0), (Int.tmod a0_0 a1), (by first | rfl | (simp; done) | (simp [*]; done)), H', ⟨Nat.le_refl _⟩, ⟨zw BK101⟩, ⟨zw BK102⟩, ⟨zw BK103⟩, ⟨zw2 BK104⟩, ⟨zh HB⟩⟩
  case round =>
   clear H'
   (try clear c1); (try clear c2); (try clear p2); (try clear c3); (try clear c3b0); (try clear c3b1); (try clear c4); (try clear c6); (try clear c10); (try clear c13); (try clear c14); (try clear c18); (try clear c19); (try clear c20)
   try clear hc11_0 hc11_1 hc15_0 hc15_1 hc16_0 hc16_1 hc21_0 hc21_1 hc7_0 hc7_1 hf11_0 hf11_1 hf15_0 hf15_1 hf16_0 hf16_1 hf21_0 hf21_1 hf7_0 hf7_1
   obtain ⟨x8_1, x104001_1, x105000_1, x105001_1, rfl, HA, HK1, BK101, BK102, BK103, BK104, HB⟩ := hrel
   cases gk with
   | zero => exact absurd HA.out (by simp [wide_Div.l0])
   | succ k1 =>
    have H := HA.out
    clear HA
    simp only [wide_Div.l0] at H
    by_cases c22 : x8_1 ≥ 0
    ·
     rw [if_pos c22] at H
     have c22b0 : decide (0 ≤ x8_1) = true := decide_eq_true c22
     clear c22
     obtain ⟨ji23, hji23⟩ : ∃ j_ : Int, (IntKind.u64.wrap (x8_1)) = j_ := ⟨_, rfl⟩
     replace H : (if 0 ≤ (ji23) then ((wide_twice.f x105000_1 x105001_1 (Go.bits .and .u64 (shr .u64 a0_1 (ji23)) 1)).bind fun bt105 => ((wide_Of.f a1).bind fun bt107 => ((wide_Less.f bt105.1 bt105.2 bt107.1 bt107.2).bind fun t109 => (if t109 = true then (wide_Div.l0 k1 a1 (wrap64 (x8_1 - 1)) a0_0 a0_1 (IntKind.u64.wrap (Int.tdiv a0_0 a1)) (IntKind.u64.wrap (x104001_1 * 2)) bt105.1 bt105.2) else ((wide_Of.f a1).bind fun bt110 => ((wide_Sub.f bt105.1 bt105.2 bt110.1 bt110.2).bind fun bt112 => (wide_Div.l0 k1 a1 (wrap64 (x8_1 - 1)) a0_0 a0_1 (IntKind.u64.wrap (Int.tdiv a0_0 a1)) (Go.bits .or .u64 (IntKind.u64.wrap (x104001_1 * 2)) 1) bt112.1 bt112.2.1))))))) else (none)) = some (r1, r2, r3) := by first | (rw [hji23] at H; exact H) | (simp only [hji23] at H ⊢; exact H)
     by_cases c24 : 0 ≤ (ji23)
     ·
      rw [if_pos c24] at H
      have c24b0 := eq_true c24
      have c24b1 : decide (0 ≤ (ji23)) = true := decide_eq_true c24
      clear c24
      obtain ⟨ji25, hji25⟩ : ∃ j_ : Int, (shr .u64 a0_1 (ji23)) = j_ := ⟨_, rfl⟩
      replace H : ((wide_twice.f x105000_1 x105001_1 (Go.bits .and .u64 (ji25) 1)).bind fun bt105 => ((wide_Of.f a1).bind fun bt107 => ((wide_Less.f bt105.1 bt105.2 bt107.1 bt107.2).bind fun t109 => (if t109 = true then (wide_Div.l0 k1 a1 (wrap64 (x8_1 - 1)) a0_0 a0_1 (IntKind.u64.wrap (Int.tdiv a0_0 a1)) (IntKind.u64.wrap (x104001_1 * 2)) bt105.1 bt105.2) else ((wide_Of.f a1).bind fun bt110 => ((wide_Sub.f bt105.1 bt105.2 bt110.1 bt110.2).bind fun bt112 => (wide_Div.l0 k1 a1 (wrap64 (x8_1 - 1)) a0_0 a0_1 (IntKind.u64.wrap (Int.tdiv a0_0 a1)) (Go.bits .or .u64 (IntKind.u64.wrap (x104001_1 * 2)) 1) bt112.1 bt112.2.1))))))) = some (r1, r2, r3) := by first | (rw [hji25] at H; exact H) | (simp only [hji25] at H ⊢; exact H)
      have hji25_ : (a0_1 / 2 ^ min (ji23).toNat 64) = ji25 := hji25
      have hji25z : (ji23) ≤ 64 → (a0_1 / 2 ^ (ji23).toNat) = ji25 := shr_small hji25
      replace H := Option.bind_eq_some_iff.mp H
      obtain ⟨⟨t105, t106⟩, A260, H⟩ := H
      replace H : ((wide_Of.f a1).bind fun bt107 => ((wide_Less.f t105 t106 bt107.1 bt107.2).bind fun t109 => (if t109 = true then (wide_Div.l0 k1 a1 (wrap64 (x8_1 - 1)) a0_0 a0_1 (IntKind.u64.wrap (Int.tdiv a0_0 a1)) (IntKind.u64.wrap (x104001_1 * 2)) t105 t106) else ((wide_Of.f a1).bind fun bt110 => ((wide_Sub.f t105 t106 bt110.1 bt110.2).bind fun bt112 => (wide_Div.l0 k1 a1 (wrap64 (x8_1 - 1)) a0_0 a0_1 (IntKind.u64.wrap (Int.tdiv a0_0 a1)) (Go.bits .or .u64 (IntKind.u64.wrap (x104001_1 * 2)) 1) bt112.1 bt112.2.1)))))) = some (r1, r2, r3) := H
      have A26 := zq3 A260
      clear A260
      replace H := Option.bind_eq_some_iff.mp H
      obtain ⟨⟨t107, t108⟩, A270, H⟩ := H
      replace H : ((wide_Less.f t105 t106 t107 t108).bind fun t109 => (if t109 = true then (wide_Div.l0 k1 a1 (wrap64 (x8_1 - 1)) a0_0 a0_1 (IntKind.u64.wrap (Int.tdiv a0_0 a1)) (IntKind.u64.wrap (x104001_1 * 2)) t105 t106) else ((wide_Of.f a1).bind fun bt110 => ((wide_Sub.f t105 t106 bt110.1 bt110.2).bind fun bt112 => (wide_Div.l0 k1 a1 (wrap64 (x8_1 - 1)) a0_0 a0_1 (IntKind.u64.wrap (Int.tdiv a0_0 a1)) (Go.bits .or .u64 (IntKind.u64.wrap (x104001_1 * 2)) 1) bt112.1 bt112.2.1))))) = some (r1, r2, r3) := H
      have A27 := zq3 A270
      clear A270
      replace H := Option.bind_eq_some_iff.mp H
      obtain ⟨t109, A280, H⟩ := H
      replace H : (if t109 = true then (wide_Div.l0 k1 a1 (wrap64 (x8_1 - 1)) a0_0 a0_1 (IntKind.u64.wrap (Int.tdiv a0_0 a1)) (IntKind.u64.wrap (x104001_1 * 2)) t105 t106) else ((wide_Of.f a1).bind fun bt110 => ((wide_Sub.f t105 t106 bt110.1 bt110.2).bind fun bt112 => (wide_Div.l0 k1 a1 (wrap64 (x8_1 - 1)) a0_0 a0_1 (IntKind.u64.wrap (Int.tdiv a0_0 a1)) (Go.bits .or .u64 (IntKind.u64.wrap (x104001_1 * 2)) 1) bt112.1 bt112.2.1)))) = some (r1, r2, r3) := H
      have A28 := zq3 A280
      clear A280
      by_cases c29 : t109 = true
      ·
       subst c29
       have H1 : (wide_Div.l0 k1 a1 (wrap64 (x8_1 - 1)) a0_0 a0_1 (IntKind.u64.wrap (Int.tdiv a0_0 a1)) (IntKind.u64.wrap (x104001_1 * 2)) t105 t106) = some (r1, r2, r3) := by rw [if_pos rfl] at H; exact H
       clear H
       have H := H1
       clear H1
       have H' := zq3 H
       clear H
       have hnb30 := NB104_101.out
       have hnc30 := NB101_104.out
       have hnb31 := NB104_102.out
       have hnc31 := NB102_104.out
       have hnb32 := NB104_103.out
       have hnc32 := NB103_104.out
       obtain ⟨hc33_0, hc33_1⟩ := zc2 BK104
       obtain ⟨hf33_0, hf33_1⟩ := zf2 BK104
       have hnb34 := NB101_102.out
       have hnc34 := NB102_101.out
       have hnb35 := NB101_103.out
       have hnc35 := NB103_101.out
       obtain ⟨hc36_0, hc36_1⟩ := zc2 BK101
       obtain ⟨hf36_0, hf36_1⟩ := zf2 BK101
       try go_wp2_with (first | ((with_reducible refine gate_callee (f := 72) rfl ?_); refine goesL_ (some 33) rfl rfl Try.func72 (by kernel_rfl) rfl #[.agg #[.int .u64 x105000_1, .int .u64 x105001_1], .int .u64 (Go.bits .and .u64 (ji25) 1)] rfl (by (try simp only [List.map_toArray, List.map_cons, List.map_nil]); first | done | (simp only [hji25]; rfl) | rfl | (simp only [List.length_drop, List.length_take]; rfl)) ?_; (with_reducible refine (wide_twice.calls x105000_1 x105001_1 (Go.bits .and .u64 (ji25) 1) t105 t106 _ A26.out).mono ?_); rintro e w37 ⟨rfl, hb⟩; refine ⟨_, rfl, ?_⟩; replace BK101 := zs BK101 hb; replace BK102 := zs BK102 hb; replace BK103 := zs BK103 hb; replace BK104 := zs BK104 hb; replace HB := zt HB hb; (try clear hb); obtain ⟨hc38_0, hc38_1⟩ := zc2 BK104; obtain ⟨hf38_0, hf38_1⟩ := zf2 BK104; have hnb39 := NB103_102.out; have hnc39 := NB102_103.out; obtain ⟨hc40_0, hc40_1⟩ := zc2 BK103; obtain ⟨hf40_0, hf40_1⟩ := zf2 BK103))
       have n0_ : Aside0 ((((w37.setCell ⟨gb104, 0, none⟩ (.int .u64 t105)).setCell ⟨gb104, 1, none⟩ (.int .u64 t106)).setCell ⟨gb103, 1, none⟩ (.int .u64 (IntKind.u64.wrap (x104001_1 * 2)))).heap[gb101]? = some (.cells #[.int .u64 a0_0, .int .u64 a0_1] 42 (0, 0))) := ⟨zw BK101⟩
       have n1_ : Aside0 ((((w37.setCell ⟨gb104, 0, none⟩ (.int .u64 t105)).setCell ⟨gb104, 1, none⟩ (.int .u64 t106)).setCell ⟨gb103, 1, none⟩ (.int .u64 (IntKind.u64.wrap (x104001_1 * 2)))).heap[gb102]? = some (.cells #[.int .u64 0, .int .u64 0] 42 (0, 0))) := ⟨zw BK102⟩
       have n2_ : Aside0 ((((w37.setCell ⟨gb104, 0, none⟩ (.int .u64 t105)).setCell ⟨gb104, 1, none⟩ (.int .u64 t106)).setCell ⟨gb103, 1, none⟩ (.int .u64 (IntKind.u64.wrap (x104001_1 * 2)))).heap[gb103]? = some (.cells #[.int .u64 (IntKind.u64.wrap (Int.tdiv a0_0 a1)), .int .u64 (IntKind.u64.wrap (x104001_1 * 2))] 42 (0, 0))) := ⟨by (with_reducible repeat (first | refine zq0 ?_ _ | refine zq2 ?_ | refine zq1 ?_ _)); refine blk_put (cs := #[.int .u64 (IntKind.u64.wrap (Int.tdiv a0_0 a1)), .int .u64 x104001_1]) ?_ 1 _ rfl; (with_reducible repeat (first | refine zq0 ?_ _ | refine zq2 ?_ | refine zq1 ?_ _)); refine zq11 ?_ NB103_104.out _; (with_reducible repeat (first | refine zq0 ?_ _ | refine zq2 ?_ | refine zq1 ?_ _)); refine zq11 ?_ NB103_104.out _; (with_reducible repeat (first | refine zq0 ?_ _ | refine zq2 ?_ | refine zq1 ?_ _)); exact BK103.out⟩
       have n3_ : Aside0 ((((w37.setCell ⟨gb104, 0, none⟩ (.int .u64 t105)).setCell ⟨gb104, 1, none⟩ (.int .u64 t106)).setCell ⟨gb103, 1, none⟩ (.int .u64 (IntKind.u64.wrap (x104001_1 * 2)))).heap[gb104]? = some (.cells #[.int .u64 t105, .int .u64 t106] 42 (0, 0))) := ⟨zw2 BK104⟩
       have n4_ : Aside0 (Below w.heap.size w (((w37.setCell ⟨gb104, 0, none⟩ (.int .u64 t105)).setCell ⟨gb104, 1, none⟩ (.int .u64 t106)).setCell ⟨gb103, 1, none⟩ (.int .u64 (IntKind.u64.wrap (x104001_1 * 2))))) := ⟨zh HB⟩
       (try clear BK101)
       (try clear BK102)
       (try clear BK103)
       (try clear BK104)
       (try clear HB)
       generalize (((w37.setCell ⟨gb104, 0, none⟩ (.int .u64 t105)).setCell ⟨gb104, 1, none⟩ (.int .u64 t106)).setCell ⟨gb103, 1, none⟩ (.int .u64 (IntKind.u64.wrap (x104001_1 * 2)))) = w41 at n0_ n1_ n2_ n3_ n4_ ⊢
       have BK101 := n0_
       have BK102 := n1_
       have BK103 := n2_
       have BK104 := n3_
       have HB := n4_
       clear n0_ n1_ n2_ n3_ n4_
       replace BK101 := zq3 (zq2 BK101.out); replace BK102 := zq3 (zq2 BK102.out); replace BK103 := zq3 (zq2 BK103.out); replace BK104 := zq3 (zq2 BK104.out); replace HB := zq3 (zq8 HB.out)
       refine start_ (n := 5) (S := fun w' => w'.cell? ⟨gb104, 0, none⟩ = some (.int .u64 t105) ∧ w'.cell? ⟨gb104, 1, none⟩ = some (.int .u64 t106)) (ds := []) #[false, false, false, false, false] (by kernel_rfl) rfl rfl ⟨(zq5 BK104.out 0).trans rfl, (zq5 BK104.out 1).trans rfl⟩ (fun hHeld => ?_)
       generalize w41.drew = w42 at BK101 BK102 BK103 BK104 HB hHeld ⊢
       refine pure_ (i := 1) (N := some 39) (v := ?_) (a' := ?_) #[false, true, false, false, false] rfl rfl (by kernel_rfl) (fun _ _ _ h => h) (Or.inl ⟨by rfl, ?_⟩) ?_ ?_
       rotate_left
       ·
        intro w'
        go_simp
        with_reducible rfl
       rotate_left
       ·
        simp only [Act.put, List.setIfInBounds_toArray, List.set_cons_zero, List.set_cons_succ, i64_w, i32_w]
        rfl
       refine take_ (i := 0) (N := some 38) (v := ?_) (a' := ?_) #[true, true, false, false, false] rfl rfl (by kernel_rfl) (fun _ _ _ h => h) (Or.inl ⟨by rfl, ?_⟩) hHeld ?_ ?_
       rotate_left
       ·
        rintro w' ⟨s0, s1⟩
        go_simp
        with_reducible rfl
       rotate_left
       ·
        simp only [Act.put, List.setIfInBounds_toArray, List.set_cons_zero, List.set_cons_succ, i64_w, i32_w]
        rfl
       refine one_ (i := 2) (N := some 40) #[true, true, true, false, false] rfl rfl (by kernel_rfl) (by decide) (fun K hK => ?_)
       refine goes_ Try.func45 (by kernel_rfl) rfl #[.int .u64 a1] (by rfl) rfl rfl (by (try simp only [List.map_toArray, List.map_cons, List.map_nil]); first | done | rfl | (simp only [List.length_drop, List.length_take]; rfl)) ?_
       with_reducible refine (wide_Of.calls a1 t107 t108 _ A27.out).mono ?_
       rintro e w43 ⟨rfl, hb⟩
       refine ⟨_, rfl, ?_⟩
       replace BK101 := zs BK101 hb; replace BK102 := zs BK102 hb; replace BK103 := zs BK103 hb; replace BK104 := zs BK104 hb; replace HB := zt HB hb
       (try clear hb)
       (try clear hb2)
       (try clear hk)
       (try clear hi)
       refine hK.out _ _ ⟨(zq5 BK104.out 0).trans rfl, (zq5 BK104.out 1).trans rfl⟩ (fun hHeld => ?_)
       clear hK K
       refine norm_ (a' := ?_) ?_ ?_
       rotate_left
       ·
        show Act.put _ (some 40) _ = _
        simp only [Act.put, List.setIfInBounds_toArray, List.set_cons_zero, List.set_cons_succ, i64_w, i32_w]
        rfl
       refine one_ (i := 3) (N := some 41) #[true, true, true, true, false] rfl rfl (by kernel_rfl) (by decide) (fun K hK => ?_)
       refine goes_ Try.func25 (by kernel_rfl) rfl #[.agg #[.int .u64 t105, .int .u64 t106], .agg #[.int .u64 t107, .int .u64 t108]] (by rfl) rfl rfl (by (try simp only [List.map_toArray, List.map_cons, List.map_nil]); first | done | rfl | (simp only [List.length_drop, List.length_take]; rfl)) ?_
       with_reducible refine (wide_Less.calls t105 t106 t107 t108 true _ A28.out).mono ?_
       rintro e w44 ⟨rfl, hb⟩
       refine ⟨_, rfl, ?_⟩
       replace BK101 := zs BK101 hb; replace BK102 := zs BK102 hb; replace BK103 := zs BK103 hb; replace BK104 := zs BK104 hb; replace HB := zt HB hb
       (try clear hb)
       (try clear hb2)
       (try clear hk)
       (try clear hi)
       refine hK.out _ _ ⟨(zq5 BK104.out 0).trans rfl, (zq5 BK104.out 1).trans rfl⟩ (fun hHeld => ?_)
       clear hK K
       refine norm_ (a' := ?_) ?_ ?_
       rotate_left
       ·
        show Act.put _ (some 41) _ = _
        simp only [Act.put, List.setIfInBounds_toArray, List.set_cons_zero, List.set_cons_succ, i64_w, i32_w]
        rfl
       refine pure_ (i := 4) (N := some 42) (v := ?_) (a' := ?_) #[true, true, true, true, true] rfl rfl (by kernel_rfl) (fun _ _ _ h => h) (Or.inl ⟨by rfl, ?_⟩) ?_ ?_
       rotate_left
       ·
        intro w'
        go_simp
        with_reducible rfl
       rotate_left
       ·
        simp only [Act.put, List.setIfInBounds_toArray, List.set_cons_zero, List.set_cons_succ, i64_w, i32_w]
        rfl
       refine done_ (by kernel_rfl) ?_
       try go_wp2
       go_roundg k1
       case measure => have := HK1.out; omega
       case rel => exact ⟨(wrap64 (x8_1 - 1)), (IntKind.u64.wrap (x104001_1 * 2)), (t105), (t106), (by first | rfl | (simp; done) | (simp [*]; done)), H', ⟨by have := HK1.out; omega⟩, ⟨zw BK101⟩, ⟨zw BK102⟩, ⟨zw BK103⟩, ⟨zw BK104⟩, ⟨zh HB⟩⟩
      ·
       replace c29 := Bool.eq_false_iff.mpr c29
       subst c29
       have H1 : ((wide_Of.f a1).bind fun bt110 => ((wide_Sub.f t105 t106 bt110.1 bt110.2).bind fun bt112 => (wide_Div.l0 k1 a1 (wrap64 (x8_1 - 1)) a0_0 a0_1 (IntKind.u64.wrap (Int.tdiv a0_0 a1)) (Go.bits .or .u64 (IntKind.u64.wrap (x104001_1 * 2)) 1) bt112.1 bt112.2.1))) = some (r1, r2, r3) := by rw [if_neg (show ¬ (false = true) by decide)] at H; exact H
       clear H
       have H := H1
       clear H1
       replace H := Option.bind_eq_some_iff.mp H
       obtain ⟨⟨t110, t111⟩, A450, H⟩ := H
       replace H : ((wide_Sub.f t105 t106 t110 t111).bind fun bt112 => (wide_Div.l0 k1 a1 (wrap64 (x8_1 - 1)) a0_0 a0_1 (IntKind.u64.wrap (Int.tdiv a0_0 a1)) (Go.bits .or .u64 (IntKind.u64.wrap (x104001_1 * 2)) 1) bt112.1 bt112.2.1)) = some (r1, r2, r3) := H
       have A45 := zq3 A450
       clear A450
       replace H := Option.bind_eq_some_iff.mp H
       obtain ⟨⟨t112, t113, t114⟩, A460, H⟩ := H
       replace H : (wide_Div.l0 k1 a1 (wrap64 (x8_1 - 1)) a0_0 a0_1 (IntKind.u64.wrap (Int.tdiv a0_0 a1)) (Go.bits .or .u64 (IntKind.u64.wrap (x104001_1 * 2)) 1) t112 t113) = some (r1, r2, r3) := H
       have A46 := zq3 A460
       clear A460
       have H' := zq3 H
       clear H
       have hnb47 := NB104_101.out
       have hnc47 := NB101_104.out
       have hnb48 := NB104_102.out
       have hnc48 := NB102_104.out
       have hnb49 := NB104_103.out
       have hnc49 := NB103_104.out
       obtain ⟨hc50_0, hc50_1⟩ := zc2 BK104
       obtain ⟨hf50_0, hf50_1⟩ := zf2 BK104
       have hnb51 := NB101_102.out
       have hnc51 := NB102_101.out
       have hnb52 := NB101_103.out
       have hnc52 := NB103_101.out
       obtain ⟨hc53_0, hc53_1⟩ := zc2 BK101
       obtain ⟨hf53_0, hf53_1⟩ := zf2 BK101
       try go_wp2_with (first | ((with_reducible refine gate_callee (f := 72) rfl ?_); refine goesL_ (some 33) rfl rfl Try.func72 (by kernel_rfl) rfl #[.agg #[.int .u64 x105000_1, .int .u64 x105001_1], .int .u64 (Go.bits .and .u64 (ji25) 1)] rfl (by (try simp only [List.map_toArray, List.map_cons, List.map_nil]); first | done | (simp only [hji25]; rfl) | rfl | (simp only [List.length_drop, List.length_take]; rfl)) ?_; (with_reducible refine (wide_twice.calls x105000_1 x105001_1 (Go.bits .and .u64 (ji25) 1) t105 t106 _ A26.out).mono ?_); rintro e w54 ⟨rfl, hb⟩; refine ⟨_, rfl, ?_⟩; replace BK101 := zs BK101 hb; replace BK102 := zs BK102 hb; replace BK103 := zs BK103 hb; replace BK104 := zs BK104 hb; replace HB := zt HB hb; (try clear hb); obtain ⟨hc55_0, hc55_1⟩ := zc2 BK104; obtain ⟨hf55_0, hf55_1⟩ := zf2 BK104; have hnb56 := NB103_102.out; have hnc56 := NB102_103.out; obtain ⟨hc57_0, hc57_1⟩ := zc2 BK103; obtain ⟨hf57_0, hf57_1⟩ := zf2 BK103))
       have n0_ : Aside0 ((((w54.setCell ⟨gb104, 0, none⟩ (.int .u64 t105)).setCell ⟨gb104, 1, none⟩ (.int .u64 t106)).setCell ⟨gb103, 1, none⟩ (.int .u64 (IntKind.u64.wrap (x104001_1 * 2)))).heap[gb101]? = some (.cells #[.int .u64 a0_0, .int .u64 a0_1] 42 (0, 0))) := ⟨zw BK101⟩
       have n1_ : Aside0 ((((w54.setCell ⟨gb104, 0, none⟩ (.int .u64 t105)).setCell ⟨gb104, 1, none⟩ (.int .u64 t106)).setCell ⟨gb103, 1, none⟩ (.int .u64 (IntKind.u64.wrap (x104001_1 * 2)))).heap[gb102]? = some (.cells #[.int .u64 0, .int .u64 0] 42 (0, 0))) := ⟨zw BK102⟩
       have n2_ : Aside0 ((((w54.setCell ⟨gb104, 0, none⟩ (.int .u64 t105)).setCell ⟨gb104, 1, none⟩ (.int .u64 t106)).setCell ⟨gb103, 1, none⟩ (.int .u64 (IntKind.u64.wrap (x104001_1 * 2)))).heap[gb103]? = some (.cells #[.int .u64 (IntKind.u64.wrap (Int.tdiv a0_0 a1)), .int .u64 (IntKind.u64.wrap (x104001_1 * 2))] 42 (0, 0))) := ⟨by (with_reducible repeat (first | refine zq0 ?_ _ | refine zq2 ?_ | refine zq1 ?_ _)); refine blk_put (cs := #[.int .u64 (IntKind.u64.wrap (Int.tdiv a0_0 a1)), .int .u64 x104001_1]) ?_ 1 _ rfl; (with_reducible repeat (first | refine zq0 ?_ _ | refine zq2 ?_ | refine zq1 ?_ _)); refine zq11 ?_ NB103_104.out _; (with_reducible repeat (first | refine zq0 ?_ _ | refine zq2 ?_ | refine zq1 ?_ _)); refine zq11 ?_ NB103_104.out _; (with_reducible repeat (first | refine zq0 ?_ _ | refine zq2 ?_ | refine zq1 ?_ _)); exact BK103.out⟩
       have n3_ : Aside0 ((((w54.setCell ⟨gb104, 0, none⟩ (.int .u64 t105)).setCell ⟨gb104, 1, none⟩ (.int .u64 t106)).setCell ⟨gb103, 1, none⟩ (.int .u64 (IntKind.u64.wrap (x104001_1 * 2)))).heap[gb104]? = some (.cells #[.int .u64 t105, .int .u64 t106] 42 (0, 0))) := ⟨zw2 BK104⟩
       have n4_ : Aside0 (Below w.heap.size w (((w54.setCell ⟨gb104, 0, none⟩ (.int .u64 t105)).setCell ⟨gb104, 1, none⟩ (.int .u64 t106)).setCell ⟨gb103, 1, none⟩ (.int .u64 (IntKind.u64.wrap (x104001_1 * 2))))) := ⟨zh HB⟩
       (try clear BK101)
       (try clear BK102)
       (try clear BK103)
       (try clear BK104)
       (try clear HB)
       generalize (((w54.setCell ⟨gb104, 0, none⟩ (.int .u64 t105)).setCell ⟨gb104, 1, none⟩ (.int .u64 t106)).setCell ⟨gb103, 1, none⟩ (.int .u64 (IntKind.u64.wrap (x104001_1 * 2)))) = w58 at n0_ n1_ n2_ n3_ n4_ ⊢
       have BK101 := n0_
       have BK102 := n1_
       have BK103 := n2_
       have BK104 := n3_
       have HB := n4_
       clear n0_ n1_ n2_ n3_ n4_
       replace BK101 := zq3 (zq2 BK101.out); replace BK102 := zq3 (zq2 BK102.out); replace BK103 := zq3 (zq2 BK103.out); replace BK104 := zq3 (zq2 BK104.out); replace HB := zq3 (zq8 HB.out)
       refine start_ (n := 5) (S := fun w' => w'.cell? ⟨gb104, 0, none⟩ = some (.int .u64 t105) ∧ w'.cell? ⟨gb104, 1, none⟩ = some (.int .u64 t106)) (ds := []) #[false, false, false, false, false] (by kernel_rfl) rfl rfl ⟨(zq5 BK104.out 0).trans rfl, (zq5 BK104.out 1).trans rfl⟩ (fun hHeld => ?_)
       generalize w58.drew = w59 at BK101 BK102 BK103 BK104 HB hHeld ⊢
       refine pure_ (i := 1) (N := some 39) (v := ?_) (a' := ?_) #[false, true, false, false, false] rfl rfl (by kernel_rfl) (fun _ _ _ h => h) (Or.inl ⟨by rfl, ?_⟩) ?_ ?_
       rotate_left
       ·
        intro w'
        go_simp
        with_reducible rfl
       rotate_left
       ·
        simp only [Act.put, List.setIfInBounds_toArray, List.set_cons_zero, List.set_cons_succ, i64_w, i32_w]
        rfl
       refine take_ (i := 0) (N := some 38) (v := ?_) (a' := ?_) #[true, true, false, false, false] rfl rfl (by kernel_rfl) (fun _ _ _ h => h) (Or.inl ⟨by rfl, ?_⟩) hHeld ?_ ?_
       rotate_left
       ·
        rintro w' ⟨s0, s1⟩
        go_simp
        with_reducible rfl
       rotate_left
       ·
        simp only [Act.put, List.setIfInBounds_toArray, List.set_cons_zero, List.set_cons_succ, i64_w, i32_w]
        rfl
       refine one_ (i := 2) (N := some 40) #[true, true, true, false, false] rfl rfl (by kernel_rfl) (by decide) (fun K hK => ?_)
       refine goes_ Try.func45 (by kernel_rfl) rfl #[.int .u64 a1] (by rfl) rfl rfl (by (try simp only [List.map_toArray, List.map_cons, List.map_nil]); first | done | rfl | (simp only [List.length_drop, List.length_take]; rfl)) ?_
       with_reducible refine (wide_Of.calls a1 t107 t108 _ A27.out).mono ?_
       rintro e w60 ⟨rfl, hb⟩
       refine ⟨_, rfl, ?_⟩
       replace BK101 := zs BK101 hb; replace BK102 := zs BK102 hb; replace BK103 := zs BK103 hb; replace BK104 := zs BK104 hb; replace HB := zt HB hb
       (try clear hb)
       (try clear hb2)
       (try clear hk)
       (try clear hi)
       refine hK.out _ _ ⟨(zq5 BK104.out 0).trans rfl, (zq5 BK104.out 1).trans rfl⟩ (fun hHeld => ?_)
       clear hK K
       refine norm_ (a' := ?_) ?_ ?_
       rotate_left
       ·
        show Act.put _ (some 40) _ = _
        simp only [Act.put, List.setIfInBounds_toArray, List.set_cons_zero, List.set_cons_succ, i64_w, i32_w]
        rfl
       refine one_ (i := 3) (N := some 41) #[true, true, true, true, false] rfl rfl (by kernel_rfl) (by decide) (fun K hK => ?_)
       refine goes_ Try.func25 (by kernel_rfl) rfl #[.agg #[.int .u64 t105, .int .u64 t106], .agg #[.int .u64 t107, .int .u64 t108]] (by rfl) rfl rfl (by (try simp only [List.map_toArray, List.map_cons, List.map_nil]); first | done | rfl | (simp only [List.length_drop, List.length_take]; rfl)) ?_
       with_reducible refine (wide_Less.calls t105 t106 t107 t108 false _ A28.out).mono ?_
       rintro e w61 ⟨rfl, hb⟩
       refine ⟨_, rfl, ?_⟩
       replace BK101 := zs BK101 hb; replace BK102 := zs BK102 hb; replace BK103 := zs BK103 hb; replace BK104 := zs BK104 hb; replace HB := zt HB hb
       (try clear hb)
       (try clear hb2)
       (try clear hk)
       (try clear hi)
       refine hK.out _ _ ⟨(zq5 BK104.out 0).trans rfl, (zq5 BK104.out 1).trans rfl⟩ (fun hHeld => ?_)
       clear hK K
       refine norm_ (a' := ?_) ?_ ?_
       rotate_left
       ·
        show Act.put _ (some 41) _ = _
        simp only [Act.put, List.setIfInBounds_toArray, List.set_cons_zero, List.set_cons_succ, i64_w, i32_w]
        rfl
       refine pure_ (i := 4) (N := some 42) (v := ?_) (a' := ?_) #[true, true, true, true, true] rfl rfl (by kernel_rfl) (fun _ _ _ h => h) (Or.inl ⟨by rfl, ?_⟩) ?_ ?_
       rotate_left
       ·
        intro w'
        go_simp
        with_reducible rfl
       rotate_left
       ·
        simp only [Act.put, List.setIfInBounds_toArray, List.set_cons_zero, List.set_cons_succ, i64_w, i32_w]
        rfl
       refine done_ (by kernel_rfl) ?_
       try go_wp2
       replace BK101 := zq3 (zq2 BK101.out); replace BK102 := zq3 (zq2 BK102.out); replace BK103 := zq3 (zq2 BK103.out); replace BK104 := zq3 (zq2 BK104.out); replace HB := zq3 (zq8 HB.out)
       refine start_ (n := 8) (S := fun w' => w'.cell? ⟨gb104, 0, none⟩ = some (.int .u64 t105) ∧ w'.cell? ⟨gb104, 1, none⟩ = some (.int .u64 t106)) (ds := [7]) #[false, false, false, false, false, false, false, false] (by kernel_rfl) rfl rfl ⟨(zq5 BK104.out 0).trans rfl, (zq5 BK104.out 1).trans rfl⟩ (fun hHeld => ?_); refine with_tabW wide_Div.tab11 wide_Div.bits11 (fun HT_ HW_ => ?_)
       generalize w61.drew = w62 at BK101 BK102 BK103 BK104 HB hHeld ⊢
       refine pure_ (i := 1) (N := some 45) (v := ?_) (a' := ?_) #[false, true, false, false, false, false, false, false] rfl rfl (any_of HT_.out (by kernel_rfl)) (fun _ _ _ h => h) (Or.inl ⟨by rfl, ?_⟩) ?_ ?_
       rotate_left
       ·
        intro w'
        go_simp
        with_reducible rfl
       rotate_left
       ·
        simp only [Act.put, List.setIfInBounds_toArray, List.set_cons_zero, List.set_cons_succ, i64_w, i32_w]
        rfl
       refine take_ (i := 0) (N := some 44) (v := ?_) (a' := ?_) #[true, true, false, false, false, false, false, false] rfl rfl (take_ofW HT_.out HW_.out (by kernel_rfl)) (fun _ _ _ h => h) (Or.inl ⟨by rfl, ?_⟩) hHeld ?_ ?_
       rotate_left
       ·
        rintro w' ⟨s0, s1⟩
        go_simp
        with_reducible rfl
       rotate_left
       ·
        simp only [Act.put, List.setIfInBounds_toArray, List.set_cons_zero, List.set_cons_succ, i64_w, i32_w]
        rfl
       refine one_ (i := 2) (N := some 46) #[true, true, true, false, false, false, false, false] rfl rfl (one_of HT_.out (by kernel_rfl)) (by decide) (fun K hK => ?_)
       refine goes_ Try.func45 (by kernel_rfl) rfl #[.int .u64 a1] (by rfl) rfl rfl (by (try simp only [List.map_toArray, List.map_cons, List.map_nil]); first | done | rfl | (simp only [List.length_drop, List.length_take]; rfl)) ?_
       with_reducible refine (wide_Of.calls a1 t110 t111 _ A45.out).mono ?_
       rintro e w63 ⟨rfl, hb⟩
       refine ⟨_, rfl, ?_⟩
       replace BK101 := zs BK101 hb; replace BK102 := zs BK102 hb; replace BK103 := zs BK103 hb; replace BK104 := zs BK104 hb; replace HB := zt HB hb
       (try clear hb)
       (try clear hb2)
       (try clear hk)
       (try clear hi)
       refine hK.out _ _ ⟨(zq5 BK104.out 0).trans rfl, (zq5 BK104.out 1).trans rfl⟩ (fun hHeld => ?_)
       clear hK K
       refine norm_ (a' := ?_) ?_ ?_
       rotate_left
       ·
        show Act.put _ (some 46) _ = _
        simp only [Act.put, List.setIfInBounds_toArray, List.set_cons_zero, List.set_cons_succ, i64_w, i32_w]
        rfl
       refine one_ (i := 3) (N := some 47) #[true, true, true, true, false, false, false, false] rfl rfl (one_of HT_.out (by kernel_rfl)) (by decide) (fun K hK => ?_)
       refine goes_ Try.func73 (by kernel_rfl) rfl #[.agg #[.int .u64 t105, .int .u64 t106], .agg #[.int .u64 t110, .int .u64 t111]] (by rfl) rfl rfl (by (try simp only [List.map_toArray, List.map_cons, List.map_nil]); first | done | rfl | (simp only [List.length_drop, List.length_take]; rfl)) ?_
       with_reducible refine (wide_Sub.calls t105 t106 t110 t111 t112 t113 t114 _ A46.out).mono ?_
       rintro e w64 ⟨rfl, hb⟩
       refine ⟨_, rfl, ?_⟩
       replace BK101 := zs BK101 hb; replace BK102 := zs BK102 hb; replace BK103 := zs BK103 hb; replace BK104 := zs BK104 hb; replace HB := zt HB hb
       (try clear hb)
       (try clear hb2)
       (try clear hk)
       (try clear hi)
       refine hK.out _ _ ⟨(zq5 BK104.out 0).trans rfl, (zq5 BK104.out 1).trans rfl⟩ (fun hHeld => ?_)
       clear hK K
       refine norm_ (a' := ?_) ?_ ?_
       rotate_left
       ·
        show Act.put _ (some 47) _ = _
        simp only [Act.put, List.setIfInBounds_toArray, List.set_cons_zero, List.set_cons_succ, i64_w, i32_w]
        rfl
       refine pure_ (i := 4) (N := some 43) (v := ?_) (a' := ?_) #[true, true, true, true, true, false, false, false] rfl rfl (any_of HT_.out (by kernel_rfl)) (fun _ _ _ h => h) (Or.inl ⟨by rfl, ?_⟩) ?_ ?_
       rotate_left
       ·
        intro w'
        go_simp
        with_reducible rfl
       rotate_left
       ·
        simp only [Act.put, List.setIfInBounds_toArray, List.set_cons_zero, List.set_cons_succ, i64_w, i32_w]
        rfl
       refine pure_ (i := 5) (N := some 48) (v := ?_) (a' := ?_) #[true, true, true, true, true, true, false, false] rfl rfl (any_of HT_.out (by kernel_rfl)) (fun _ _ _ h => h) (Or.inl ⟨by rfl, ?_⟩) ?_ ?_
       rotate_left
       ·
        intro w'
        go_simp
        with_reducible rfl
       rotate_left
       ·
        simp only [Act.put, List.setIfInBounds_toArray, List.set_cons_zero, List.set_cons_succ, i64_w, i32_w]
        rfl
       refine pure_ (i := 6) (N := some 49) (v := ?_) (a' := ?_) #[true, true, true, true, true, true, true, false] rfl rfl (any_of HT_.out (by kernel_rfl)) (fun _ _ _ h => h) (Or.inl ⟨by rfl, ?_⟩) ?_ ?_
       rotate_left
       ·
        intro w'
        go_simp
        with_reducible rfl
       rotate_left
       ·
        simp only [Act.put, List.setIfInBounds_toArray, List.set_cons_zero, List.set_cons_succ, i64_w, i32_w]
        rfl
       refine last_ (i := 7) (N := none) #[true, true, true, true, true, true, true, true] rfl rfl (one_of HT_.out (by kernel_rfl)) (by decide) (fun K hK => ?_)
       have hs65 : w64.cell? ⟨gb104, 0, none⟩ = some (.int .u64 t105) := (zq5 BK104.out 0).trans rfl
       have hfs65 := zq4 BK104.out 0
       have hns65_0 := NB101_104.out
       have hns65_1 := NB102_104.out
       have hns65_2 := NB103_104.out
       have hms65_0 := NB104_101.out
       have hms65_1 := NB104_102.out
       have hms65_2 := NB104_103.out
       have hs66 : w64.cell? ⟨gb104, 1, none⟩ = some (.int .u64 t106) := (zq5 BK104.out 1).trans rfl
       have hfs66 := zq4 BK104.out 1
       have hns66_0 := NB101_104.out
       have hns66_1 := NB102_104.out
       have hns66_2 := NB103_104.out
       have hms66_0 := NB104_101.out
       have hms66_1 := NB104_102.out
       have hms66_2 := NB104_103.out
       refine skip_ (w1 := ?_) (by rfl) rfl ?_ ?_
       rotate_left
       ·
        go_simp
        rfl
       refine hK.out _ _ ?_
       clear hK K
       refine done_ (done_of HT_.out (by kernel_rfl)) ?_
       obtain ⟨hc67_0, hc67_1⟩ := zc2 BK103
       obtain ⟨hf67_0, hf67_1⟩ := zf2 BK103
       try go_wp2
       go_roundg k1
       case measure => have := HK1.out; omega
       case rel => exact ⟨(wrap64 (x8_1 - 1)), (Go.bits .or .u64 (IntKind.u64.wrap (x104001_1 * 2)) 1), (t112), (t113), (by first | rfl | (simp; done) | (simp [*]; done)), H', ⟨by have := HK1.out; omega⟩, ⟨zw BK101⟩, ⟨zw BK102⟩, ⟨by (with_reducible repeat (first | refine zq0 ?_ _ | refine zq2 ?_ | refine zq1 ?_ _)); refine blk_put (cs := #[.int .u64 (IntKind.u64.wrap (Int.tdiv a0_0 a1)), .int .u64 (IntKind.u64.wrap (x104001_1 * 2))]) ?_ 1 _ rfl; (with_reducible repeat (first | refine zq0 ?_ _ | refine zq2 ?_ | refine zq1 ?_ _)); refine zq11 ?_ NB103_104.out _; (with_reducible repeat (first | refine zq0 ?_ _ | refine zq2 ?_ | refine zq1 ?_ _)); refine zq11 ?_ NB103_104.out _; (with_reducible repeat (first | refine zq0 ?_ _ | refine zq2 ?_ | refine zq1 ?_ _)); exact BK103.out⟩, ⟨zw2 BK104⟩, ⟨zh HB⟩⟩
     ·
      rw [if_neg c24] at H
      exact absurd H (by simp)
    ·
     rw [if_neg c22] at H
     have c22b0 : decide (0 ≤ x8_1) = false := decide_eq_false c22
     clear c22
     simp only [Option.some.injEq, Prod.mk.injEq] at H
     obtain ⟨rfl, rfl, rfl⟩ := H
     try go_wp2
     replace BK101 := zq3 (zq2 BK101.out); replace BK102 := zq3 (zq2 BK102.out); replace BK103 := zq3 (zq2 BK103.out); replace BK104 := zq3 (zq2 BK104.out); replace HB := zq3 (zq8 HB.out)
     refine start_ (n := 5) (S := fun w' => w'.cell? ⟨gb103, 0, none⟩ = some (.int .u64 (IntKind.u64.wrap (Int.tdiv a0_0 a1))) ∧ w'.cell? ⟨gb103, 1, none⟩ = some (.int .u64 x104001_1) ∧ w'.cell? ⟨gb104, 0, none⟩ = some (.int .u64 x105000_1) ∧ w'.cell? ⟨gb104, 1, none⟩ = some (.int .u64 x105001_1)) (ds := []) #[false, false, false, false, false] (by kernel_rfl) rfl rfl ⟨(zq5 BK103.out 0).trans rfl, (zq5 BK103.out 1).trans rfl, (zq5 BK104.out 0).trans rfl, (zq5 BK104.out 1).trans rfl⟩ (fun hHeld => ?_)
     generalize wr.drew = w68 at BK101 BK102 BK103 BK104 HB hHeld ⊢
     refine pure_ (i := 1) (N := some 55) (v := ?_) (a' := ?_) #[false, true, false, false, false] rfl rfl (by kernel_rfl) (fun _ _ _ h => h) (Or.inl ⟨by rfl, ?_⟩) ?_ ?_
     rotate_left
     ·
      intro w'
      go_simp
      with_reducible rfl
     rotate_left
     ·
      simp only [Act.put, List.setIfInBounds_toArray, List.set_cons_zero, List.set_cons_succ, i64_w, i32_w]
      rfl
     refine take_ (i := 0) (N := some 54) (v := ?_) (a' := ?_) #[true, true, false, false, false] rfl rfl (by kernel_rfl) (fun _ _ _ h => h) (Or.inl ⟨by rfl, ?_⟩) hHeld ?_ ?_
     rotate_left
     ·
      rintro w' ⟨s0, s1, s2, s3⟩
      go_simp
      with_reducible rfl
     rotate_left
     ·
      simp only [Act.put, List.setIfInBounds_toArray, List.set_cons_zero, List.set_cons_succ, i64_w, i32_w]
      rfl
     refine take_ (i := 2) (N := some 56) (v := ?_) (a' := ?_) #[true, true, true, false, false] rfl rfl (by kernel_rfl) (fun _ _ _ h => h) (Or.inl ⟨by rfl, ?_⟩) hHeld ?_ ?_
     rotate_left
     ·
      rintro w' ⟨s0, s1, s2, s3⟩
      go_simp
      with_reducible rfl
     rotate_left
     ·
      simp only [Act.put, List.setIfInBounds_toArray, List.set_cons_zero, List.set_cons_succ, i64_w, i32_w]
      rfl
     refine one_ (i := 3) (N := none) #[true, true, true, true, false] rfl rfl (by kernel_rfl) (by decide) (fun K hK => ?_)
     have hs69 : w68.cell? ⟨gb102, 0, none⟩ = some (.int .u64 0) := (zq5 BK102.out 0).trans rfl
     have hfs69 := zq4 BK102.out 0
     have hns69_0 := NB101_102.out
     have hns69_2 := NB103_102.out
     have hns69_3 := NB104_102.out
     have hms69_0 := NB102_101.out
     have hms69_2 := NB102_103.out
     have hms69_3 := NB102_104.out
     have hs70 : w68.cell? ⟨gb102, 1, none⟩ = some (.int .u64 0) := (zq5 BK102.out 1).trans rfl
     have hfs70 := zq4 BK102.out 1
     have hns70_0 := NB101_102.out
     have hns70_2 := NB103_102.out
     have hns70_3 := NB104_102.out
     have hms70_0 := NB102_101.out
     have hms70_2 := NB102_103.out
     have hms70_3 := NB102_104.out
     refine skip_ (w1 := ?_) (by rfl) rfl ?_ ?_
     rotate_left
     ·
      go_simp
      rfl
     refine hK.out _ _ ⟨((cell_far (p := ⟨gb102, _, none⟩) NB103_102.out _).trans (((cell_far (p := ⟨gb102, _, none⟩) NB103_102.out _).trans (hHeld.1)))), ((cell_far (p := ⟨gb102, _, none⟩) NB103_102.out _).trans (((cell_far (p := ⟨gb102, _, none⟩) NB103_102.out _).trans (hHeld.2.1)))), ((cell_far (p := ⟨gb102, _, none⟩) NB104_102.out _).trans (((cell_far (p := ⟨gb102, _, none⟩) NB104_102.out _).trans (hHeld.2.2.1)))), ((cell_far (p := ⟨gb102, _, none⟩) NB104_102.out _).trans (((cell_far (p := ⟨gb102, _, none⟩) NB104_102.out _).trans (hHeld.2.2.2))))⟩ (fun hHeld => ?_)
     clear hK K
     refine pure_ (i := 4) (N := some 5) (v := ?_) (a' := ?_) #[true, true, true, true, true] rfl rfl (by kernel_rfl) (fun _ _ _ h => h) (Or.inl ⟨by rfl, ?_⟩) ?_ ?_
     rotate_left
     ·
      intro w'
      go_simp
      with_reducible rfl
     rotate_left
     ·
      simp only [Act.put, List.setIfInBounds_toArray, List.set_cons_zero, List.set_cons_succ, i64_w, i32_w]
      rfl
     refine done_ (by kernel_rfl) ?_
     try go_wp2
     refine bodyPost_ret (results_ct rfl _ _ gb102 42 #[.int .u64 (IntKind.u64.wrap (Int.tdiv a0_0 a1)), .int .u64 x104001_1] (0, 0) _ rfl (zw2 BK102) Try.underlying42 rfl (by kernel_rfl)) rfl ?_
     exact ⟨by first | rfl | (simp [errW_none, errW_some] <;> rfl) | (simp [*, errW_none, errW_some] <;> rfl), zh HB⟩

end Go.Proofs.Ytiaoaoebghnpkaa.P
end
