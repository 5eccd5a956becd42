/- Part of the proof. -/
import Derived.Test.YtiaoaoebghnpkaaMT18
import Derived.Test.YtiaoaoebghnpkaaMT19
import Derived.Test.YtiaoaoebghnpkaaMT28
import Derived.Test.YtiaoaoebghnpkaaMT39
import Derived.Test.YtiaoaoebghnpkaaMT43
import Derived.Test.YtiaoaoebghnpkaaMT31
import Derived.Test.YtiaoaoebghnpkaaMT38
namespace Go.Proofs.Ytiaoaoebghnpkaa.P
open Go.RowKit Go.Proofs.YtiaoaoebghnpkaaW.PrintWords Go.Proofs.YtiaoaoebghnpkaaW.PrintLast Go.Proofs.YtiaoaoebghnpkaaW.PrintMore
attribute [local go_sem] max2_int min2_int max_two min_two max_three min_three max_four min_four   -- for this text's walks alone
set_option linter.unusedVariables false
set_option linter.unusedSimpArgs false

/-! ### oTrue: function 8 -/
mutual
def oTrue.j0 : Nat → List Int → Bool → Int → Bool → Int → Int → Int → Int → Int → Int → Int → Bool → Option (Bool)
 | 0, _, _, _, _, _, _, _, _, _, _, _, _ => none
 | k + 1, x2, x32, x102000, x102001, x102002, x102003, x102004, x102005, x103000, x103001, x103002, x103003 => if x32 = true then ((weighbridgelaw30_live.f k).bind fun t104 => (some t104)) else (oTrue.l0 k x2 ([] : List Int) 0 x102000 x102001 x102002 x102003 x102004 x102005 x103000 x103001 x103002 x103003)
def oTrue.l0 : Nat → List Int → List Int → Int → Int → Bool → Int → Int → Int → Int → Int → Int → Int → Bool → Option (Bool)
 | 0, _, _, _, _, _, _, _, _, _, _, _, _, _ => none
 | k + 1, x2, x7, x8, x102000, x102001, x102002, x102003, x102004, x102005, x103000, x103001, x103002, x103003 => if x8 < (x2.length : Int) then (if 0 ≤ x8 then (if x7.length < 17592186044416 then (oTrue.l0 k x2 (x7 ++ [wrap64 (rd x2 x8)]) (wrap64 (x8 + 1)) x102000 x102001 x102002 x102003 x102004 x102005 x103000 x103001 x103002 x103003) else (none)) else (none)) else (oTrue.l1 k x7 0 x102000 x102001 x102002 x102003 x102004 x102005 x103000 x103001 x103002 x103003)
def oTrue.l1 : Nat → List Int → Int → Int → Bool → Int → Int → Int → Int → Int → Int → Int → Bool → Option (Bool)
 | 0, _, _, _, _, _, _, _, _, _, _, _, _ => none
 | k + 1, x7, x9, x102000, x102001, x102002, x102003, x102004, x102005, x103000, x103001, x103002, x103003 => if x9 ≤ 2 then (oTrue.j3 k x7 x9 (decide ((x7.length : Int) > 0)) x102000 x102001 x102002 x102003 x102004 x102005 x103000 x103001 x103002 x103003) else (oTrue.j3 k x7 x9 false x102000 x102001 x102002 x102003 x102004 x102005 x103000 x103001 x103002 x103003)
def oTrue.j3 : Nat → List Int → Int → Bool → Int → Bool → Int → Int → Int → Int → Int → Int → Int → Bool → Option (Bool)
 | 0, _, _, _, _, _, _, _, _, _, _, _, _, _ => none
 | k + 1, x7, x9, x54, x102000, x102001, x102002, x102003, x102004, x102005, x103000, x103001, x103002, x103003 => if x54 = true then (if 0 < (x7.length : Int) then ((outlook_When.f k x102000 x102001 x102002 x102003 x102004 x102005 x103000 x103001 x103002 x103003 (rd x7 0) x9).bind fun bt110 => (if bt110.2 = true then ((meter_Step.f x102000 x102001 x102002 x102003 x102004 x102005 x103000 x103001 x103002 x103003 bt110.1 (rd x7 0) 0).bind fun bt120 => (if bt120.2.2.2.2 > x9 then (none) else (if x103003 = true then (if bt110.1 < x103002 then (none) else (oTrue.j4 k x7 x9 bt110.1 false x102000 x102001 x102002 x102003 x102004 x102005 x103000 x103001 x103002 x103003)) else (oTrue.j4 k x7 x9 bt110.1 (decide (bt110.1 > 0)) x102000 x102001 x102002 x102003 x102004 x102005 x103000 x103001 x103002 x103003)))) else ((meter_Step.f x102000 x102001 x102002 x102003 x102004 x102005 x103000 x103001 x103002 x103003 9223372036854775808 (rd x7 0) 0).bind fun bt113 => (if bt113.2.2.2.2 ≤ x9 then (none) else (oTrue.l1 k x7 (wrap64 (x9 + 1)) x102000 x102001 x102002 x102003 x102004 x102005 x103000 x103001 x103002 x103003))))) else (none)) else ((outlook_Pace.f k x102000 x102001 x102002 x102003 x102004 x102005 x7 0).bind fun bt133 => (if (!(bt133.2.1 == 0) || (!(bt133.2.2 == 0))) = true then ((weighbridgelaw30_live.f k).bind fun t139 => (if t139 = true then (if bt133.2.1 = 8 then (some ((bt133.1.length : Int) == 0)) else (none)) else (none))) else (oTrue.l2 k x7 bt133.1 ([] : List (S68)) 0 x102000 x102001 x102002 x102003 x102004 x102005)))
def oTrue.j4 : Nat → List Int → Int → Int → Bool → Int → Bool → Int → Int → Int → Int → Int → Int → Int → Bool → Option (Bool)
 | 0, _, _, _, _, _, _, _, _, _, _, _, _, _, _ => none
 | k + 1, x7, x9, x10, x112, x102000, x102001, x102002, x102003, x102004, x102005, x103000, x103001, x103002, x103003 => if x112 = true then (none) else (if x10 > 0 then (oTrue.j5 k x7 x9 x10 (decide (x10 > x103002)) x102000 x102001 x102002 x102003 x102004 x102005 x103000 x103001 x103002 x103003) else (oTrue.j5 k x7 x9 x10 false x102000 x102001 x102002 x102003 x102004 x102005 x103000 x103001 x103002 x103003))
def oTrue.j5 : Nat → List Int → Int → Int → Bool → Int → Bool → Int → Int → Int → Int → Int → Int → Int → Bool → Option (Bool)
 | 0, _, _, _, _, _, _, _, _, _, _, _, _, _, _ => none
 | k + 1, x7, x9, x10, x120, x102000, x102001, x102002, x102003, x102004, x102005, x103000, x103001, x103002, x103003 => if x120 = true then (if 0 < (x7.length : Int) then ((meter_Step.f x102000 x102001 x102002 x102003 x102004 x102005 x103000 x103001 x103002 x103003 (IntKind.u64.wrap (x10 - 1)) (rd x7 0) 0).bind fun bt127 => (if bt127.2.2.2.2 ≤ x9 then (none) else (oTrue.l1 k x7 (wrap64 (x9 + 1)) x102000 x102001 x102002 x102003 x102004 x102005 x103000 x103001 x103002 x103003))) else (none)) else (oTrue.l1 k x7 (wrap64 (x9 + 1)) x102000 x102001 x102002 x102003 x102004 x102005 x103000 x103001 x103002 x103003)
def oTrue.j7 : Nat → List Int → List Int → List (S68) → Int → Bool → Int → Int → Int → Int → Option (Bool)
 | 0, _, _, _, _, _, _, _, _, _ => none
 | k + 1, x7, x18, x20, x102000, x102001, x102002, x102003, x102004, x102005 => (meter_Run.f x102000 x102001 x102002 x102003 x102004 x102005 x20 ([] : List Int)).bind fun bt145 => (oTrue.l3 k x7 x18 bt145.1 0)
def oTrue.l3 : Nat → List Int → List Int → List Int → Int → Option (Bool)
 | 0, _, _, _, _ => none
 | k + 1, x7, x18, x22, x24 => if x24 < (x22.length : Int) then (if 0 ≤ x24 then (if (rd x22 x24) = 0 then (if x24 > 0 then (if x24 < (x18.length : Int) then (if 0 ≤ (wrap64 (x24 - 1)) then (if (wrap64 (x24 - 1)) < (x18.length : Int) then (if (rd x18 x24) < (rd x18 (wrap64 (x24 - 1))) then (none) else (oTrue.l3 k x7 x18 x22 (wrap64 (x24 + 1)))) else (none)) else (none)) else (none)) else (oTrue.l3 k x7 x18 x22 (wrap64 (x24 + 1)))) else (none)) else (none)) else ((weighbridgelaw30_live.f k).bind fun t156 => (if t156 = true then (if (x18.length : Int) = (x7.length : Int) then (some ((x22.length : Int) == (x7.length : Int))) else (none)) else (none)))
def oTrue.l2 : Nat → List Int → List Int → List (S68) → Int → Int → Bool → Int → Int → Int → Int → Option (Bool)
 | 0, _, _, _, _, _, _, _, _, _, _ => none
 | k + 1, x7, x18, x20, x21, x102000, x102001, x102002, x102003, x102004, x102005 => if x21 < (x18.length : Int) then (if x21 < (x7.length : Int) then (if 0 ≤ x21 then (if x20.length < 8796093022208 then (oTrue.l2 k x7 x18 (x20 ++ [(⟨rd x18 x21, rd x7 x21⟩ : S68)]) (wrap64 (x21 + 1)) x102000 x102001 x102002 x102003 x102004 x102005) else (none)) else (none)) else (oTrue.j7 k x7 x18 x20 x102000 x102001 x102002 x102003 x102004 x102005)) else (oTrue.j7 k x7 x18 x20 x102000 x102001 x102002 x102003 x102004 x102005)
end
def oTrue.f (k : Nat) (a0_0 : Int) (a0_1 : Bool) (a0_2 : Int) (a0_3 : Int) (a0_4 : Int) (a0_5 : Int) (a1_0 : Int) (a1_1 : Int) (a1_2 : Int) (a1_3 : Bool) (l2 : List Int) : Option (Bool) := (meter_Check.f a0_0 a0_1 a0_2 a0_3 a0_4 a0_5).bind fun t103 => (if t103 = 0 then (oTrue.j0 k l2 (decide ((l2.length : Int) > 30)) a0_0 a0_1 a0_2 a0_3 a0_4 a0_5 a1_0 a1_1 a1_2 a1_3) else (oTrue.j0 k l2 true a0_0 a0_1 a0_2 a0_3 a0_4 a0_5 a1_0 a1_1 a1_2 a1_3))
end Go.Proofs.Ytiaoaoebghnpkaa.P
