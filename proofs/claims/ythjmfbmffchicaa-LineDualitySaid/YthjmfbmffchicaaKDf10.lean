/- Walks of functions that the law LineDuality reaches: each theorem '.calls' says that the call comes to what its printed plain function says, under the conditions that stand in it. -/
import Derived.Test.YthjmfbmffchicaaKDHub
import Derived.Test.YthjmfbmffchicaaKDf0
import Derived.Test.YthjmfbmffchicaaKDf7
import Derived.Test.YthjmfbmffchicaaKDf8
import Derived.Test.YthjmfbmffchicaaKDf9
namespace Go.Proofs.Ythjmfbmffchicaa.V
open Go.RowKit Go.Proofs.YthjmfbmffchicaaW.PrintWords Go.Proofs.YthjmfbmffchicaaW.PrintLast Go.Proofs.YthjmfbmffchicaaW.PrintMore
attribute [local go_sem] max2_int min2_int max_two min_two max_three min_three max_four min_four
set_option linter.unusedVariables false
set_option linter.unusedSimpArgs false
def r5Star.f (k : Nat) (l0 : List (List Int)) : Option ((List (List Int)) × Int) := (r5Matrix.f k l0).bind fun t851 => (if t851 = true then ((r5best.f k l0).bind fun t852 => (if (t852.length : Int) = 0 then ((r5walks.f k l0).bind fun t855 => (some (t855, 0))) else ((r5weight.f k l0 t852).bind fun t858 => (if t858 > 0 then (some (([] : List (List Int)), 11)) else ((r5walks.f k l0).bind fun t859 => (some (t859, 0))))))) else (some (([] : List (List Int)), 2)))
def r5Connected.f (k : Nat) (l0 : List (List Int)) : Option (Bool × Int) := (r5Matrix.f k l0).bind fun t862 => (if t862 = true then ((r5connected.f k l0).bind fun t863 => (some (t863, 0))) else (some (false, 2)))
def r5Multiply.f (k : Nat) (l0 : List (List Int)) (l1 : List (List Int)) : Option ((List (List Int)) × Int) := (r5Matrix.f k l0).bind fun t998 => (if t998 = true then ((r5Matrix.f k l1).bind fun t999 => (if t999 = true then (if (l0.length : Int) = (l1.length : Int) then ((r5Product.f k l0 l1).bind fun t1000 => (some (t1000, 0))) else (some (([] : List (List Int)), 2))) else (some (([] : List (List Int)), 2)))) else (some (([] : List (List Int)), 2)))
def r5raised.f : Nat → List (List Int) → Int → Option ((List (List Int)))
 | 0, _, _ => none
 | k + 1, l0, a1 => if a1 = 0 then ((r5One.f k (l0.length : Int)).bind fun t1012 => (some t1012)) else ((r5raised.f k l0 (wrap64 (Int.tdiv a1 2))).bind fun t1015 => ((r5Product.f k t1015 t1015).bind fun t1018 => (if (Int.tmod a1 2) = 1 then ((r5Product.f k t1018 l0).bind fun t1021 => (some t1021)) else (some t1018))))
def r5Power.f (k : Nat) (l0 : List (List Int)) (a1 : Int) : Option ((List (List Int)) × Int) := (r5Matrix.f k l0).bind fun t1024 => (if t1024 = true then (if a1 < 0 then (some (([] : List (List Int)), 2)) else (if a1 > 1048576 then (some (([] : List (List Int)), 2)) else ((r5raised.f k l0 a1).bind fun t1025 => (some (t1025, 0))))) else (some (([] : List (List Int)), 2)))
mutual
def r5Run.j0 : Nat → List (List Int) → List Int → Int → Bool → Option (List Int × Int)
 | 0, _, _, _, _ => none
 | k + 1, x0, x1, x2, x32 => if x32 = true then (some (([] : List Int), 2)) else (r5Run.l0 k x0 x1 x2 0)
def r5Run.l0 : Nat → List (List Int) → List Int → Int → Int → Option (List Int × Int)
 | 0, _, _, _, _ => none
 | k + 1, x0, x1, x2, x8 => if x8 < (x1.length : Int) then (if 0 ≤ x8 then (if (rd x1 x8) = (-1152921504606846976) then (r5Run.l0 k x0 x1 x2 (wrap64 (x8 + 1))) else (if (rd x1 x8) < (-1125899906842624) then (some (([] : List Int), 2)) else (if (rd x1 x8) > 562949953421312 then (some (([] : List Int), 2)) else (r5Run.l0 k x0 x1 x2 (wrap64 (x8 + 1)))))) else (none)) else ((r5raised.f k x0 x2).bind fun t1032 => (r5Run.l1 k x1 t1032 ([] : List Int) 0))
def r5Run.l1 : Nat → List Int → List (List Int) → List Int → Int → Option (List Int × Int)
 | 0, _, _, _, _ => none
 | k + 1, x1, x9, x10, x11 => if x11 < (x1.length : Int) then (r5Run.l2 k x1 x9 x10 x11 (-1152921504606846976) 0) else (r5Run.l3 k x1 x10 0)
def r5Run.l2 : Nat → List Int → List (List Int) → List Int → Int → Int → Int → Option (List Int × Int)
 | 0, _, _, _, _, _, _ => none
 | k + 1, x1, x9, x10, x11, x12, x13 => if x13 < (x1.length : Int) then (if 0 ≤ x11 then (if x11 < (x9.length : Int) then (if 0 ≤ x13 then (if x13 < ((rd_L1 x9 x11).length : Int) then ((r5plus.f (rd (rd_L1 x9 x11) x13) (rd x1 x13)).bind fun t1038 => (r5Run.l2 k x1 x9 x10 x11 (mx x12 t1038) (wrap64 (x13 + 1)))) else (none)) else (none)) else (none)) else (none)) else (if x10.length < 17592186044416 then (r5Run.l1 k x1 x9 (x10 ++ [x12]) (wrap64 (x11 + 1))) else (none))
def r5Run.l3 : Nat → List Int → List Int → Int → Option (List Int × Int)
 | 0, _, _, _ => none
 | k + 1, x1, x10, x14 => if x14 < (x1.length : Int) then (if 0 ≤ x14 then (if x14 < (x10.length : Int) then (if (rd x10 x14) = (-1152921504606846976) then (r5Run.l3 k x1 x10 (wrap64 (x14 + 1))) else (if (rd x10 x14) < (-1125899906842624) then (some (([] : List Int), 4)) else (if (rd x10 x14) > 1125899906842624 then (some (([] : List Int), 4)) else (r5Run.l3 k x1 x10 (wrap64 (x14 + 1)))))) else (none)) else (none)) else (some (x10, 0))
end
def r5Run.f (k : Nat) (l0 : List (List Int)) (l1 : List Int) (a2 : Int) : Option (List Int × Int) := (r5Matrix.f k l0).bind fun t1028 => (if t1028 = true then (if a2 < 0 then (r5Run.j0 k l0 l1 a2 true) else (if a2 > 1048576 then (r5Run.j0 k l0 l1 a2 true) else (r5Run.j0 k l0 l1 a2 ((l1.length : Int) != (l0.length : Int))))) else (r5Run.j0 k l0 l1 a2 true))
def l5copied.l0 : Nat → List (List Int) → List (List Int) → Int → Option ((List (List Int)))
 | 0, _, _, _ => none
 | k + 1, x0, x3, x4 => if x4 < (x0.length : Int) then ((some (([] : List Int) : List Int)).bind fun y417 => (if 0 ≤ x4 then (if y417.length + (rd_L1 x0 x4).length < 17592186044416 then (if x3.length < 5864062014805 then (l5copied.l0 k x0 (x3 ++ [(y417 ++ (rd_L1 x0 x4))]) (wrap64 (x4 + 1))) else (none)) else (none)) else (none))) else (some x3)
def l5copied.f (k : Nat) (l0 : List (List Int)) : Option ((List (List Int))) := l5copied.l0 k l0 ([] : List (List Int)) 0
end Go.Proofs.Ythjmfbmffchicaa.V
