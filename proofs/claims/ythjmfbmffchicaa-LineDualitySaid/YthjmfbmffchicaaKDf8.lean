/- Walks of functions that the law LineDuality reaches: each theorem '.calls' says that the call comes to what its printed plain function says, under the conditions that stand in it. -/
import Derived.Test.YthjmfbmffchicaaKDHub
import Derived.Test.YthjmfbmffchicaaKDf0
import Derived.Test.YthjmfbmffchicaaKDf7
namespace Go.Proofs.Ythjmfbmffchicaa.V
open Go.RowKit Go.Proofs.YthjmfbmffchicaaW.PrintWords Go.Proofs.YthjmfbmffchicaaW.PrintLast Go.Proofs.YthjmfbmffchicaaW.PrintMore
attribute [local go_sem] max2_int min2_int max_two min_two max_three min_three max_four min_four
set_option linter.unusedVariables false
set_option linter.unusedSimpArgs false
def r5weight.l0 : Nat → List (List Int) → List Int → Int → Int → Option (Int)
 | 0, _, _, _, _ => none
 | k + 1, x0, x1, x5, x6 => if x6 < (x1.length : Int) then (if (x1.length : Int) = 0 then (none) else (if 0 ≤ (Int.tmod (wrap64 (x6 + 1)) (x1.length : Int)) then (if (Int.tmod (wrap64 (x6 + 1)) (x1.length : Int)) < (x1.length : Int) then (if 0 ≤ (rd x1 (Int.tmod (wrap64 (x6 + 1)) (x1.length : Int))) then (if (rd x1 (Int.tmod (wrap64 (x6 + 1)) (x1.length : Int))) < (x0.length : Int) then (if 0 ≤ x6 then (if 0 ≤ (rd x1 x6) then (if (rd x1 x6) < ((rd_L1 x0 (rd x1 (Int.tmod (wrap64 (x6 + 1)) (x1.length : Int)))).length : Int) then (r5weight.l0 k x0 x1 (wrap64 (x5 + (rd (rd_L1 x0 (rd x1 (Int.tmod (wrap64 (x6 + 1)) (x1.length : Int)))) (rd x1 x6)))) (wrap64 (x6 + 1))) else (none)) else (none)) else (none)) else (none)) else (none)) else (none)) else (none))) else (some x5)
def r5weight.f (k : Nat) (l0 : List (List Int)) (l1 : List Int) : Option (Int) := r5weight.l0 k l0 l1 0 0
mutual
def r5less.l0 : Nat → List Int → List Int → Int → Option (Bool)
 | 0, _, _, _ => none
 | k + 1, x0, x1, x5 => if x5 < (x0.length : Int) then (r5less.j1 k x0 x1 x5 (decide (x5 < (x1.length : Int)))) else (r5less.j1 k x0 x1 x5 false)
def r5less.j1 : Nat → List Int → List Int → Int → Bool → Option (Bool)
 | 0, _, _, _, _ => none
 | k + 1, x0, x1, x5, x15 => if x15 = true then (if 0 ≤ x5 then (if x5 < (x0.length : Int) then (if x5 < (x1.length : Int) then (if (rd x0 x5) = (rd x1 x5) then (r5less.l0 k x0 x1 (wrap64 (x5 + 1))) else (some (decide ((rd x0 x5) < (rd x1 x5))))) else (none)) else (none)) else (none)) else (some (decide ((x0.length : Int) < (x1.length : Int))))
end
def r5less.f (k : Nat) (l0 : List Int) (l1 : List Int) : Option (Bool) := r5less.l0 k l0 l1 0
def r5best.l0 : Nat → List (List Int) → List Int → List (List Int) → Int → Option (List Int)
 | 0, _, _, _, _ => none
 | k + 1, x0, x3, x4, x5 => if x5 < (x4.length : Int) then (if 0 ≤ x5 then (if (x3.length : Int) = 0 then (r5best.l0 k x0 (rd_L1 x4 x5) x4 (wrap64 (x5 + 1))) else ((r5weight.f k x0 (rd_L1 x4 x5)).bind fun t477 => ((r5weight.f k x0 x3).bind fun t478 => (if (wrap64 (t477 * (x3.length : Int))) > (wrap64 (t478 * ((rd_L1 x4 x5).length : Int))) then (r5best.l0 k x0 (rd_L1 x4 x5) x4 (wrap64 (x5 + 1))) else (if (wrap64 (t477 * (x3.length : Int))) = (wrap64 (t478 * ((rd_L1 x4 x5).length : Int))) then (if ((rd_L1 x4 x5).length : Int) < (x3.length : Int) then (r5best.l0 k x0 (rd_L1 x4 x5) x4 (wrap64 (x5 + 1))) else (if ((rd_L1 x4 x5).length : Int) = (x3.length : Int) then ((r5less.f k (rd_L1 x4 x5) x3).bind fun t479 => (if t479 = true then (r5best.l0 k x0 (rd_L1 x4 x5) x4 (wrap64 (x5 + 1))) else (r5best.l0 k x0 x3 x4 (wrap64 (x5 + 1))))) else (r5best.l0 k x0 x3 x4 (wrap64 (x5 + 1))))) else (r5best.l0 k x0 x3 x4 (wrap64 (x5 + 1)))))))) else (none)) else (some x3)
def r5best.f (k : Nat) (l0 : List (List Int)) : Option (List Int) := (r5Cycles.f k l0).bind fun t473 => (r5best.l0 k l0 ([] : List Int) t473 0)
def r5gcd.l0 : Nat → Int → Int → Option (Int)
 | 0, _, _ => none
 | k + 1, x0, x1 => if x1 = 0 then (some (mx x0 (wrap64 (-x0)))) else (r5gcd.l0 k x1 (Int.tmod x0 x1))
def r5gcd.f (k : Nat) (a0 : Int) (a1 : Int) : Option (Int) := r5gcd.l0 k a0 a1
def r5pace.f (k : Nat) (l0 : List (List Int)) (l1 : List Int) : Option (Int × Int) := (r5weight.f k l0 l1).bind fun t481 => ((r5gcd.f k t481 (l1.length : Int)).bind fun t482 => (if t482 = 0 then (none) else (some (wrap64 (Int.tdiv t481 t482), wrap64 ((l1.length : Int) / t482)))))
def r5Speed.f (k : Nat) (l0 : List (List Int)) : Option (Int × Int × Int) := (r5Matrix.f k l0).bind fun t484 => (if t484 = true then ((r5best.f k l0).bind fun t485 => (if (t485.length : Int) = 0 then (some (0, 0, 10)) else ((r5pace.f k l0 t485).bind fun bt488 => (some (bt488.1, bt488.2, 0))))) else (some (0, 0, 2)))
mutual
def r5One.l0 : Nat → Int → List (List Int) → Int → Option ((List (List Int)))
 | 0, _, _, _ => none
 | k + 1, x0, x3, x4 => if x4 < x0 then (if 0 ≤ x0 then (if (x0 : Int).toNat ≤ 35184372088832 then (r5One.l1 k x0 x3 x4 (List.replicate (x0 : Int).toNat 0) 0) else (none)) else (none)) else (some x3)
def r5One.l1 : Nat → Int → List (List Int) → Int → List Int → Int → Option ((List (List Int)))
 | 0, _, _, _, _, _ => none
 | k + 1, x0, x3, x4, x5, x6 => if x6 < x0 then (if x4 = x6 then (r5One.l1 k x0 x3 x4 x5 (wrap64 (x6 + 1))) else (if 0 ≤ x6 then (if x6 < (x5.length : Int) then (r5One.l1 k x0 x3 x4 (x5.set (x6 : Int).toNat (-1152921504606846976)) (wrap64 (x6 + 1))) else (none)) else (none))) else (if x3.length < 5864062014805 then (r5One.l0 k x0 (x3 ++ [x5]) (wrap64 (x4 + 1))) else (none))
end
def r5One.f (k : Nat) (a0 : Int) : Option ((List (List Int))) := r5One.l0 k a0 ([] : List (List Int)) 0
def r5plus.f (a0 : Int) (a1 : Int) : Option (Int) := if a0 = (-1152921504606846976) then (some (-1152921504606846976)) else (if a1 = (-1152921504606846976) then (some (-1152921504606846976)) else (some (wrap64 (a0 + a1))))
mutual
def r5Product.l0 : Nat → List (List Int) → List (List Int) → List (List Int) → Int → Option ((List (List Int)))
 | 0, _, _, _, _ => none
 | k + 1, x0, x1, x5, x6 => if x6 < (x0.length : Int) then (r5Product.l1 k x0 x1 x5 x6 ([] : List Int) 0) else (some x5)
def r5Product.l1 : Nat → List (List Int) → List (List Int) → List (List Int) → Int → List Int → Int → Option ((List (List Int)))
 | 0, _, _, _, _, _, _ => none
 | k + 1, x0, x1, x5, x6, x7, x8 => if x8 < (x0.length : Int) then (r5Product.l2 k x0 x1 x5 x6 x7 x8 (-1152921504606846976) 0) else (if x5.length < 5864062014805 then (r5Product.l0 k x0 x1 (x5 ++ [x7]) (wrap64 (x6 + 1))) else (none))
def r5Product.l2 : Nat → List (List Int) → List (List Int) → List (List Int) → Int → List Int → Int → Int → Int → Option ((List (List Int)))
 | 0, _, _, _, _, _, _, _, _ => none
 | k + 1, x0, x1, x5, x6, x7, x8, x9, x10 => if x10 < (x0.length : Int) then (if 0 ≤ x6 then (if x6 < (x0.length : Int) then (if 0 ≤ x10 then (if x10 < ((rd_L1 x0 x6).length : Int) then (if x10 < (x1.length : Int) then (if 0 ≤ x8 then (if x8 < ((rd_L1 x1 x10).length : Int) then ((r5plus.f (rd (rd_L1 x0 x6) x10) (rd (rd_L1 x1 x10) x8)).bind fun t504 => (r5Product.l2 k x0 x1 x5 x6 x7 x8 (mx x9 t504) (wrap64 (x10 + 1)))) else (none)) else (none)) else (none)) else (none)) else (none)) else (none)) else (none)) else (if x7.length < 17592186044416 then (r5Product.l1 k x0 x1 x5 x6 (x7 ++ [x9]) (wrap64 (x8 + 1))) else (none))
end
def r5Product.f (k : Nat) (l0 : List (List Int)) (l1 : List (List Int)) : Option ((List (List Int))) := r5Product.l0 k l0 l1 ([] : List (List Int)) 0
mutual
def r5walks.l0 : Nat → List (List Int) → List (List Int) → List (List Int) → Int → Option ((List (List Int)))
 | 0, _, _, _, _ => none
 | k + 1, x0, x3, x4, x5 => if x5 < (x0.length : Int) then ((r5Product.f k x0 x4).bind fun t521 => (r5walks.l1 k x0 x3 t521 x5 0)) else (some x3)
def r5walks.l1 : Nat → List (List Int) → List (List Int) → List (List Int) → Int → Int → Option ((List (List Int)))
 | 0, _, _, _, _, _ => none
 | k + 1, x0, x3, x4, x5, x6 => if x6 < (x0.length : Int) then (r5walks.l2 k x0 x3 x4 x5 x6 0) else (r5walks.l0 k x0 x3 x4 (wrap64 (x5 + 1)))
def r5walks.l2 : Nat → List (List Int) → List (List Int) → List (List Int) → Int → Int → Int → Option ((List (List Int)))
 | 0, _, _, _, _, _, _ => none
 | k + 1, x0, x3, x4, x5, x6, x7 => if x7 < (x0.length : Int) then (if 0 ≤ x6 then (if x6 < (x3.length : Int) then (if 0 ≤ x7 then (if x7 < ((rd_L1 x3 x6).length : Int) then (if x6 < (x4.length : Int) then (if x7 < ((rd_L1 x4 x6).length : Int) then (r5walks.l2 k x0 (x3.set (x6 : Int).toNat ((rd_L1 x3 x6).set (x7 : Int).toNat (mx (rd (rd_L1 x3 x6) x7) (rd (rd_L1 x4 x6) x7)))) x4 x5 x6 (wrap64 (x7 + 1))) else (none)) else (none)) else (none)) else (none)) else (none)) else (none)) else (r5walks.l1 k x0 x3 x4 x5 (wrap64 (x6 + 1)))
end
def r5walks.f (k : Nat) (l0 : List (List Int)) : Option ((List (List Int))) := (r5One.f k (l0.length : Int)).bind fun t515 => ((r5One.f k (l0.length : Int)).bind fun t518 => (r5walks.l0 k l0 t515 t518 1))
end Go.Proofs.Ythjmfbmffchicaa.V
