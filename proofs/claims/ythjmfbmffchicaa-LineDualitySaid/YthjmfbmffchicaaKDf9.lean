/- Walks of functions that the law LineDuality reaches: each theorem '.calls' says that the call comes to what its printed plain function says, under the conditions that stand in it. -/
import Derived.Test.YthjmfbmffchicaaKDHub
import Derived.Test.YthjmfbmffchicaaKDf0
import Derived.Test.YthjmfbmffchicaaKDf7
import Derived.Test.YthjmfbmffchicaaKDf8
namespace Go.Proofs.Ythjmfbmffchicaa.V
open Go.RowKit Go.Proofs.YthjmfbmffchicaaW.PrintWords Go.Proofs.YthjmfbmffchicaaW.PrintLast Go.Proofs.YthjmfbmffchicaaW.PrintMore
attribute [local go_sem] max2_int min2_int max_two min_two max_three min_three max_four min_four
set_option linter.unusedVariables false
set_option linter.unusedSimpArgs false
mutual
def r5scaled.l0 : Nat → List (List Int) → List (List Int) → Int → Int → Int → Option ((List (List Int)))
 | 0, _, _, _, _, _ => none
 | k + 1, x0, x5, x6, x524000, x524001 => if x6 < (x0.length : Int) then (r5scaled.l1 k x0 x5 x6 ([] : List Int) 0 x524000 x524001) else (some x5)
def r5scaled.l1 : Nat → List (List Int) → List (List Int) → Int → List Int → Int → Int → Int → Option ((List (List Int)))
 | 0, _, _, _, _, _, _, _ => none
 | k + 1, x0, x5, x6, x7, x8, x524000, x524001 => if x8 < (x0.length : Int) then (if 0 ≤ x6 then (if x6 < (x0.length : Int) then (if 0 ≤ x8 then (if x8 < ((rd_L1 x0 x6).length : Int) then (if (rd (rd_L1 x0 x6) x8) = (-1152921504606846976) then (if x7.length < 17592186044416 then (r5scaled.l1 k x0 x5 x6 (x7 ++ [(-1152921504606846976)]) (wrap64 (x8 + 1)) x524000 x524001) else (none)) else (if x7.length < 17592186044416 then (r5scaled.l1 k x0 x5 x6 (x7 ++ [wrap64 ((wrap64 (x524001 * (rd (rd_L1 x0 x6) x8))) - x524000)]) (wrap64 (x8 + 1)) x524000 x524001) else (none))) else (none)) else (none)) else (none)) else (none)) else (if x5.length < 5864062014805 then (r5scaled.l0 k x0 (x5 ++ [x7]) (wrap64 (x6 + 1)) x524000 x524001) else (none))
end
def r5scaled.f (k : Nat) (l0 : List (List Int)) (a1_0 : Int) (a1_1 : Int) : Option ((List (List Int))) := r5scaled.l0 k l0 ([] : List (List Int)) 0 a1_0 a1_1
def r5connected.l0 : Nat → List (List Int) → Int → Option (Bool)
 | 0, _, _ => none
 | k + 1, x4, x5 => if x5 < (x4.length : Int) then (if 0 ≤ x5 then ((r5has.f k (rd_L1 x4 x5) (-1152921504606846976)).bind fun t544 => (if t544 = true then (some false) else (r5connected.l0 k x4 (wrap64 (x5 + 1))))) else (none)) else (some true)
def r5connected.f (k : Nat) (l0 : List (List Int)) : Option (Bool) := (r5scaled.f k l0 0 0).bind fun t537 => ((r5walks.f k t537).bind fun t540 => (r5connected.l0 k t540 0))
mutual
def r5critical.l0 : Nat → List (List Int) → List Bool → List (List Int) → Int → Int → Int → Option (List Int)
 | 0, _, _, _, _, _, _ => none
 | k + 1, x0, x5, x6, x7, x546000, x546001 => if x7 < (x6.length : Int) then (if 0 ≤ x7 then ((r5weight.f k x0 (rd_L1 x6 x7)).bind fun t553 => (if (wrap64 (t553 * x546001)) = (wrap64 (x546000 * ((rd_L1 x6 x7).length : Int))) then (r5critical.l1 k x0 x5 x6 x7 0 x546000 x546001) else (r5critical.l0 k x0 x5 x6 (wrap64 (x7 + 1)) x546000 x546001))) else (none)) else (r5critical.l2 k x5 ([] : List Int) 0)
def r5critical.l1 : Nat → List (List Int) → List Bool → List (List Int) → Int → Int → Int → Int → Option (List Int)
 | 0, _, _, _, _, _, _, _ => none
 | k + 1, x0, x5, x6, x7, x8, x546000, x546001 => if 0 ≤ x7 then (if x7 < (x6.length : Int) then (if x8 < ((rd_L1 x6 x7).length : Int) then (if 0 ≤ x8 then (if 0 ≤ (rd (rd_L1 x6 x7) x8) then (if (rd (rd_L1 x6 x7) x8) < (x5.length : Int) then (r5critical.l1 k x0 (x5.set ((rd (rd_L1 x6 x7) x8) : Int).toNat true) x6 x7 (wrap64 (x8 + 1)) x546000 x546001) else (none)) else (none)) else (none)) else (r5critical.l0 k x0 x5 x6 (wrap64 (x7 + 1)) x546000 x546001)) else (none)) else (none)
def r5critical.l2 : Nat → List Bool → List Int → Int → Option (List Int)
 | 0, _, _, _ => none
 | k + 1, x5, x9, x10 => if x10 < (x5.length : Int) then (if 0 ≤ x10 then (if rdOf false x5 x10 = true then (if x9.length < 17592186044416 then (r5critical.l2 k x5 (x9 ++ [x10]) (wrap64 (x10 + 1))) else (none)) else (r5critical.l2 k x5 x9 (wrap64 (x10 + 1)))) else (none)) else (some x9)
end
def r5critical.f (k : Nat) (l0 : List (List Int)) (a1_0 : Int) (a1_1 : Int) : Option (List Int) := if 0 ≤ (l0.length : Int) then (if ((l0.length : Int) : Int).toNat ≤ 281474976710656 then ((r5Cycles.f k l0).bind fun t549 => (r5critical.l0 k l0 (List.replicate ((l0.length : Int) : Int).toNat false) t549 0 a1_0 a1_1)) else (none)) else (none)
mutual
def r5Eigen.j0 : Nat → List (List Int) → Bool → Int → Int → Option (List Int × Int)
 | 0, _, _, _, _ => none
 | k + 1, x0, x26, x568000, x568001 => if x26 = true then (some (([] : List Int), 10)) else ((r5critical.f k x0 x568000 x568001).bind fun t569 => (if 0 < (t569.length : Int) then ((r5scaled.f k x0 x568000 x568001).bind fun t573 => ((r5walks.f k t573).bind fun t576 => (if 0 < (t576.length : Int) then (if 0 ≤ (rd t569 0) then (if (rd t569 0) < ((rd_L1 t576 0).length : Int) then (r5Eigen.l0 k x0 (rd t569 0) t576 (rd (rd_L1 t576 0) (rd t569 0)) 1) else (none)) else (none)) else (none)))) else (none)))
def r5Eigen.l0 : Nat → List (List Int) → Int → List (List Int) → Int → Int → Option (List Int × Int)
 | 0, _, _, _, _, _ => none
 | k + 1, x0, x6, x7, x8, x9 => if x9 < (x0.length : Int) then (if 0 ≤ x9 then (if x9 < (x7.length : Int) then (if 0 ≤ x6 then (if x6 < ((rd_L1 x7 x9).length : Int) then (r5Eigen.l0 k x0 x6 x7 (mn x8 (rd (rd_L1 x7 x9) x6)) (wrap64 (x9 + 1))) else (none)) else (none)) else (none)) else (none)) else (r5Eigen.l1 k x0 x6 x7 x8 ([] : List Int) 0)
def r5Eigen.l1 : Nat → List (List Int) → Int → List (List Int) → Int → List Int → Int → Option (List Int × Int)
 | 0, _, _, _, _, _, _ => none
 | k + 1, x0, x6, x7, x8, x10, x11 => if x11 < (x0.length : Int) then (if 0 ≤ x11 then (if x11 < (x7.length : Int) then (if 0 ≤ x6 then (if x6 < ((rd_L1 x7 x11).length : Int) then (if x10.length < 17592186044416 then (r5Eigen.l1 k x0 x6 x7 x8 (x10 ++ [wrap64 ((rd (rd_L1 x7 x11) x6) - x8)]) (wrap64 (x11 + 1))) else (none)) else (none)) else (none)) else (none)) else (none)) else (some (x10, 0))
end
def r5Eigen.f (k : Nat) (l0 : List (List Int)) : Option (List Int × Int) := (r5Matrix.f k l0).bind fun t563 => (if t563 = true then ((r5Speed.f k l0).bind fun bt564 => (if bt564.2.2 = 0 then ((r5connected.f k l0).bind fun t568 => (r5Eigen.j0 k l0 (!t568) bt564.1 bt564.2.1)) else (r5Eigen.j0 k l0 true bt564.1 bt564.2.1))) else (some (([] : List Int), 2)))
mutual
def r5Potential.l0 : Nat → List (List Int) → List (List Int) → List Int → Int → Option (List Int × Int)
 | 0, _, _, _, _ => none
 | k + 1, x0, x6, x7, x8 => if x8 < (x0.length : Int) then (r5Potential.l1 k x0 x6 x7 x8 0 0) else (some (x7, 0))
def r5Potential.l1 : Nat → List (List Int) → List (List Int) → List Int → Int → Int → Int → Option (List Int × Int)
 | 0, _, _, _, _, _, _ => none
 | k + 1, x0, x6, x7, x8, x9, x10 => if x10 < (x0.length : Int) then (if 0 ≤ x8 then (if x8 < (x6.length : Int) then (if 0 ≤ x10 then (if x10 < ((rd_L1 x6 x8).length : Int) then (r5Potential.l1 k x0 x6 x7 x8 (mx x9 (rd (rd_L1 x6 x8) x10)) (wrap64 (x10 + 1))) else (none)) else (none)) else (none)) else (none)) else (if x7.length < 17592186044416 then (r5Potential.l0 k x0 x6 (x7 ++ [x9]) (wrap64 (x8 + 1))) else (none))
end
def r5Potential.f (k : Nat) (l0 : List (List Int)) : Option (List Int × Int) := (r5Speed.f k l0).bind fun bt836 => (if bt836.2.2 = 0 then ((r5scaled.f k l0 bt836.1 bt836.2.1).bind fun t840 => ((r5walks.f k t840).bind fun t843 => (r5Potential.l0 k l0 t843 ([] : List Int) 0))) else (some (([] : List Int), bt836.2.2)))
end Go.Proofs.Ythjmfbmffchicaa.V
