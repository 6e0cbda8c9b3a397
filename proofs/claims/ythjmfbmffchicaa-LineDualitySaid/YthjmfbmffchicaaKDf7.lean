/- Walks of functions that the law LineDuality reaches: each theorem '.calls' says that the call comes to what its printed plain function says, under the conditions that stand in it. -/
import Derived.Test.YthjmfbmffchicaaKDHub
import Derived.Test.YthjmfbmffchicaaKDf0
import Derived.Test.YthjmfbmffchicaaKDf3
import Derived.Test.YthjmfbmffchicaaKDf4
namespace Go.Proofs.Ythjmfbmffchicaa.V
open Go.RowKit Go.Proofs.YthjmfbmffchicaaW.PrintWords Go.Proofs.YthjmfbmffchicaaW.PrintLast Go.Proofs.YthjmfbmffchicaaW.PrintMore
attribute [local go_sem] max2_int min2_int max_two min_two max_three min_three max_four min_four
set_option linter.unusedVariables false
set_option linter.unusedSimpArgs false
def line_Multiply.f (k : Nat) (l0 : List (List Int)) (l1 : List (List Int)) : Option ((List (List Int)) × Int) := (line_of.f k l0).bind fun bt987 => ((line_of.f k l1).bind fun bt991 => (if bt987.2 = true then (if bt991.2 = true then (if (l0.length : Int) = (l1.length : Int) then ((lgtimes.f k bt987.1 bt991.1).bind fun t995 => (some (t995, 0))) else (some (([] : List (List Int)), 2))) else (some (([] : List (List Int)), 2))) else (some (([] : List (List Int)), 2))))
def line_steps.f (a0 : Int) : Option (Bool) := if a0 ≥ 0 then (some (decide (a0 ≤ 1048576))) else (some false)
def line_Power.f (k : Nat) (l0 : List (List Int)) (a1 : Int) : Option ((List (List Int)) × Int) := (line_of.f k l0).bind fun bt707 => (if bt707.2 = true then ((line_steps.f a1).bind fun t711 => (if t711 = true then ((lgpower.f k bt707.1 a1).bind fun t712 => (some (t712, 0))) else (some (([] : List (List Int)), 2)))) else (some (([] : List (List Int)), 2)))
def line_Run_1.f (a0 : Int) : Option (Bool) := if a0 = (-1152921504606846976) then (some false) else (if a0 < (-1125899906842624) then (some true) else (some (decide (a0 > 562949953421312))))
def sifRun_1.l0 : Nat → List Int → Int → Int → Option (Int)
 | 0, _, _, _ => none
 | k + 1, x0, x7, x8 => if x8 < x7 then (if 0 ≤ x8 then (if x8 < (x0.length : Int) then ((line_Run_1.f (rd x0 x8)).bind fun t765 => (if t765 = true then (some x8) else (sifRun_1.l0 k x0 x7 (wrap64 (x8 + 1))))) else (none)) else (none)) else (some (-1))
def sifRun_1.f (k : Nat) (l0 : List Int) (a1 : Int) : Option (Int) := sifRun_1.l0 k l0 (l0.length : Int) 0
def scfRun_1.f (k : Nat) (l0 : List Int) (a1 : Int) : Option (Bool) := (sifRun_1.f k l0 a1).bind fun t766 => (some (decide (t766 ≥ 0)))
def line_Run_2.f (a0 : Int) : Option (Bool) := if a0 = (-1152921504606846976) then (some false) else (if a0 < (-1125899906842624) then (some true) else (some (decide (a0 > 1125899906842624))))
def sifRun_2.l0 : Nat → List Int → Int → Int → Option (Int)
 | 0, _, _, _ => none
 | k + 1, x0, x7, x8 => if x8 < x7 then (if 0 ≤ x8 then (if x8 < (x0.length : Int) then ((line_Run_2.f (rd x0 x8)).bind fun t768 => (if t768 = true then (some x8) else (sifRun_2.l0 k x0 x7 (wrap64 (x8 + 1))))) else (none)) else (none)) else (some (-1))
def sifRun_2.f (k : Nat) (l0 : List Int) (a1 : Int) : Option (Int) := sifRun_2.l0 k l0 (l0.length : Int) 0
def scfRun_2.f (k : Nat) (l0 : List Int) (a1 : Int) : Option (Bool) := (sifRun_2.f k l0 a1).bind fun t769 => (some (decide (t769 ≥ 0)))
def line_Run.j0 : Nat → List Int → Int → List (List Int) → Bool → Option (List Int × Int)
 | 0, _, _, _, _ => none
 | k + 1, x1, x2, x8, x33 => if x33 = true then (some (([] : List Int), 2)) else ((lgpower.f k x8 x2).bind fun t776 => ((lgon.f k t776 x1).bind fun t779 => ((scfRun_2.f k t779 0).bind fun t782 => (if t782 = true then (some (([] : List Int), 4)) else (some (t779, 0))))))
def line_Run.f (k : Nat) (l0 : List (List Int)) (l1 : List Int) (a2 : Int) : Option (List Int × Int) := (line_of.f k l0).bind fun bt770 => (if bt770.2 = true then ((line_steps.f a2).bind fun t774 => (if t774 = true then (if (l1.length : Int) = (l0.length : Int) then ((scfRun_1.f k l1 0).bind fun t775 => (line_Run.j0 k l1 a2 bt770.1 t775)) else (line_Run.j0 k l1 a2 bt770.1 true)) else (line_Run.j0 k l1 a2 bt770.1 true))) else (line_Run.j0 k l1 a2 bt770.1 true))
def l5rows.l0 : Nat → List (List Int) → List (List Int) → Int → Option (Bool)
 | 0, _, _, _ => none
 | k + 1, x0, x1, x5 => if x5 < (x0.length : Int) then (if 0 ≤ x5 then (if x5 < (x1.length : Int) then ((l5same.f k (rd_L1 x0 x5) (rd_L1 x1 x5)).bind fun t624 => (if t624 = true then (l5rows.l0 k x0 x1 (wrap64 (x5 + 1))) else (some false))) else (none)) else (none)) else (some true)
def l5rows.f (k : Nat) (l0 : List (List Int)) (l1 : List (List Int)) : Option (Bool) := if (l0.length : Int) = (l1.length : Int) then (l5rows.l0 k l0 l1 0) else (some false)
def l5square.l0 : Nat → List (List Int) → Int → Int → Option (Bool)
 | 0, _, _, _ => none
 | k + 1, x0, x1, x5 => if x5 < (x0.length : Int) then (if 0 ≤ x5 then (if ((rd_L1 x0 x5).length : Int) = x1 then (l5square.l0 k x0 x1 (wrap64 (x5 + 1))) else (some false)) else (none)) else (some ((x0.length : Int) == x1))
def l5square.f (k : Nat) (l0 : List (List Int)) (a1 : Int) : Option (Bool) := l5square.l0 k l0 a1 0
mutual
def l5product.l0 : Nat → List (List Int) → List (List Int) → List (List Int) → Int → Option ((List (List Int)))
 | 0, _, _, _, _ => none
 | k + 1, x0, x1, x5, x6 => if x6 < (x0.length : Int) then (l5product.l1 k x0 x1 x5 x6 ([] : List Int) 0) else (some x5)
def l5product.l1 : Nat → List (List Int) → List (List Int) → List (List Int) → Int → List Int → Int → Option ((List (List Int)))
 | 0, _, _, _, _, _, _ => none
 | k + 1, x0, x1, x5, x6, x7, x8 => if x8 < (x0.length : Int) then (l5product.l2 k x0 x1 x5 x6 x7 x8 (-1152921504606846976) 0) else (if x5.length < 5864062014805 then (l5product.l0 k x0 x1 (x5 ++ [x7]) (wrap64 (x6 + 1))) else (none))
def l5product.l2 : Nat → List (List Int) → List (List Int) → List (List Int) → Int → List Int → Int → Int → Int → Option ((List (List Int)))
 | 0, _, _, _, _, _, _, _, _ => none
 | k + 1, x0, x1, x5, x6, x7, x8, x9, x10 => if x10 < (x0.length : Int) then (if 0 ≤ x6 then (if x6 < (x0.length : Int) then (if 0 ≤ x10 then (if x10 < ((rd_L1 x0 x6).length : Int) then (if x10 < (x1.length : Int) then (if 0 ≤ x8 then (if x8 < ((rd_L1 x1 x10).length : Int) then ((l5plus.f (rd (rd_L1 x0 x6) x10) (rd (rd_L1 x1 x10) x8)).bind fun t671 => (l5product.l2 k x0 x1 x5 x6 x7 x8 (mx x9 t671) (wrap64 (x10 + 1)))) else (none)) else (none)) else (none)) else (none)) else (none)) else (none)) else (none)) else (if x7.length < 17592186044416 then (l5product.l1 k x0 x1 x5 x6 (x7 ++ [x9]) (wrap64 (x8 + 1))) else (none))
end
def l5product.f (k : Nat) (l0 : List (List Int)) (l1 : List (List Int)) : Option ((List (List Int))) := l5product.l0 k l0 l1 ([] : List (List Int)) 0
mutual
def r5Matrix.j0 : Nat → List (List Int) → Int → Bool → Option (Bool)
 | 0, _, _, _ => none
 | k + 1, x0, x3, x13 => if x13 = true then (some false) else (r5Matrix.l0 k x0 x3 0)
def r5Matrix.l0 : Nat → List (List Int) → Int → Int → Option (Bool)
 | 0, _, _, _ => none
 | k + 1, x0, x3, x4 => if x4 < x3 then (if 0 ≤ x4 then (if x4 < (x0.length : Int) then (if ((rd_L1 x0 x4).length : Int) = x3 then (r5Matrix.l1 k x0 x3 x4 0) else (some false)) else (none)) else (none)) else (some true)
def r5Matrix.l1 : Nat → List (List Int) → Int → Int → Int → Option (Bool)
 | 0, _, _, _, _ => none
 | k + 1, x0, x3, x4, x5 => if x5 < x3 then (if 0 ≤ x4 then (if x4 < (x0.length : Int) then (if 0 ≤ x5 then (if x5 < ((rd_L1 x0 x4).length : Int) then (if (rd (rd_L1 x0 x4) x5) = (-1152921504606846976) then (r5Matrix.l1 k x0 x3 x4 (wrap64 (x5 + 1))) else (if (rd (rd_L1 x0 x4) x5) < (-1000) then (some false) else (if (rd (rd_L1 x0 x4) x5) > 1000 then (some false) else (r5Matrix.l1 k x0 x3 x4 (wrap64 (x5 + 1)))))) else (none)) else (none)) else (none)) else (none)) else (r5Matrix.l0 k x0 x3 (wrap64 (x4 + 1)))
end
def r5Matrix.f (k : Nat) (l0 : List (List Int)) : Option (Bool) := if (l0.length : Int) < 1 then (r5Matrix.j0 k l0 (l0.length : Int) true) else (r5Matrix.j0 k l0 (l0.length : Int) (decide ((l0.length : Int) > 6)))
def r5has.l0 : Nat → List Int → Int → Int → Option (Bool)
 | 0, _, _, _ => none
 | k + 1, x0, x1, x5 => if x5 < (x0.length : Int) then (if 0 ≤ x5 then (if (rd x0 x5) = x1 then (some true) else (r5has.l0 k x0 x1 (wrap64 (x5 + 1)))) else (none)) else (some false)
def r5has.f (k : Nat) (l0 : List Int) (a1 : Int) : Option (Bool) := r5has.l0 k l0 a1 0
mutual
def r5cyclesFrom.l0 : Nat → List (List Int) → List Int → List (List Int) → Int → Int → Option ((List (List Int)))
 | 0, _, _, _, _, _ => none
 | k + 1, x0, x1, x5, x6, x7 => if x7 < (x0.length : Int) then (if 0 ≤ x7 then (if 0 ≤ x6 then (if x6 < ((rd_L1 x0 x7).length : Int) then (if (rd (rd_L1 x0 x7) x6) = (-1152921504606846976) then (r5cyclesFrom.l0 k x0 x1 x5 x6 (wrap64 (x7 + 1))) else (if ([] : List Int).length + x1.length < 17592186044416 then ((some (([] : List Int) ++ x1 : List Int)).bind fun y443 => (if 0 < (x1.length : Int) then (if x7 = (rd x1 0) then (if x5.length < 5864062014805 then (r5cyclesFrom.l0 k x0 x1 (x5 ++ [y443]) x6 (wrap64 (x7 + 1))) else (none)) else ((r5has.f k x1 x7).bind fun t450 => (if t450 = true then (r5cyclesFrom.l0 k x0 x1 x5 x6 (wrap64 (x7 + 1))) else (if y443.length < 17592186044416 then ((r5cyclesFrom.f k x0 (y443 ++ [x7])).bind fun t454 => (if x5.length + t454.length < 5864062014805 then (r5cyclesFrom.l0 k x0 x1 (x5 ++ t454) x6 (wrap64 (x7 + 1))) else (none))) else (none))))) else (none))) else (none))) else (none)) else (none)) else (none)) else (some x5)
def r5cyclesFrom.f : Nat → List (List Int) → List Int → Option ((List (List Int)))
 | 0, _, _ => none
 | k + 1, l0, l1 => if 0 ≤ (wrap64 ((l1.length : Int) - 1)) then (if (wrap64 ((l1.length : Int) - 1)) < (l1.length : Int) then (if 0 < (l1.length : Int) then (r5cyclesFrom.l0 k l0 l1 ([] : List (List Int)) (rd l1 (wrap64 ((l1.length : Int) - 1))) (rd l1 0)) else (none)) else (none)) else (none)
end
def r5Cycles.l0 : Nat → List (List Int) → List (List Int) → Int → Option ((List (List Int)))
 | 0, _, _, _ => none
 | k + 1, x0, x3, x4 => if x4 < (x0.length : Int) then ((r5cyclesFrom.f k x0 (([x4] : List Int))).bind fun t463 => (if x3.length + t463.length < 5864062014805 then (r5Cycles.l0 k x0 (x3 ++ t463) (wrap64 (x4 + 1))) else (none))) else (some x3)
def r5Cycles.f (k : Nat) (l0 : List (List Int)) : Option ((List (List Int))) := r5Cycles.l0 k l0 ([] : List (List Int)) 0
end Go.Proofs.Ythjmfbmffchicaa.V
