/- Walks of functions that the law LineRepeats reaches: each theorem '.calls' says that the call comes to what its printed plain function says, under the conditions that stand in it. -/
import Derived.Test.YthjmfbmffchicaaProg
import Derived.Below
import Derived.Deep.Draws
import Derived.Deep.AppendLies
import Derived.Maps.AppendAt
import Derived.OwnWalk
import Derived.Laws.BytesArg
import Derived.Laws.MakeOwn
import Derived.Laws.OwnMore
import Derived.Deep.OwnRows
import Derived.Tactics
import Derived.Lib.ConvBytes
import Derived.Laws.Slices
import Derived.WalkKit
import Derived.KernelRfl
import Derived.RowKit3
import Derived.Deep.LoopGhost
import Derived.Deep.QuietTactic
import Derived.BigQuiet
import Derived.WideLaws
import Derived.Deep.DeepCutAuto
import Derived.Deep.CutBlock
import Derived.Deep.RegionHeld3
import Derived.Laws.Rows
import Derived.Lib.AppendStr
import Derived.ArgAppend
import Derived.Laws.IdiomCopy
import Derived.OrdersHeld
import Derived.Laws.BitsLemmas
import Derived.RowKit
import Derived.Test.YthjmfbmffchicaaKRAid
import Derived.Test.YthjmfbmffchicaaKRWWords
import Derived.Test.YthjmfbmffchicaaKRWLast
import Derived.Test.YthjmfbmffchicaaKRWTab
import Derived.Test.YthjmfbmffchicaaKRWFour
import Derived.Test.YthjmfbmffchicaaKRWQPut
import Derived.Test.YthjmfbmffchicaaKRWApart
import Derived.Test.YthjmfbmffchicaaKRWArr
import Derived.Test.YthjmfbmffchicaaKRWZeros
import Derived.Test.YthjmfbmffchicaaKRWFoot
import Derived.Test.YthjmfbmffchicaaKRWKept
import Derived.Test.YthjmfbmffchicaaKRWShare
import Derived.Test.YthjmfbmffchicaaKRWN
import Derived.Test.YthjmfbmffchicaaKRWFootNe
import Derived.Test.YthjmfbmffchicaaKRWAt
import Derived.Test.YthjmfbmffchicaaKRWEqStruct
import Derived.Test.YthjmfbmffchicaaKRWRepsOne
import Derived.Test.YthjmfbmffchicaaKRWInv
import Derived.Test.YthjmfbmffchicaaKRWInvWords
import Derived.Test.YthjmfbmffchicaaKRWGuard
import Derived.Test.YthjmfbmffchicaaKRWNEv
import Derived.Test.YthjmfbmffchicaaKRWMore
import Derived.Test.YthjmfbmffchicaaKRf0
import Derived.Test.YthjmfbmffchicaaKRf4
import Derived.Test.YthjmfbmffchicaaKRf5
namespace Go.Proofs.Ythjmfbmffchicaa.V
open Go.RowKit Go.Proofs.YthjmfbmffchicaaW.PrintWords Go.Proofs.YthjmfbmffchicaaW.PrintLast Go.Proofs.YthjmfbmffchicaaW.PrintMore
attribute [local go_sem] max2_int min2_int max_two min_two max_three min_three max_four min_four
set_option linter.unusedVariables false
set_option linter.unusedSimpArgs false
mutual
def lgon.l0 : Nat → List (List Int) → List Int → List Int → Int → Int → Option (List Int)
 | 0, _, _, _, _, _ => none
 | k + 1, x0, x1, x5, x13, x14 => if x14 < x13 then ((line_never_int.f).bind fun t758 => (lgon.l1 k x0 x1 x5 x14 t758 x13 x14 (x0.length : Int) 0)) else (some x5)
def lgon.l1 : Nat → List (List Int) → List Int → List Int → Int → Int → Int → Int → Int → Int → Option (List Int)
 | 0, _, _, _, _, _, _, _, _, _ => none
 | k + 1, x0, x1, x5, x6, x7, x13, x14, x19, x20 => if x20 < x19 then (if 0 ≤ x6 then (if x6 < (x0.length : Int) then (if 0 ≤ x20 then (if x20 < ((rd_L1 x0 x6).length : Int) then (if x20 < (x1.length : Int) then ((line_both_int.f (rd (rd_L1 x0 x6) x20) (rd x1 x20)).bind fun t762 => (lgon.l1 k x0 x1 x5 x6 (mx x7 t762) x13 x14 x19 (wrap64 (x20 + 1)))) else (none)) else (none)) else (none)) else (none)) else (none)) else (if 0 ≤ x6 then (if x6 < (x5.length : Int) then (lgon.l0 k x0 x1 (x5.set (x6 : Int).toNat x7) x13 (wrap64 (x14 + 1))) else (none)) else (none))
end
mutual
def l5within.l0 : Nat → List (List Int) → Int → Option (Bool)
 | 0, _, _ => none
 | k + 1, x0, x3 => if x3 < (x0.length : Int) then (l5within.l1 k x0 x3 0) else (some true)
def l5within.l1 : Nat → List (List Int) → Int → Int → Option (Bool)
 | 0, _, _, _ => none
 | k + 1, x0, x3, x4 => if 0 ≤ x3 then (if x3 < (x0.length : Int) then (if x4 < ((rd_L1 x0 x3).length : Int) then (if 0 ≤ x4 then (if (rd (rd_L1 x0 x3) x4) = (-1152921504606846976) then (l5within.l1 k x0 x3 (wrap64 (x4 + 1))) else (if (rd (rd_L1 x0 x3) x4) < (-1000) then (some false) else (if (rd (rd_L1 x0 x3) x4) > 1000 then (some false) else (l5within.l1 k x0 x3 (wrap64 (x4 + 1)))))) else (none)) else (l5within.l0 k x0 (wrap64 (x3 + 1)))) else (none)) else (none)
end
mutual
def l5product.l0 : Nat → List (List Int) → List (List Int) → List (List Int) → Int → Option ((List (List Int)))
 | 0, _, _, _, _ => none
 | k + 1, x0, x1, x5, x6 => if x6 < (x0.length : Int) then (l5product.l1 k x0 x1 x5 x6 ([] : List Int) 0) else (some x5)
def l5product.l1 : Nat → List (List Int) → List (List Int) → List (List Int) → Int → List Int → Int → Option ((List (List Int)))
 | 0, _, _, _, _, _, _ => none
 | k + 1, x0, x1, x5, x6, x7, x8 => if x8 < (x0.length : Int) then (l5product.l2 k x0 x1 x5 x6 x7 x8 (-1152921504606846976) 0) else (if x5.length < 5864062014805 then (l5product.l0 k x0 x1 (x5 ++ [x7]) (wrap64 (x6 + 1))) else (none))
def l5product.l2 : Nat → List (List Int) → List (List Int) → List (List Int) → Int → List Int → Int → Int → Int → Option ((List (List Int)))
 | 0, _, _, _, _, _, _, _, _ => none
 | k + 1, x0, x1, x5, x6, x7, x8, x9, x10 => if x10 < (x0.length : Int) then (if 0 ≤ x6 then (if x6 < (x0.length : Int) then (if 0 ≤ x10 then (if x10 < ((rd_L1 x0 x6).length : Int) then (if x10 < (x1.length : Int) then (if 0 ≤ x8 then (if x8 < ((rd_L1 x1 x10).length : Int) then ((l5plus.f (rd (rd_L1 x0 x6) x10) (rd (rd_L1 x1 x10) x8)).bind fun t671 => (l5product.l2 k x0 x1 x5 x6 x7 x8 (mx x9 t671) (wrap64 (x10 + 1)))) else (none)) else (none)) else (none)) else (none)) else (none)) else (none)) else (none)) else (if x7.length < 17592186044416 then (l5product.l1 k x0 x1 x5 x6 (x7 ++ [x9]) (wrap64 (x8 + 1))) else (none))
end
end Go.Proofs.Ythjmfbmffchicaa.V
