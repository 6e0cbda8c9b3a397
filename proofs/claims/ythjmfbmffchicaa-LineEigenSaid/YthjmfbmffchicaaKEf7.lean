/- Walks of functions that the law LineEigen reaches: each theorem '.calls' says that the call comes to what its printed plain function says, under the conditions that stand in it. -/
import Derived.Test.YthjmfbmffchicaaProg
import Derived.Below
import Derived.Deep.Draws
import Derived.Deep.AppendLies
import Derived.Maps.AppendAt
import Derived.OwnWalk
import Derived.Laws.BytesArg
import Derived.Laws.MakeOwn
import Derived.Laws.OwnMore
import Derived.Deep.OwnRows
import Derived.Tactics
import Derived.Lib.ConvBytes
import Derived.Laws.Slices
import Derived.WalkKit
import Derived.KernelRfl
import Derived.RowKit3
import Derived.Deep.LoopGhost
import Derived.Deep.QuietTactic
import Derived.BigQuiet
import Derived.WideLaws
import Derived.Deep.DeepCutAuto
import Derived.Deep.CutBlock
import Derived.Deep.RegionHeld3
import Derived.Laws.Rows
import Derived.Lib.AppendStr
import Derived.ArgAppend
import Derived.Laws.IdiomCopy
import Derived.OrdersHeld
import Derived.Laws.BitsLemmas
import Derived.RowKit
import Derived.Test.YthjmfbmffchicaaKEAid
import Derived.Test.YthjmfbmffchicaaKEWWords
import Derived.Test.YthjmfbmffchicaaKEWLast
import Derived.Test.YthjmfbmffchicaaKEWTab
import Derived.Test.YthjmfbmffchicaaKEWFour
import Derived.Test.YthjmfbmffchicaaKEWQPut
import Derived.Test.YthjmfbmffchicaaKEWApart
import Derived.Test.YthjmfbmffchicaaKEWArr
import Derived.Test.YthjmfbmffchicaaKEWZeros
import Derived.Test.YthjmfbmffchicaaKEWFoot
import Derived.Test.YthjmfbmffchicaaKEWKept
import Derived.Test.YthjmfbmffchicaaKEWShare
import Derived.Test.YthjmfbmffchicaaKEWN
import Derived.Test.YthjmfbmffchicaaKEWFootNe
import Derived.Test.YthjmfbmffchicaaKEWAt
import Derived.Test.YthjmfbmffchicaaKEWEqStruct
import Derived.Test.YthjmfbmffchicaaKEWRepsOne
import Derived.Test.YthjmfbmffchicaaKEWInv
import Derived.Test.YthjmfbmffchicaaKEWInvWords
import Derived.Test.YthjmfbmffchicaaKEWGuard
import Derived.Test.YthjmfbmffchicaaKEWNEv
import Derived.Test.YthjmfbmffchicaaKEWMore
import Derived.Test.YthjmfbmffchicaaKEf0
import Derived.Test.YthjmfbmffchicaaKEf4
import Derived.Test.YthjmfbmffchicaaKEf5
import Derived.Test.YthjmfbmffchicaaKEf6
namespace Go.Proofs.Ythjmfbmffchicaa.V
open Go.RowKit Go.Proofs.YthjmfbmffchicaaW.PrintWords Go.Proofs.YthjmfbmffchicaaW.PrintLast Go.Proofs.YthjmfbmffchicaaW.PrintMore
attribute [local go_sem] max2_int min2_int max_two min_two max_three min_three max_four min_four
set_option linter.unusedVariables false
set_option linter.unusedSimpArgs false
mutual
def l5LineEigen.j0 : Nat → List (List Int) → List Int → Int → Bool → Option (Bool)
 | 0, _, _, _, _ => none
 | k + 1, x0, x1, x2, x32 => if x32 = true then ((l5alive.f k).bind fun t784 => (some t784)) else ((line_Eigen.f k x0).bind fun bt785 => ((line_Speed.f k x0).bind fun bt789 => (if bt785.2 = 0 then (if bt789.2.2 = 0 then (if (bt785.1.length : Int) = (x0.length : Int) then (l5LineEigen.j1 k x0 x1 x2 bt785.1 (x0.length : Int) (decide (bt789.2.1 < 1)) bt789.1 bt789.2.1) else (l5LineEigen.j1 k x0 x1 x2 bt785.1 (x0.length : Int) true bt789.1 bt789.2.1)) else (l5LineEigen.j1 k x0 x1 x2 bt785.1 (x0.length : Int) true bt789.1 bt789.2.1)) else (if (bt785.1.length : Int) = 0 then ((l5alive.f k).bind fun t793 => (some t793)) else (some false)))))
def l5LineEigen.j1 : Nat → List (List Int) → List Int → Int → List Int → Int → Bool → Int → Int → Option (Bool)
 | 0, _, _, _, _, _, _, _, _ => none
 | k + 1, x0, x1, x2, x7, x11, x66, x793000, x793001 => if x66 = true then (some false) else (if 0 < (x7.length : Int) then (l5LineEigen.l0 k x0 x1 x2 x7 x11 (rd x7 0) (rd x7 0) 0 x793000 x793001) else (none))
def l5LineEigen.l0 : Nat → List (List Int) → List Int → Int → List Int → Int → Int → Int → Int → Int → Int → Option (Bool)
 | 0, _, _, _, _, _, _, _, _, _, _ => none
 | k + 1, x0, x1, x2, x7, x11, x12, x13, x14, x793000, x793001 => if x14 < x11 then (l5LineEigen.l1 k x0 x1 x2 x7 x11 x12 x13 x14 (-1152921504606846976) 0 x793000 x793001) else (if x12 = 0 then (l5LineEigen.j4 k x0 x1 x2 x7 x11 x12 x13 ((x1.length : Int) != x11) x793000 x793001) else (l5LineEigen.j4 k x0 x1 x2 x7 x11 x12 x13 true x793000 x793001))
def l5LineEigen.l1 : Nat → List (List Int) → List Int → Int → List Int → Int → Int → Int → Int → Int → Int → Int → Int → Option (Bool)
 | 0, _, _, _, _, _, _, _, _, _, _, _, _ => none
 | k + 1, x0, x1, x2, x7, x11, x12, x13, x14, x15, x16, x793000, x793001 => if x16 < x11 then (if 0 ≤ x14 then (if x14 < (x0.length : Int) then (if 0 ≤ x16 then (if x16 < ((rd_L1 x0 x14).length : Int) then (if (rd (rd_L1 x0 x14) x16) = (-1152921504606846976) then (l5LineEigen.l1 k x0 x1 x2 x7 x11 x12 x13 x14 x15 (wrap64 (x16 + 1)) x793000 x793001) else (if x16 < (x7.length : Int) then (l5LineEigen.l1 k x0 x1 x2 x7 x11 x12 x13 x14 (mx x15 (wrap64 ((wrap64 (x793001 * (rd (rd_L1 x0 x14) x16))) + (rd x7 x16)))) (wrap64 (x16 + 1)) x793000 x793001) else (none))) else (none)) else (none)) else (none)) else (none)) else (if 0 ≤ x14 then (if x14 < (x7.length : Int) then (if x15 = (wrap64 (x793000 + (rd x7 x14))) then (l5LineEigen.l0 k x0 x1 x2 x7 x11 (mn x12 (rd x7 x14)) (mx x13 (rd x7 x14)) (wrap64 (x14 + 1)) x793000 x793001) else (some false)) else (none)) else (none))
def l5LineEigen.j4 : Nat → List (List Int) → List Int → Int → List Int → Int → Int → Int → Bool → Int → Int → Option (Bool)
 | 0, _, _, _, _, _, _, _, _, _, _ => none
 | k + 1, x0, x1, x2, x7, x11, x12, x13, x136, x793000, x793001 => if x136 = true then (if x12 = 0 then ((l5alive.f k).bind fun t804 => (some t804)) else (some false)) else (l5LineEigen.l2 k x0 x1 x2 x7 x11 x13 0 0 0 x793000 x793001)
def l5LineEigen.l2 : Nat → List (List Int) → List Int → Int → List Int → Int → Int → Int → Int → Int → Int → Int → Option (Bool)
 | 0, _, _, _, _, _, _, _, _, _, _, _ => none
 | k + 1, x0, x1, x2, x7, x11, x13, x17, x18, x19, x793000, x793001 => if x19 < x11 then (if 0 ≤ x19 then (if x19 < (x1.length : Int) then (if (rd x1 x19) < (-1000000) then (l5LineEigen.j6 k x0 x1 x2 x7 x11 x13 x17 x18 x19 true x793000 x793001) else (l5LineEigen.j6 k x0 x1 x2 x7 x11 x13 x17 x18 x19 (decide ((rd x1 x19) > 1000000)) x793000 x793001)) else (none)) else (none)) else ((line_Run.f k x0 x1 (wrap64 (Int.tmod x2 1000))).bind fun bt810 => (if bt810.2 = 0 then (l5LineEigen.j7 k x7 x11 x13 x17 x18 (wrap64 (Int.tmod x2 1000)) bt810.1 ((bt810.1.length : Int) != x11) x793000 x793001) else (l5LineEigen.j7 k x7 x11 x13 x17 x18 (wrap64 (Int.tmod x2 1000)) bt810.1 true x793000 x793001)))
def l5LineEigen.j6 : Nat → List (List Int) → List Int → Int → List Int → Int → Int → Int → Int → Int → Bool → Int → Int → Option (Bool)
 | 0, _, _, _, _, _, _, _, _, _, _, _, _ => none
 | k + 1, x0, x1, x2, x7, x11, x13, x17, x18, x19, x158, x793000, x793001 => if x158 = true then ((l5alive.f k).bind fun t807 => (some t807)) else (if 0 ≤ x19 then (if x19 < (x1.length : Int) then (if x19 < (x7.length : Int) then (if x19 = 0 then (l5LineEigen.l2 k x0 x1 x2 x7 x11 x13 (mn (wrap64 ((wrap64 (x793001 * (rd x1 x19))) - (rd x7 x19))) (wrap64 ((wrap64 (x793001 * (rd x1 x19))) - (rd x7 x19)))) (mx (wrap64 ((wrap64 (x793001 * (rd x1 x19))) - (rd x7 x19))) (wrap64 ((wrap64 (x793001 * (rd x1 x19))) - (rd x7 x19)))) (wrap64 (x19 + 1)) x793000 x793001) else (l5LineEigen.l2 k x0 x1 x2 x7 x11 x13 (mn x17 (wrap64 ((wrap64 (x793001 * (rd x1 x19))) - (rd x7 x19)))) (mx x18 (wrap64 ((wrap64 (x793001 * (rd x1 x19))) - (rd x7 x19)))) (wrap64 (x19 + 1)) x793000 x793001)) else (none)) else (none)) else (none))
def l5LineEigen.j7 : Nat → List Int → Int → Int → Int → Int → Int → List Int → Bool → Int → Int → Option (Bool)
 | 0, _, _, _, _, _, _, _, _, _, _ => none
 | k + 1, x7, x11, x13, x17, x18, x21, x22, x199, x793000, x793001 => if x199 = true then (some false) else (l5LineEigen.l3 k x7 x11 x13 x17 x18 x21 x22 0 x793000 x793001)
def l5LineEigen.l3 : Nat → List Int → Int → Int → Int → Int → Int → List Int → Int → Int → Int → Option (Bool)
 | 0, _, _, _, _, _, _, _, _, _, _ => none
 | k + 1, x7, x11, x13, x17, x18, x21, x22, x23, x793000, x793001 => if x23 < x11 then (if 0 ≤ x23 then (if x23 < (x22.length : Int) then (if x23 < (x7.length : Int) then (if (wrap64 ((wrap64 ((wrap64 (x793001 * (rd x22 x23))) - (wrap64 (x21 * x793000)))) - (rd x7 x23))) < x17 then (some false) else (if (wrap64 ((wrap64 ((wrap64 (x793001 * (rd x22 x23))) - (wrap64 (x21 * x793000)))) - (rd x7 x23))) > x18 then (some false) else (l5LineEigen.l3 k x7 x11 x13 x17 x18 x21 x22 (wrap64 (x23 + 1)) x793000 x793001))) else (none)) else (none)) else (none)) else ((l5alive.f k).bind fun t816 => (some t816))
end
def l5LineEigen.f (k : Nat) (l0 : List (List Int)) (l1 : List Int) (a2 : Int) : Option (Bool) := (l5few.f k l0).bind fun t783 => (if t783 = true then (l5LineEigen.j0 k l0 l1 a2 (decide ((l1.length : Int) > 20))) else (l5LineEigen.j0 k l0 l1 a2 true))
theorem l5LineEigen.mono_l : ∀ k, (∀ y0 y1 y2 y3, LeO (l5LineEigen.j0 k y0 y1 y2 y3) (l5LineEigen.j0 (k + 1) y0 y1 y2 y3)) ∧ (∀ y0 y1 y2 y3 y4 y5 y6 y7, LeO (l5LineEigen.j1 k y0 y1 y2 y3 y4 y5 y6 y7) (l5LineEigen.j1 (k + 1) y0 y1 y2 y3 y4 y5 y6 y7)) ∧ (∀ y0 y1 y2 y3 y4 y5 y6 y7 y8 y9, LeO (l5LineEigen.l0 k y0 y1 y2 y3 y4 y5 y6 y7 y8 y9) (l5LineEigen.l0 (k + 1) y0 y1 y2 y3 y4 y5 y6 y7 y8 y9)) ∧ (∀ y0 y1 y2 y3 y4 y5 y6 y7 y8 y9 y10 y11, LeO (l5LineEigen.l1 k y0 y1 y2 y3 y4 y5 y6 y7 y8 y9 y10 y11) (l5LineEigen.l1 (k + 1) y0 y1 y2 y3 y4 y5 y6 y7 y8 y9 y10 y11)) ∧ (∀ y0 y1 y2 y3 y4 y5 y6 y7 y8 y9, LeO (l5LineEigen.j4 k y0 y1 y2 y3 y4 y5 y6 y7 y8 y9) (l5LineEigen.j4 (k + 1) y0 y1 y2 y3 y4 y5 y6 y7 y8 y9)) ∧ (∀ y0 y1 y2 y3 y4 y5 y6 y7 y8 y9 y10, LeO (l5LineEigen.l2 k y0 y1 y2 y3 y4 y5 y6 y7 y8 y9 y10) (l5LineEigen.l2 (k + 1) y0 y1 y2 y3 y4 y5 y6 y7 y8 y9 y10)) ∧ (∀ y0 y1 y2 y3 y4 y5 y6 y7 y8 y9 y10 y11, LeO (l5LineEigen.j6 k y0 y1 y2 y3 y4 y5 y6 y7 y8 y9 y10 y11) (l5LineEigen.j6 (k + 1) y0 y1 y2 y3 y4 y5 y6 y7 y8 y9 y10 y11)) ∧ (∀ y0 y1 y2 y3 y4 y5 y6 y7 y8 y9, LeO (l5LineEigen.j7 k y0 y1 y2 y3 y4 y5 y6 y7 y8 y9) (l5LineEigen.j7 (k + 1) y0 y1 y2 y3 y4 y5 y6 y7 y8 y9)) ∧ (∀ y0 y1 y2 y3 y4 y5 y6 y7 y8 y9, LeO (l5LineEigen.l3 k y0 y1 y2 y3 y4 y5 y6 y7 y8 y9) (l5LineEigen.l3 (k + 1) y0 y1 y2 y3 y4 y5 y6 y7 y8 y9))
 | 0 => ⟨fun _ _ _ _ r h => by simp [l5LineEigen.j0] at h, fun _ _ _ _ _ _ _ _ r h => by simp [l5LineEigen.j1] at h, fun _ _ _ _ _ _ _ _ _ _ r h => by simp [l5LineEigen.l0] at h, fun _ _ _ _ _ _ _ _ _ _ _ _ r h => by simp [l5LineEigen.l1] at h, fun _ _ _ _ _ _ _ _ _ _ r h => by simp [l5LineEigen.j4] at h, fun _ _ _ _ _ _ _ _ _ _ _ r h => by simp [l5LineEigen.l2] at h, fun _ _ _ _ _ _ _ _ _ _ _ _ r h => by simp [l5LineEigen.j6] at h, fun _ _ _ _ _ _ _ _ _ _ r h => by simp [l5LineEigen.j7] at h, fun _ _ _ _ _ _ _ _ _ _ r h => by simp [l5LineEigen.l3] at h⟩
 | k + 1 => by
  obtain ⟨ih0, ih1, ih2, ih3, ih4, ih5, ih6, ih7, ih8⟩ := l5LineEigen.mono_l k
  refine ⟨?_, ?_, ?_, ?_, ?_, ?_, ?_, ?_, ?_⟩
  ·
   intro y0 y1 y2 y3
   unfold l5LineEigen.j0
   repeat' first
   | (with_reducible exact LeO.refl _)
   | (with_reducible exact LeO.none _)
   | (with_reducible refine LeO.ite ?_ ?_)
   | (with_reducible refine LeO.bind ?_ (fun _ => ?_))
   | exact ih0 _ _ _ _
   | exact ih1 _ _ _ _ _ _ _ _
   | exact ih2 _ _ _ _ _ _ _ _ _ _
   | exact ih3 _ _ _ _ _ _ _ _ _ _ _ _
   | exact ih4 _ _ _ _ _ _ _ _ _ _
   | exact ih5 _ _ _ _ _ _ _ _ _ _ _
   | exact ih6 _ _ _ _ _ _ _ _ _ _ _ _
   | exact ih7 _ _ _ _ _ _ _ _ _ _
   | exact ih8 _ _ _ _ _ _ _ _ _ _
   | exact line_Eigen.mono _ _
   | exact line_Run.mono _ _ _ _
   | exact line_Speed.mono _ _
   | exact l5alive.mono _
   | exact l5few.mono _ _
   | exact LeO.none _
   | refine LeO.ite ?_ ?_
   | refine LeO.bind ?_ (fun _ => ?_)
  ·
   intro y0 y1 y2 y3 y4 y5 y6 y7
   unfold l5LineEigen.j1
   repeat' first
   | (with_reducible exact LeO.refl _)
   | (with_reducible exact LeO.none _)
   | (with_reducible refine LeO.ite ?_ ?_)
   | (with_reducible refine LeO.bind ?_ (fun _ => ?_))
   | exact ih0 _ _ _ _
   | exact ih1 _ _ _ _ _ _ _ _
   | exact ih2 _ _ _ _ _ _ _ _ _ _
   | exact ih3 _ _ _ _ _ _ _ _ _ _ _ _
   | exact ih4 _ _ _ _ _ _ _ _ _ _
   | exact ih5 _ _ _ _ _ _ _ _ _ _ _
   | exact ih6 _ _ _ _ _ _ _ _ _ _ _ _
   | exact ih7 _ _ _ _ _ _ _ _ _ _
   | exact ih8 _ _ _ _ _ _ _ _ _ _
   | exact line_Eigen.mono _ _
   | exact line_Run.mono _ _ _ _
   | exact line_Speed.mono _ _
   | exact l5alive.mono _
   | exact l5few.mono _ _
   | exact LeO.none _
   | refine LeO.ite ?_ ?_
   | refine LeO.bind ?_ (fun _ => ?_)
  ·
   intro y0 y1 y2 y3 y4 y5 y6 y7 y8 y9
   unfold l5LineEigen.l0
   repeat' first
   | (with_reducible exact LeO.refl _)
   | (with_reducible exact LeO.none _)
   | (with_reducible refine LeO.ite ?_ ?_)
   | (with_reducible refine LeO.bind ?_ (fun _ => ?_))
   | exact ih0 _ _ _ _
   | exact ih1 _ _ _ _ _ _ _ _
   | exact ih2 _ _ _ _ _ _ _ _ _ _
   | exact ih3 _ _ _ _ _ _ _ _ _ _ _ _
   | exact ih4 _ _ _ _ _ _ _ _ _ _
   | exact ih5 _ _ _ _ _ _ _ _ _ _ _
   | exact ih6 _ _ _ _ _ _ _ _ _ _ _ _
   | exact ih7 _ _ _ _ _ _ _ _ _ _
   | exact ih8 _ _ _ _ _ _ _ _ _ _
   | exact line_Eigen.mono _ _
   | exact line_Run.mono _ _ _ _
   | exact line_Speed.mono _ _
   | exact l5alive.mono _
   | exact l5few.mono _ _
   | exact LeO.none _
   | refine LeO.ite ?_ ?_
   | refine LeO.bind ?_ (fun _ => ?_)
  ·
   intro y0 y1 y2 y3 y4 y5 y6 y7 y8 y9 y10 y11
   unfold l5LineEigen.l1
   repeat' first
   | (with_reducible exact LeO.refl _)
   | (with_reducible exact LeO.none _)
   | (with_reducible refine LeO.ite ?_ ?_)
   | (with_reducible refine LeO.bind ?_ (fun _ => ?_))
   | exact ih0 _ _ _ _
   | exact ih1 _ _ _ _ _ _ _ _
   | exact ih2 _ _ _ _ _ _ _ _ _ _
   | exact ih3 _ _ _ _ _ _ _ _ _ _ _ _
   | exact ih4 _ _ _ _ _ _ _ _ _ _
   | exact ih5 _ _ _ _ _ _ _ _ _ _ _
   | exact ih6 _ _ _ _ _ _ _ _ _ _ _ _
   | exact ih7 _ _ _ _ _ _ _ _ _ _
   | exact ih8 _ _ _ _ _ _ _ _ _ _
   | exact line_Eigen.mono _ _
   | exact line_Run.mono _ _ _ _
   | exact line_Speed.mono _ _
   | exact l5alive.mono _
   | exact l5few.mono _ _
   | exact LeO.none _
   | refine LeO.ite ?_ ?_
   | refine LeO.bind ?_ (fun _ => ?_)
  ·
   intro y0 y1 y2 y3 y4 y5 y6 y7 y8 y9
   unfold l5LineEigen.j4
   repeat' first
   | (with_reducible exact LeO.refl _)
   | (with_reducible exact LeO.none _)
   | (with_reducible refine LeO.ite ?_ ?_)
   | (with_reducible refine LeO.bind ?_ (fun _ => ?_))
   | exact ih0 _ _ _ _
   | exact ih1 _ _ _ _ _ _ _ _
   | exact ih2 _ _ _ _ _ _ _ _ _ _
   | exact ih3 _ _ _ _ _ _ _ _ _ _ _ _
   | exact ih4 _ _ _ _ _ _ _ _ _ _
   | exact ih5 _ _ _ _ _ _ _ _ _ _ _
   | exact ih6 _ _ _ _ _ _ _ _ _ _ _ _
   | exact ih7 _ _ _ _ _ _ _ _ _ _
   | exact ih8 _ _ _ _ _ _ _ _ _ _
   | exact line_Eigen.mono _ _
   | exact line_Run.mono _ _ _ _
   | exact line_Speed.mono _ _
   | exact l5alive.mono _
   | exact l5few.mono _ _
   | exact LeO.none _
   | refine LeO.ite ?_ ?_
   | refine LeO.bind ?_ (fun _ => ?_)
  ·
   intro y0 y1 y2 y3 y4 y5 y6 y7 y8 y9 y10
   unfold l5LineEigen.l2
   repeat' first
   | (with_reducible exact LeO.refl _)
   | (with_reducible exact LeO.none _)
   | (with_reducible refine LeO.ite ?_ ?_)
   | (with_reducible refine LeO.bind ?_ (fun _ => ?_))
   | exact ih0 _ _ _ _
   | exact ih1 _ _ _ _ _ _ _ _
   | exact ih2 _ _ _ _ _ _ _ _ _ _
   | exact ih3 _ _ _ _ _ _ _ _ _ _ _ _
   | exact ih4 _ _ _ _ _ _ _ _ _ _
   | exact ih5 _ _ _ _ _ _ _ _ _ _ _
   | exact ih6 _ _ _ _ _ _ _ _ _ _ _ _
   | exact ih7 _ _ _ _ _ _ _ _ _ _
   | exact ih8 _ _ _ _ _ _ _ _ _ _
   | exact line_Eigen.mono _ _
   | exact line_Run.mono _ _ _ _
   | exact line_Speed.mono _ _
   | exact l5alive.mono _
   | exact l5few.mono _ _
   | exact LeO.none _
   | refine LeO.ite ?_ ?_
   | refine LeO.bind ?_ (fun _ => ?_)
  ·
   intro y0 y1 y2 y3 y4 y5 y6 y7 y8 y9 y10 y11
   unfold l5LineEigen.j6
   repeat' first
   | (with_reducible exact LeO.refl _)
   | (with_reducible exact LeO.none _)
   | (with_reducible refine LeO.ite ?_ ?_)
   | (with_reducible refine LeO.bind ?_ (fun _ => ?_))
   | exact ih0 _ _ _ _
   | exact ih1 _ _ _ _ _ _ _ _
   | exact ih2 _ _ _ _ _ _ _ _ _ _
   | exact ih3 _ _ _ _ _ _ _ _ _ _ _ _
   | exact ih4 _ _ _ _ _ _ _ _ _ _
   | exact ih5 _ _ _ _ _ _ _ _ _ _ _
   | exact ih6 _ _ _ _ _ _ _ _ _ _ _ _
   | exact ih7 _ _ _ _ _ _ _ _ _ _
   | exact ih8 _ _ _ _ _ _ _ _ _ _
   | exact line_Eigen.mono _ _
   | exact line_Run.mono _ _ _ _
   | exact line_Speed.mono _ _
   | exact l5alive.mono _
   | exact l5few.mono _ _
   | exact LeO.none _
   | refine LeO.ite ?_ ?_
   | refine LeO.bind ?_ (fun _ => ?_)
  ·
   intro y0 y1 y2 y3 y4 y5 y6 y7 y8 y9
   unfold l5LineEigen.j7
   repeat' first
   | (with_reducible exact LeO.refl _)
   | (with_reducible exact LeO.none _)
   | (with_reducible refine LeO.ite ?_ ?_)
   | (with_reducible refine LeO.bind ?_ (fun _ => ?_))
   | exact ih0 _ _ _ _
   | exact ih1 _ _ _ _ _ _ _ _
   | exact ih2 _ _ _ _ _ _ _ _ _ _
   | exact ih3 _ _ _ _ _ _ _ _ _ _ _ _
   | exact ih4 _ _ _ _ _ _ _ _ _ _
   | exact ih5 _ _ _ _ _ _ _ _ _ _ _
   | exact ih6 _ _ _ _ _ _ _ _ _ _ _ _
   | exact ih7 _ _ _ _ _ _ _ _ _ _
   | exact ih8 _ _ _ _ _ _ _ _ _ _
   | exact line_Eigen.mono _ _
   | exact line_Run.mono _ _ _ _
   | exact line_Speed.mono _ _
   | exact l5alive.mono _
   | exact l5few.mono _ _
   | exact LeO.none _
   | refine LeO.ite ?_ ?_
   | refine LeO.bind ?_ (fun _ => ?_)
  ·
   intro y0 y1 y2 y3 y4 y5 y6 y7 y8 y9
   unfold l5LineEigen.l3
   repeat' first
   | (with_reducible exact LeO.refl _)
   | (with_reducible exact LeO.none _)
   | (with_reducible refine LeO.ite ?_ ?_)
   | (with_reducible refine LeO.bind ?_ (fun _ => ?_))
   | exact ih0 _ _ _ _
   | exact ih1 _ _ _ _ _ _ _ _
   | exact ih2 _ _ _ _ _ _ _ _ _ _
   | exact ih3 _ _ _ _ _ _ _ _ _ _ _ _
   | exact ih4 _ _ _ _ _ _ _ _ _ _
   | exact ih5 _ _ _ _ _ _ _ _ _ _ _
   | exact ih6 _ _ _ _ _ _ _ _ _ _ _ _
   | exact ih7 _ _ _ _ _ _ _ _ _ _
   | exact ih8 _ _ _ _ _ _ _ _ _ _
   | exact line_Eigen.mono _ _
   | exact line_Run.mono _ _ _ _
   | exact line_Speed.mono _ _
   | exact l5alive.mono _
   | exact l5few.mono _ _
   | exact LeO.none _
   | refine LeO.ite ?_ ?_
   | refine LeO.bind ?_ (fun _ => ?_)
theorem l5LineEigen.mono : ∀ a0 a1 a2 k, LeO (l5LineEigen.f k a0 a1 a2) (l5LineEigen.f (k + 1) a0 a1 a2) := by
 intro a0 a1 a2 k
 obtain ⟨ih0, ih1, ih2, ih3, ih4, ih5, ih6, ih7, ih8⟩ := l5LineEigen.mono_l k
 unfold l5LineEigen.f
 repeat' first
   | (with_reducible exact LeO.refl _)
   | (with_reducible exact LeO.none _)
   | (with_reducible refine LeO.ite ?_ ?_)
   | (with_reducible refine LeO.bind ?_ (fun _ => ?_))
   | exact ih0 _ _ _ _
   | exact ih1 _ _ _ _ _ _ _ _
   | exact ih2 _ _ _ _ _ _ _ _ _ _
   | exact ih3 _ _ _ _ _ _ _ _ _ _ _ _
   | exact ih4 _ _ _ _ _ _ _ _ _ _
   | exact ih5 _ _ _ _ _ _ _ _ _ _ _
   | exact ih6 _ _ _ _ _ _ _ _ _ _ _ _
   | exact ih7 _ _ _ _ _ _ _ _ _ _
   | exact ih8 _ _ _ _ _ _ _ _ _ _
   | exact line_Eigen.mono _ _
   | exact line_Run.mono _ _ _ _
   | exact line_Speed.mono _ _
   | exact l5alive.mono _
   | exact l5few.mono _ _
   | exact LeO.none _
   | refine LeO.ite ?_ ?_
   | refine LeO.bind ?_ (fun _ => ?_)
set_option maxHeartbeats 8000000 in
set_option maxRecDepth 100000 in
theorem l5LineEigen.calls (k : Nat) (A0 : Option Addr) (c0 : Nat) (l0 : List (List Int)) (A1 : Option Addr) (c1 : Nat) (l1 : List Int) (a2 : Int) (r : Bool) (w : World) (hr0 : Kd.C (Kd.slice 3 (Kd.int .i64)) w A0 l0.length l0) (hc0 : l0.length ≤ c0) (hr1 : Kd.C (Kd.int .i64) w A1 l1.length l1) (hc1 : l1.length ≤ c1) (h : l5LineEigen.f k l0 l1 a2 = some r) (hr_ : Aside0 (r = true)) :
  Calls Try.prog 6 #[.slice A0 l0.length c0, .slice A1 l1.length c1, .int .u16 a2] w fun e w' => e = .returned (.bool r) ∧ Below w.heap.size w w' := by
 have hu37 := Try.underlying37
 have HR0 := Aside0.mk hr0
 have HC0 := Aside0.mk hc0
 clear hr0 hc0
 have HR1 := Aside0.mk hr1
 have HC1 := Aside0.mk hc1
 clear hr1 hc1
 have HB := Aside0.mk (Below.refl w.heap.size w)
 have H : ((l5few.f k l0).bind fun t783 => (if t783 = true then (l5LineEigen.j0 k l0 l1 a2 (decide ((l1.length : Int) > 20))) else (l5LineEigen.j0 k l0 l1 a2 true))) = some r := h
 clear h
 have HC4 := Aside0.mk H
 clear H
 go_enter Try.func6, Try.ntmps6
 go_upto_region 1 with (fail)
 repeat (go_quiet (fail); go_upto_region 1 with (fail))
 go_cut [32] (fun v32 wc => ∃ (kq : Nat) (x32_3 : Bool), v32 = .bool x32_3 ∧ Aside0 (l5LineEigen.j0 kq l0 l1 a2 x32_3 = some r) ∧ Aside0 (kq ≤ k) ∧ Aside0 (Below w.heap.size w wc))
 case first =>
  as_aux_lemma =>
   have H := HC4.out
   clear HC4
   replace H := Option.bind_eq_some_iff.mp H
   obtain ⟨t783, A50, H⟩ := H
   replace H : (if t783 = true then (l5LineEigen.j0 k l0 l1 a2 (decide ((l1.length : Int) > 20))) else (l5LineEigen.j0 k l0 l1 a2 true)) = some r := H
   have A5 := Aside0.mk A50
   clear A50
   by_cases c6 : t783 = true
   ·
    subst c6
    have H1 : (l5LineEigen.j0 k l0 l1 a2 (decide ((l1.length : Int) > 20))) = some r := by rw [if_pos rfl] at H; exact H
    clear H
    have H := H1
    clear H1
    have H' := Aside0.mk H
    clear H
    go_wp2_with (first | (go_at_call 12; (with_reducible refine (l5few.calls k _ _ l0 true _ ?side1 ?side2 A5.out).mono ?_); (case side1 => repeat (first | exact (Kd.C_below HR0.out HB.out))); (case side2 => exact HC0.out); rintro e w' ⟨rfl, ⟨nd, rfl⟩⟩; (try first | exact ⟨rfl, _, World.drewN_drewN _ _ _⟩ | exact ⟨rfl, _, Eq.trans (World.drewN_drewN _ _ _) (congrArg (World.drewN _) (Nat.add_assoc _ _ _))⟩)))
    repeat (go_quiet (first | (go_at_call 12; (with_reducible refine (l5few.calls k _ _ l0 true _ ?side1 ?side2 A5.out).mono ?_); (case side1 => repeat (first | exact (Kd.C_below HR0.out HB.out))); (case side2 => exact HC0.out); rintro e w' ⟨rfl, ⟨nd, rfl⟩⟩; (try first | exact ⟨rfl, _, World.drewN_drewN _ _ _⟩ | exact ⟨rfl, _, Eq.trans (World.drewN_drewN _ _ _) (congrArg (World.drewN _) (Nat.add_assoc _ _ _))⟩))); try go_wp2_with (first | (go_at_call 12; (with_reducible refine (l5few.calls k _ _ l0 true _ ?side1 ?side2 A5.out).mono ?_); (case side1 => repeat (first | exact (Kd.C_below HR0.out HB.out))); (case side2 => exact HC0.out); rintro e w' ⟨rfl, ⟨nd, rfl⟩⟩; (try first | exact ⟨rfl, _, World.drewN_drewN _ _ _⟩ | exact ⟨rfl, _, Eq.trans (World.drewN_drewN _ _ _) (congrArg (World.drewN _) (Nat.add_assoc _ _ _))⟩))))
    go_meet
    case rel => exact ⟨_, (decide ((l1.length : Int) > 20)), rfl, H', ⟨by first | omega | exact Nat.le_refl _⟩, ⟨by repeat (first | exact HB.out | apply below_alloc | apply pw_below_drewN | apply below_drew1)⟩⟩
   ·
    replace c6 := Bool.eq_false_iff.mpr c6
    subst c6
    have H1 : (l5LineEigen.j0 k l0 l1 a2 true) = some r := by rw [if_neg (show ¬ (false = true) by decide)] at H; exact H
    clear H
    have H := H1
    clear H1
    have H' := Aside0.mk H
    clear H
    go_wp2_with (first | (go_at_call 12; (with_reducible refine (l5few.calls k _ _ l0 false _ ?side1 ?side2 A5.out).mono ?_); (case side1 => repeat (first | exact (Kd.C_below HR0.out HB.out))); (case side2 => exact HC0.out); rintro e w' ⟨rfl, ⟨nd, rfl⟩⟩; (try first | exact ⟨rfl, _, World.drewN_drewN _ _ _⟩ | exact ⟨rfl, _, Eq.trans (World.drewN_drewN _ _ _) (congrArg (World.drewN _) (Nat.add_assoc _ _ _))⟩)))
    repeat (go_quiet (first | (go_at_call 12; (with_reducible refine (l5few.calls k _ _ l0 false _ ?side1 ?side2 A5.out).mono ?_); (case side1 => repeat (first | exact (Kd.C_below HR0.out HB.out))); (case side2 => exact HC0.out); rintro e w' ⟨rfl, ⟨nd, rfl⟩⟩; (try first | exact ⟨rfl, _, World.drewN_drewN _ _ _⟩ | exact ⟨rfl, _, Eq.trans (World.drewN_drewN _ _ _) (congrArg (World.drewN _) (Nat.add_assoc _ _ _))⟩))); try go_wp2_with (first | (go_at_call 12; (with_reducible refine (l5few.calls k _ _ l0 false _ ?side1 ?side2 A5.out).mono ?_); (case side1 => repeat (first | exact (Kd.C_below HR0.out HB.out))); (case side2 => exact HC0.out); rintro e w' ⟨rfl, ⟨nd, rfl⟩⟩; (try first | exact ⟨rfl, _, World.drewN_drewN _ _ _⟩ | exact ⟨rfl, _, Eq.trans (World.drewN_drewN _ _ _) (congrArg (World.drewN _) (Nat.add_assoc _ _ _))⟩))))
    go_meet
    case rel => exact ⟨_, (true), rfl, H', ⟨by first | omega | exact Nat.le_refl _⟩, ⟨by repeat (first | exact HB.out | apply below_alloc | apply pw_below_drewN | apply below_drew1)⟩⟩
 case rest =>
  as_aux_lemma =>
   clear HC4
   obtain ⟨kq, x32_3, rfl, HA, HJ3, HB⟩ := hcut
   cases kq with
   | zero => exact absurd HA.out (by simp [l5LineEigen.j0])
   | succ kj3 =>
    have H := HA.out
    clear HA
    simp only [l5LineEigen.j0] at H
    by_cases c7 : x32_3 = true
    ·
     subst c7
     have H1 : ((l5alive.f kj3).bind fun t784 => (some t784)) = some r := by rw [if_pos rfl] at H; exact H
     clear H
     have H := H1
     clear H1
     replace H := Option.bind_eq_some_iff.mp H
     obtain ⟨t784, A80, H⟩ := H
     replace H : (some t784) = some r := H
     have A8 := Aside0.mk A80
     clear A80
     obtain rfl := Option.some.inj H
     go_wp2_with (first | (go_at_call 13; (with_reducible refine (l5alive.calls kj3  t784 _ A8.out).mono ?_); rintro e w9 ⟨rfl, hb⟩; have n0_ := Aside0.mk (below_step (by repeat (first | exact HB.out | apply below_alloc | apply pw_below_drewN | apply below_drew1)) hb); clear HB; have HB := n0_; clear n0_))
     repeat (go_quiet (first | (go_at_call 13; (with_reducible refine (l5alive.calls kj3  t784 _ A8.out).mono ?_); rintro e w9 ⟨rfl, hb⟩; have n0_ := Aside0.mk (below_step (by repeat (first | exact HB.out | apply below_alloc | apply pw_below_drewN | apply below_drew1)) hb); clear HB; have HB := n0_; clear n0_)); try go_wp2_with (first | (go_at_call 13; (with_reducible refine (l5alive.calls kj3  t784 _ A8.out).mono ?_); rintro e w9 ⟨rfl, hb⟩; have n0_ := Aside0.mk (below_step (by repeat (first | exact HB.out | apply below_alloc | apply pw_below_drewN | apply below_drew1)) hb); clear HB; have HB := n0_; clear n0_)))
     go_ret
     exact ⟨rfl, by repeat (first | exact HB.out | apply below_alloc | apply pw_below_drewN | apply below_drew1)⟩
    ·
     replace c7 := Bool.eq_false_iff.mpr c7
     subst c7
     have H1 : ((line_Eigen.f kj3 l0).bind fun bt785 => ((line_Speed.f kj3 l0).bind fun bt789 => (if bt785.2 = 0 then (if bt789.2.2 = 0 then (if (bt785.1.length : Int) = (l0.length : Int) then (l5LineEigen.j1 kj3 l0 l1 a2 bt785.1 (l0.length : Int) (decide (bt789.2.1 < 1)) bt789.1 bt789.2.1) else (l5LineEigen.j1 kj3 l0 l1 a2 bt785.1 (l0.length : Int) true bt789.1 bt789.2.1)) else (l5LineEigen.j1 kj3 l0 l1 a2 bt785.1 (l0.length : Int) true bt789.1 bt789.2.1)) else (if (bt785.1.length : Int) = 0 then ((l5alive.f kj3).bind fun t793 => (some t793)) else (some false))))) = some r := by rw [if_neg (show ¬ (false = true) by decide)] at H; exact H
     clear H
     have H := H1
     clear H1
     replace H := Option.bind_eq_some_iff.mp H
     obtain ⟨⟨t785, t786⟩, A100, H⟩ := H
     replace H : ((line_Speed.f kj3 l0).bind fun bt789 => (if t786 = 0 then (if bt789.2.2 = 0 then (if (t785.length : Int) = (l0.length : Int) then (l5LineEigen.j1 kj3 l0 l1 a2 t785 (l0.length : Int) (decide (bt789.2.1 < 1)) bt789.1 bt789.2.1) else (l5LineEigen.j1 kj3 l0 l1 a2 t785 (l0.length : Int) true bt789.1 bt789.2.1)) else (l5LineEigen.j1 kj3 l0 l1 a2 t785 (l0.length : Int) true bt789.1 bt789.2.1)) else (if (t785.length : Int) = 0 then ((l5alive.f kj3).bind fun t793 => (some t793)) else (some false)))) = some r := H
     have A10 := Aside0.mk A100
     clear A100
     replace H := Option.bind_eq_some_iff.mp H
     obtain ⟨⟨t789, t790, t791⟩, A110, H⟩ := H
     replace H : (if t786 = 0 then (if t791 = 0 then (if (t785.length : Int) = (l0.length : Int) then (l5LineEigen.j1 kj3 l0 l1 a2 t785 (l0.length : Int) (decide (t790 < 1)) t789 t790) else (l5LineEigen.j1 kj3 l0 l1 a2 t785 (l0.length : Int) true t789 t790)) else (l5LineEigen.j1 kj3 l0 l1 a2 t785 (l0.length : Int) true t789 t790)) else (if (t785.length : Int) = 0 then ((l5alive.f kj3).bind fun t793 => (some t793)) else (some false))) = some r := H
     have A11 := Aside0.mk A110
     clear A110
     by_cases c12 : t786 = 0
     ·
      rw [if_pos c12] at H
      have c12b0 : (t786 == 0) = true := beq_iff_eq.mpr c12
      clear c12
      have HC13 := Aside0.mk H
      clear H
      go_upto_region 8 with (first | (go_at_call 15; (with_reducible refine (line_Eigen.calls kj3 _ _ l0 t785 t786 _ ?side1 ?side2 A10.out).mono ?_); (case side1 => repeat (first | exact (Kd.C_below HR0.out HB.out))); (case side2 => exact HC0.out); rintro e w14 ⟨v787, rfl, ho0, hb⟩; have n0_ := Aside0.mk (Kd.R_lower ho0 (below_size (by repeat (first | exact HB.out | apply below_alloc | apply pw_below_drewN | apply below_drew1)))); have n1_ := Aside0.mk (below_step (by repeat (first | exact HB.out | apply below_alloc | apply pw_below_drewN | apply below_drew1)) hb); clear HB; have HO788 := n0_; have HB := n1_; clear n0_ n1_) | (go_at_call 22; (with_reducible refine (line_Speed.calls kj3 _ _ l0 t789 t790 t791 _ ?side1 ?side2 A11.out).mono ?_); (case side1 => repeat (first | exact (Kd.C_below HR0.out HB.out))); (case side2 => exact HC0.out); rintro e w15 ⟨rfl, hb⟩; have n0_ := Aside0.mk (Kd.R_below (by exact HO788.out) hb); have n1_ := Aside0.mk (below_step (by repeat (first | exact HB.out | apply below_alloc | apply pw_below_drewN | apply below_drew1)) hb); clear HO788; clear HB; have HO788 := n0_; have HB := n1_; clear n0_ n1_) | ((with_reducible refine gate_dst (N := 9) rfl ?_); (try (refine gate_guard (by rfl) ?_; dsimp only)); refine box_event ?hg (N := 9) ?hd (cs := #[.int .i64 0, .int .i64 0]) (t := 37) ?hr ?_; (case hd => rfl); (case hg => rfl); (case hr => go_simp); intro gb792 hg w16 hbox hb; have n0_ := Aside0.mk (Kd.R_below (by exact HO788.out) hb); have n1_ := Aside0.mk (below_step (by repeat (first | exact HB.out | apply below_alloc | apply pw_below_drewN | apply below_drew1)) hb); have n2_ := Aside0.mk (hbox); have n3_ := Aside0.mk ((by rw [hg]; exact (below_size (by repeat (first | exact HB.out | apply below_alloc | apply pw_below_drewN | apply below_drew1))) : w.heap.size ≤ gb792)); have n4_ := Aside0.mk ((by rw [hg]; exact (below_size (by repeat (first | exact HB.out | apply below_alloc | apply pw_below_drewN | apply below_drew1))) : w.heap.size ≤ gb792)); clear HO788; clear HB; have HO788 := n0_; have HB := n1_; have BK792 := n2_; have GW792 := n3_; have GE792 := n4_; clear n0_ n1_ n2_ n3_ n4_; clear hb hbox hg; have hcz17_0 : w16.cell? ⟨gb792, 0, none⟩ = some (.int .i64 0) := (blk_cell BK792.out 0).trans rfl; have hcz17_1 : w16.cell? ⟨gb792, 1, none⟩ = some (.int .i64 0) := (blk_cell BK792.out 1).trans rfl; have hfz17_0 := blk_frozen BK792.out 0; have hfz17_1 := blk_frozen BK792.out 1))
      repeat (go_quiet (first | (go_at_call 15; (with_reducible refine (line_Eigen.calls kj3 _ _ l0 t785 t786 _ ?side1 ?side2 A10.out).mono ?_); (case side1 => repeat (first | exact (Kd.C_below HR0.out HB.out))); (case side2 => exact HC0.out); rintro e w14 ⟨v787, rfl, ho0, hb⟩; have n0_ := Aside0.mk (Kd.R_lower ho0 (below_size (by repeat (first | exact HB.out | apply below_alloc | apply pw_below_drewN | apply below_drew1)))); have n1_ := Aside0.mk (below_step (by repeat (first | exact HB.out | apply below_alloc | apply pw_below_drewN | apply below_drew1)) hb); clear HB; have HO788 := n0_; have HB := n1_; clear n0_ n1_) | (go_at_call 22; (with_reducible refine (line_Speed.calls kj3 _ _ l0 t789 t790 t791 _ ?side1 ?side2 A11.out).mono ?_); (case side1 => repeat (first | exact (Kd.C_below HR0.out HB.out))); (case side2 => exact HC0.out); rintro e w15 ⟨rfl, hb⟩; have n0_ := Aside0.mk (Kd.R_below (by exact HO788.out) hb); have n1_ := Aside0.mk (below_step (by repeat (first | exact HB.out | apply below_alloc | apply pw_below_drewN | apply below_drew1)) hb); clear HO788; clear HB; have HO788 := n0_; have HB := n1_; clear n0_ n1_) | ((with_reducible refine gate_dst (N := 9) rfl ?_); (try (refine gate_guard (by rfl) ?_; dsimp only)); refine box_event ?hg (N := 9) ?hd (cs := #[.int .i64 0, .int .i64 0]) (t := 37) ?hr ?_; (case hd => rfl); (case hg => rfl); (case hr => go_simp); intro gb792 hg w16 hbox hb; have n0_ := Aside0.mk (Kd.R_below (by exact HO788.out) hb); have n1_ := Aside0.mk (below_step (by repeat (first | exact HB.out | apply below_alloc | apply pw_below_drewN | apply below_drew1)) hb); have n2_ := Aside0.mk (hbox); have n3_ := Aside0.mk ((by rw [hg]; exact (below_size (by repeat (first | exact HB.out | apply below_alloc | apply pw_below_drewN | apply below_drew1))) : w.heap.size ≤ gb792)); have n4_ := Aside0.mk ((by rw [hg]; exact (below_size (by repeat (first | exact HB.out | apply below_alloc | apply pw_below_drewN | apply below_drew1))) : w.heap.size ≤ gb792)); clear HO788; clear HB; have HO788 := n0_; have HB := n1_; have BK792 := n2_; have GW792 := n3_; have GE792 := n4_; clear n0_ n1_ n2_ n3_ n4_; clear hb hbox hg; have hcz17_0 : w16.cell? ⟨gb792, 0, none⟩ = some (.int .i64 0) := (blk_cell BK792.out 0).trans rfl; have hcz17_1 : w16.cell? ⟨gb792, 1, none⟩ = some (.int .i64 0) := (blk_cell BK792.out 1).trans rfl; have hfz17_0 := blk_frozen BK792.out 0; have hfz17_1 := blk_frozen BK792.out 1)); go_upto_region 8 with (first | (go_at_call 15; (with_reducible refine (line_Eigen.calls kj3 _ _ l0 t785 t786 _ ?side1 ?side2 A10.out).mono ?_); (case side1 => repeat (first | exact (Kd.C_below HR0.out HB.out))); (case side2 => exact HC0.out); rintro e w14 ⟨v787, rfl, ho0, hb⟩; have n0_ := Aside0.mk (Kd.R_lower ho0 (below_size (by repeat (first | exact HB.out | apply below_alloc | apply pw_below_drewN | apply below_drew1)))); have n1_ := Aside0.mk (below_step (by repeat (first | exact HB.out | apply below_alloc | apply pw_below_drewN | apply below_drew1)) hb); clear HB; have HO788 := n0_; have HB := n1_; clear n0_ n1_) | (go_at_call 22; (with_reducible refine (line_Speed.calls kj3 _ _ l0 t789 t790 t791 _ ?side1 ?side2 A11.out).mono ?_); (case side1 => repeat (first | exact (Kd.C_below HR0.out HB.out))); (case side2 => exact HC0.out); rintro e w15 ⟨rfl, hb⟩; have n0_ := Aside0.mk (Kd.R_below (by exact HO788.out) hb); have n1_ := Aside0.mk (below_step (by repeat (first | exact HB.out | apply below_alloc | apply pw_below_drewN | apply below_drew1)) hb); clear HO788; clear HB; have HO788 := n0_; have HB := n1_; clear n0_ n1_) | ((with_reducible refine gate_dst (N := 9) rfl ?_); (try (refine gate_guard (by rfl) ?_; dsimp only)); refine box_event ?hg (N := 9) ?hd (cs := #[.int .i64 0, .int .i64 0]) (t := 37) ?hr ?_; (case hd => rfl); (case hg => rfl); (case hr => go_simp); intro gb792 hg w16 hbox hb; have n0_ := Aside0.mk (Kd.R_below (by exact HO788.out) hb); have n1_ := Aside0.mk (below_step (by repeat (first | exact HB.out | apply below_alloc | apply pw_below_drewN | apply below_drew1)) hb); have n2_ := Aside0.mk (hbox); have n3_ := Aside0.mk ((by rw [hg]; exact (below_size (by repeat (first | exact HB.out | apply below_alloc | apply pw_below_drewN | apply below_drew1))) : w.heap.size ≤ gb792)); have n4_ := Aside0.mk ((by rw [hg]; exact (below_size (by repeat (first | exact HB.out | apply below_alloc | apply pw_below_drewN | apply below_drew1))) : w.heap.size ≤ gb792)); clear HO788; clear HB; have HO788 := n0_; have HB := n1_; have BK792 := n2_; have GW792 := n3_; have GE792 := n4_; clear n0_ n1_ n2_ n3_ n4_; clear hb hbox hg; have hcz17_0 : w16.cell? ⟨gb792, 0, none⟩ = some (.int .i64 0) := (blk_cell BK792.out 0).trans rfl; have hcz17_1 : w16.cell? ⟨gb792, 1, none⟩ = some (.int .i64 0) := (blk_cell BK792.out 1).trans rfl; have hfz17_0 := blk_frozen BK792.out 0; have hfz17_1 := blk_frozen BK792.out 1)))
      (try simp only [Act.put, List.setIfInBounds_toArray, List.set_cons_zero, List.set_cons_succ])
      go_cut [66] (fun v66 wc => ∃ (kq : Nat) (x66_12 : Bool), v66 = .bool x66_12 ∧ Aside0 (l5LineEigen.j1 kq l0 l1 a2 t785 (l0.length : Int) x66_12 t789 t790 = some r) ∧ Aside0 (kq ≤ kj3) ∧ Aside0 (Kd.R (Kd.int .i64) 3 wc w.heap.size (fun _ => True) v787 t785) ∧ Aside0 (wc.heap[gb792]? = some (.cells #[.int .i64 t789, .int .i64 t790] 37 (0, 0))) ∧ Aside0 (Below w.heap.size w wc))
      case first =>
       as_aux_lemma =>
        have H := HC13.out
        clear HC13
        by_cases c18 : t791 = 0
        ·
         rw [if_pos c18] at H
         have c18b0 : (t791 == 0) = true := beq_iff_eq.mpr c18
         have c18b1 : (t791 != 0) = false := bne_eq_false_iff_eq.mpr c18
         clear c18
         (first | rw [c18b0] | (simp only [i64_w, i32_w]; rw [c18b0]) | skip)
         by_cases c19 : (t785.length : Int) = (l0.length : Int)
         ·
          rw [if_pos c19] at H
          have c19b0 : ((t785.length : Int) == (l0.length : Int)) = true := beq_iff_eq.mpr c19
          have c19b1 : ((t785.length : Int) != (l0.length : Int)) = false := bne_eq_false_iff_eq.mpr c19
          have c19b2 : (t785.length == l0.length) = true := by first | simpa using c19 | (simp at c19 ⊢; omega)
          clear c19
          have H' := Aside0.mk H
          clear H
          obtain ⟨Ao20, co20, eo20⟩ := Kd.R_slice HO788.out
          subst eo20
          have hcz21_0 : w16.cell? ⟨gb792, 0, none⟩ = some (.int .i64 0) := (blk_cell BK792.out 0).trans rfl
          have hcz21_1 : w16.cell? ⟨gb792, 1, none⟩ = some (.int .i64 0) := (blk_cell BK792.out 1).trans rfl
          have hfz21_0 := blk_frozen BK792.out 0
          have hfz21_1 := blk_frozen BK792.out 1
          go_wp2
          repeat (go_quiet (fail); try go_wp2)
          go_meet
          case rel => exact ⟨_, (decide (t790 < 1)), (by first | rfl | (simp; done) | (simp [*]; done)), H', ⟨by have := HJ3.out; first | omega | exact Nat.le_refl _⟩, ⟨by (with_reducible repeat (first | apply Kd.R_alloc | apply Kd.R_drewN | apply Kd.R_drew)); exact Kd.R_mono (Kd.R_far (p := ⟨gb792, 1, none⟩) (Kd.R_far (p := ⟨gb792, 0, none⟩) (Kd.R_types HO788.out BK792.out (by decide)) (fun _ hk => hk.2) (.int .i64 t789)) (fun _ hk => hk.2) (.int .i64 t790)) (fun _ hk => trivial)⟩, ⟨by (with_reducible repeat (first | refine blk_drewN ?_ _ | refine blk_drew ?_ | refine blk_alloc ?_ _)); refine blk_put (cs := #[.int .i64 t789, .int .i64 0]) ?_ 1 _ rfl; (with_reducible repeat (first | refine blk_drewN ?_ _ | refine blk_drew ?_ | refine blk_alloc ?_ _)); refine blk_put (cs := #[.int .i64 0, .int .i64 0]) ?_ 0 _ rfl; (with_reducible repeat (first | refine blk_drewN ?_ _ | refine blk_drew ?_ | refine blk_alloc ?_ _)); exact BK792.out⟩, ⟨by repeat (first | (with_reducible first | exact HB.out | apply below_alloc | apply pw_below_drewN | apply below_drew1 | refine below_set ?_ GE792.out) | exact HB.out)⟩⟩
         ·
          rw [if_neg c19] at H
          have c19b0 : ((t785.length : Int) == (l0.length : Int)) = false := beq_eq_false_iff_ne.mpr c19
          have c19b1 : ((t785.length : Int) != (l0.length : Int)) = true := bne_iff_ne.mpr c19
          have c19b2 : (t785.length == l0.length) = false := by first | simpa using c19 | (simp at c19 ⊢; omega)
          have H' := Aside0.mk H
          clear H
          obtain ⟨Ao22, co22, eo22⟩ := Kd.R_slice HO788.out
          subst eo22
          go_wp2
          repeat (go_quiet (fail); try go_wp2)
          go_meet
          case rel => exact ⟨_, (true), (by first | rfl | (simp; done) | (simp [*]; done)), H', ⟨by have := HJ3.out; first | omega | exact Nat.le_refl _⟩, ⟨by (with_reducible repeat (first | apply Kd.R_alloc | apply Kd.R_drewN | apply Kd.R_drew)); exact Kd.R_mono (Kd.R_far (p := ⟨gb792, 1, none⟩) (Kd.R_far (p := ⟨gb792, 0, none⟩) (Kd.R_types HO788.out BK792.out (by decide)) (fun _ hk => hk.2) (.int .i64 t789)) (fun _ hk => hk.2) (.int .i64 t790)) (fun _ hk => trivial)⟩, ⟨by (with_reducible repeat (first | refine blk_drewN ?_ _ | refine blk_drew ?_ | refine blk_alloc ?_ _)); refine blk_put (cs := #[.int .i64 t789, .int .i64 0]) ?_ 1 _ rfl; (with_reducible repeat (first | refine blk_drewN ?_ _ | refine blk_drew ?_ | refine blk_alloc ?_ _)); refine blk_put (cs := #[.int .i64 0, .int .i64 0]) ?_ 0 _ rfl; (with_reducible repeat (first | refine blk_drewN ?_ _ | refine blk_drew ?_ | refine blk_alloc ?_ _)); exact BK792.out⟩, ⟨by repeat (first | (with_reducible first | exact HB.out | apply below_alloc | apply pw_below_drewN | apply below_drew1 | refine below_set ?_ GE792.out) | exact HB.out)⟩⟩
        ·
         rw [if_neg c18] at H
         have c18b0 : (t791 == 0) = false := beq_eq_false_iff_ne.mpr c18
         have c18b1 : (t791 != 0) = true := bne_iff_ne.mpr c18
         (first | rw [c18b0] | (simp only [i64_w, i32_w]; rw [c18b0]) | skip)
         have H' := Aside0.mk H
         clear H
         go_wp2
         repeat (go_quiet (fail); try go_wp2)
         go_meet
         case rel => exact ⟨_, (true), (by first | rfl | (simp; done) | (simp [*]; done)), H', ⟨by have := HJ3.out; first | omega | exact Nat.le_refl _⟩, ⟨by (with_reducible repeat (first | apply Kd.R_alloc | apply Kd.R_drewN | apply Kd.R_drew)); exact Kd.R_mono (Kd.R_far (p := ⟨gb792, 1, none⟩) (Kd.R_far (p := ⟨gb792, 0, none⟩) (Kd.R_types HO788.out BK792.out (by decide)) (fun _ hk => hk.2) (.int .i64 t789)) (fun _ hk => hk.2) (.int .i64 t790)) (fun _ hk => trivial)⟩, ⟨by (with_reducible repeat (first | refine blk_drewN ?_ _ | refine blk_drew ?_ | refine blk_alloc ?_ _)); refine blk_put (cs := #[.int .i64 t789, .int .i64 0]) ?_ 1 _ rfl; (with_reducible repeat (first | refine blk_drewN ?_ _ | refine blk_drew ?_ | refine blk_alloc ?_ _)); refine blk_put (cs := #[.int .i64 0, .int .i64 0]) ?_ 0 _ rfl; (with_reducible repeat (first | refine blk_drewN ?_ _ | refine blk_drew ?_ | refine blk_alloc ?_ _)); exact BK792.out⟩, ⟨by repeat (first | (with_reducible first | exact HB.out | apply below_alloc | apply pw_below_drewN | apply below_drew1 | refine below_set ?_ GE792.out) | exact HB.out)⟩⟩
      case rest =>
       as_aux_lemma =>
        clear HC13
        obtain ⟨kq, x66_12, rfl, HA, HJ12, HO_7, BK792, HB⟩ := hcut
        cases kq with
        | zero => exact absurd HA.out (by simp [l5LineEigen.j1])
        | succ kj12 =>
         have H := HA.out
         clear HA
         simp only [l5LineEigen.j1] at H
         by_cases c23 : x66_12 = true
         ·
          subst c23
          have H1 : (some false) = some r := by rw [if_pos rfl] at H; exact H
          clear H
          have H := H1
          clear H1
          exact absurd (H.trans (congrArg some hr_.out)) (by simp)
         ·
          replace c23 := Bool.eq_false_iff.mpr c23
          subst c23
          have H1 : (if 0 < (t785.length : Int) then (l5LineEigen.l0 kj12 l0 l1 a2 t785 (l0.length : Int) (rd t785 0) (rd t785 0) 0 t789 t790) else (none)) = some r := by rw [if_neg (show ¬ (false = true) by decide)] at H; exact H
          clear H
          have H := H1
          clear H1
          by_cases c24 : 0 < (t785.length : Int)
          ·
           rw [if_pos c24] at H
           have c24b0 : decide (0 < (t785.length : Int)) = true := decide_eq_true c24
           clear c24
           have H' := Aside0.mk H
           clear H
           obtain ⟨Ao25, co25, eo25⟩ := Kd.R_slice HO_7.out
           subst eo25
           have p794 : 0 ≤ (0 : Int) := (by omega)
           have q794 : 0 < (t785.length : Int) := of_decide_eq_true (by assumption)
           obtain ⟨ad794, e794, hx794_0⟩ := Kd.at_int (Kd.R_reads' HO_7.out).2.2 0 p794 q794
           cases e794
           have qi794 : (0 < t785.length) = True := eq_true (by omega)
           (try rw [show ((0 : Int)).toNat = 0 from rfl] at hx794_0)
           (try rw [Addr.add_zero'] at hx794_0)
           replace p794 := eq_true p794
           replace q794 := eq_true q794
           have p795 : 0 ≤ (0 : Int) := (by omega)
           have q795 : 0 < (t785.length : Int) := of_decide_eq_true (by assumption)
           obtain ⟨ad795, e795, hx795_0⟩ := Kd.at_int (Kd.R_reads' HO_7.out).2.2 0 p795 q795
           obtain rfl : ad794 = ad795 := (by injection e795)
           have qi795 : (0 < t785.length) = True := eq_true (by omega)
           (try rw [show ((0 : Int)).toNat = 0 from rfl] at hx795_0)
           (try rw [Addr.add_zero'] at hx795_0)
           replace p795 := eq_true p795
           replace q795 := eq_true q795
           go_wp2
           repeat (go_quiet (fail); try go_wp2)
           go_loopg [12, 13, 14] kj12 (fun kq v12 v13 v14 w' => ∃ (x12_3 : Int) (x13_3 : Int) (x14_3 : Int), v12 = .int .i64 x12_3 ∧ v13 = .int .i64 x13_3 ∧ v14 = .int .i64 x14_3 ∧ Aside0 (l5LineEigen.l0 kq l0 l1 a2 t785 (l0.length : Int) x12_3 x13_3 x14_3 t789 t790 = some r) ∧ Aside0 (kq ≤ kj12) ∧ Aside0 (Kd.R (Kd.int .i64) 3 w' w.heap.size (fun _ => True) (.slice (some ad794) t785.length co25) t785) ∧ Aside0 (w'.heap[gb792]? = some (.cells #[.int .i64 t789, .int .i64 t790] 37 (0, 0))) ∧ Aside0 (Below w.heap.size w w'))
           case atStart => exact ⟨(rd t785 0), (rd t785 0), (0), rfl, rfl, rfl, H', ⟨Nat.le_refl _⟩, ⟨by exact HO_7.out⟩, ⟨by (with_reducible repeat (first | refine blk_drewN ?_ _ | refine blk_drew ?_ | refine blk_alloc ?_ _)); exact BK792.out⟩, ⟨by repeat (first | (with_reducible first | exact HB.out | apply below_alloc | apply pw_below_drewN | apply below_drew1 | refine below_set ?_ GE792.out) | exact HB.out)⟩⟩
           case round =>
            as_aux_lemma =>
             clear H'
             obtain ⟨x12_3, x13_3, x14_3, rfl, rfl, rfl, HA, HK3, HO_7, BK792, HB⟩ := hrel
             cases gk with
             | zero => exact absurd HA.out (by simp [l5LineEigen.l0])
             | succ k3 =>
              have H := HA.out
              clear HA
              simp only [l5LineEigen.l0] at H
              by_cases c26 : x14_3 < (l0.length : Int)
              ·
               rw [if_pos c26] at H
               have c26b0 : decide (x14_3 < (l0.length : Int)) = true := decide_eq_true c26
               clear c26
               have H' := Aside0.mk H
               clear H
               go_wp2
               repeat (go_quiet (fail); try go_wp2)
               go_loopg [15, 16] k3 (fun kq v15 v16 w' => ∃ (x15_4 : Int) (x16_4 : Int), v15 = .int .i64 x15_4 ∧ v16 = .int .i64 x16_4 ∧ Aside0 (l5LineEigen.l1 kq l0 l1 a2 t785 (l0.length : Int) x12_3 x13_3 x14_3 x15_4 x16_4 t789 t790 = some r) ∧ Aside0 (kq ≤ k3) ∧ Aside0 (Kd.R (Kd.int .i64) 3 w' w.heap.size (fun _ => True) (.slice (some ad794) t785.length co25) t785) ∧ Aside0 (w'.heap[gb792]? = some (.cells #[.int .i64 t789, .int .i64 t790] 37 (0, 0))) ∧ Aside0 (Below w.heap.size w w'))
               case atStart => exact ⟨((-1152921504606846976)), (0), rfl, rfl, H', ⟨Nat.le_refl _⟩, ⟨by exact HO_7.out⟩, ⟨by (with_reducible repeat (first | refine blk_drewN ?_ _ | refine blk_drew ?_ | refine blk_alloc ?_ _)); exact BK792.out⟩, ⟨by repeat (first | (with_reducible first | exact HB.out | apply below_alloc | apply pw_below_drewN | apply below_drew1 | refine below_set ?_ GE792.out) | exact HB.out)⟩⟩
               case round =>
                as_aux_lemma =>
                 clear H'
                 obtain ⟨x15_4, x16_4, rfl, rfl, HA, HK4, HO_7, BK792, HB⟩ := hrel
                 cases gk with
                 | zero => exact absurd HA.out (by simp [l5LineEigen.l1])
                 | succ k4 =>
                  have H := HA.out
                  clear HA
                  simp only [l5LineEigen.l1] at H
                  by_cases c27 : x16_4 < (l0.length : Int)
                  ·
                   rw [if_pos c27] at H
                   have c27b0 : decide (x16_4 < (l0.length : Int)) = true := decide_eq_true c27
                   clear c27
                   by_cases c28 : 0 ≤ x14_3
                   ·
                    rw [if_pos c28] at H
                    have c28b0 : decide (0 ≤ x14_3) = true := decide_eq_true c28
                    clear c28
                    by_cases c29 : x14_3 < (l0.length : Int)
                    ·
                     rw [if_pos c29] at H
                     have c29b0 : decide (x14_3 < (l0.length : Int)) = true := decide_eq_true c29
                     clear c29
                     by_cases c30 : 0 ≤ x16_4
                     ·
                      rw [if_pos c30] at H
                      have c30b0 : decide (0 ≤ x16_4) = true := decide_eq_true c30
                      clear c30
                      by_cases c31 : x16_4 < ((rd_L1 l0 x14_3).length : Int)
                      ·
                       rw [if_pos c31] at H
                       have c31b0 : decide (x16_4 < ((rd_L1 l0 x14_3).length : Int)) = true := decide_eq_true c31
                       clear c31
                       by_cases c32 : (rd (rd_L1 l0 x14_3) x16_4) = (-1152921504606846976)
                       ·
                        rw [if_pos c32] at H
                        have c32b0 : ((rd (rd_L1 l0 x14_3) x16_4) == (-1152921504606846976)) = true := beq_iff_eq.mpr c32
                        clear c32
                        have H' := Aside0.mk H
                        clear H
                        have p796 : 0 ≤ (x14_3 : Int) := of_decide_eq_true (by assumption)
                        have q796 : x14_3 < (l0.length : Int) := of_decide_eq_true (by assumption)
                        obtain ⟨ad796, A796_0, c796_0, e796, hx796_0, hl796_0, hi796_0⟩ := at_L1 HR0.out x14_3 p796 q796
                        cases e796
                        replace hx796_0 := (HB.out.cell (World.block_lt_of_cell? w _ hx796_0)).trans hx796_0
                        have HR796_0 := Aside0.mk hi796_0
                        have HC796_0 := Aside0.mk hl796_0
                        clear hi796_0 hl796_0
                        replace p796 := eq_true p796
                        replace q796 := eq_true q796
                        have p797 : 0 ≤ (x16_4 : Int) := of_decide_eq_true (by assumption)
                        have q797 : x16_4 < ((rd_L1 l0 x14_3).length : Int) := of_decide_eq_true (by assumption)
                        obtain ⟨ad797, e797, hx797_0⟩ := Kd.at_int HR796_0.out x16_4 p797 q797
                        cases e797
                        replace hx797_0 := (HB.out.cell (World.block_lt_of_cell? w _ hx797_0)).trans hx797_0
                        replace p797 := eq_true p797
                        replace q797 := eq_true q797
                        go_wp2
                        repeat (go_quiet (fail); try go_wp2)
                        go_roundg k4
                        case measure => have := HJ3.out; have := HJ12.out; have := HK3.out; have := HK4.out; omega
                        case rel => exact ⟨(x15_4), (wrap64 (x16_4 + 1)), rfl, rfl, H', ⟨by have := HJ3.out; have := HJ12.out; have := HK3.out; have := HK4.out; omega⟩, ⟨by exact HO_7.out⟩, ⟨by (with_reducible repeat (first | refine blk_drewN ?_ _ | refine blk_drew ?_ | refine blk_alloc ?_ _)); exact BK792.out⟩, ⟨by repeat (first | (with_reducible first | exact HB.out | apply below_alloc | apply pw_below_drewN | apply below_drew1 | refine below_set ?_ GE792.out) | exact HB.out)⟩⟩
                       ·
                        rw [if_neg c32] at H
                        have c32b0 : ((rd (rd_L1 l0 x14_3) x16_4) == (-1152921504606846976)) = false := beq_eq_false_iff_ne.mpr c32
                        by_cases c33 : x16_4 < (t785.length : Int)
                        ·
                         rw [if_pos c33] at H
                         have c33b0 : decide (x16_4 < (t785.length : Int)) = true := decide_eq_true c33
                         clear c33
                         obtain ⟨ji34, hji34⟩ : ∃ j_ : Int, (mx x15_4 (wrap64 ((wrap64 (t790 * (rd (rd_L1 l0 x14_3) x16_4))) + (rd t785 x16_4)))) = j_ := ⟨_, rfl⟩
                         replace H : (l5LineEigen.l1 k4 l0 l1 a2 t785 (l0.length : Int) x12_3 x13_3 x14_3 ji34 (wrap64 (x16_4 + 1)) t789 t790) = some r := by first | (rw [hji34] at H; exact H) | (simp only [hji34] at H ⊢; exact H)
                         have hji34_ : (if x15_4 < (wrap64 ((wrap64 (t790 * (rd (rd_L1 l0 x14_3) x16_4))) + (rd t785 x16_4))) then (wrap64 ((wrap64 (t790 * (rd (rd_L1 l0 x14_3) x16_4))) + (rd t785 x16_4))) else x15_4) = ji34 := hji34
                         have H' := Aside0.mk H
                         clear H
                         have p796 : 0 ≤ (x14_3 : Int) := of_decide_eq_true (by assumption)
                         have q796 : x14_3 < (l0.length : Int) := of_decide_eq_true (by assumption)
                         obtain ⟨ad796, A796_0, c796_0, e796, hx796_0, hl796_0, hi796_0⟩ := at_L1 HR0.out x14_3 p796 q796
                         cases e796
                         replace hx796_0 := (HB.out.cell (World.block_lt_of_cell? w _ hx796_0)).trans hx796_0
                         have HR796_0 := Aside0.mk hi796_0
                         have HC796_0 := Aside0.mk hl796_0
                         clear hi796_0 hl796_0
                         replace p796 := eq_true p796
                         replace q796 := eq_true q796
                         have p797 : 0 ≤ (x16_4 : Int) := of_decide_eq_true (by assumption)
                         have q797 : x16_4 < ((rd_L1 l0 x14_3).length : Int) := of_decide_eq_true (by assumption)
                         obtain ⟨ad797, e797, hx797_0⟩ := Kd.at_int HR796_0.out x16_4 p797 q797
                         cases e797
                         replace hx797_0 := (HB.out.cell (World.block_lt_of_cell? w _ hx797_0)).trans hx797_0
                         replace p797 := eq_true p797
                         replace q797 := eq_true q797
                         have hcz35_0 : wr.cell? ⟨gb792, 0, none⟩ = some (.int .i64 t789) := (blk_cell BK792.out 0).trans rfl
                         have hcz35_1 : wr.cell? ⟨gb792, 1, none⟩ = some (.int .i64 t790) := (blk_cell BK792.out 1).trans rfl
                         have hfz35_0 := blk_frozen BK792.out 0
                         have hfz35_1 := blk_frozen BK792.out 1
                         have p798 : 0 ≤ (x14_3 : Int) := of_decide_eq_true (by assumption)
                         have q798 : x14_3 < (l0.length : Int) := of_decide_eq_true (by assumption)
                         obtain ⟨ad798, A798_0, c798_0, e798, hx798_0, hl798_0, hi798_0⟩ := at_L1 HR0.out x14_3 p798 q798
                         obtain rfl : ad796 = ad798 := (by injection e798)
                         replace hx798_0 := (HB.out.cell (World.block_lt_of_cell? w _ hx798_0)).trans hx798_0
                         have HR798_0 := Aside0.mk hi798_0
                         have HC798_0 := Aside0.mk hl798_0
                         clear hi798_0 hl798_0
                         replace p798 := eq_true p798
                         replace q798 := eq_true q798
                         have ea_ := Option.some.inj (hx796_0.symm.trans hx798_0)
                         injection ea_ with ea_ en_ ec_
                         subst ea_
                         subst ec_
                         clear en_
                         have p799 : 0 ≤ (x16_4 : Int) := of_decide_eq_true (by assumption)
                         have q799 : x16_4 < ((rd_L1 l0 x14_3).length : Int) := of_decide_eq_true (by assumption)
                         obtain ⟨ad799, e799, hx799_0⟩ := Kd.at_int HR798_0.out x16_4 p799 q799
                         cases e799
                         replace hx799_0 := (HB.out.cell (World.block_lt_of_cell? w _ hx799_0)).trans hx799_0
                         replace p799 := eq_true p799
                         replace q799 := eq_true q799
                         have p800 : 0 ≤ (x16_4 : Int) := of_decide_eq_true (by assumption)
                         have q800 : x16_4 < (t785.length : Int) := of_decide_eq_true (by assumption)
                         obtain ⟨ad800, e800, hx800_0⟩ := Kd.at_int (Kd.R_reads' HO_7.out).2.2 x16_4 p800 q800
                         obtain rfl : ad794 = ad800 := (by injection e800)
                         replace p800 := eq_true p800
                         replace q800 := eq_true q800
                         go_wp2
                         repeat (go_quiet (fail); try go_wp2)
                         go_roundg k4
                         case measure => have := HJ3.out; have := HJ12.out; have := HK3.out; have := HK4.out; omega
                         case rel => exact ⟨(ji34), (wrap64 (x16_4 + 1)), (by first | rfl | (simp; done) | (simp only [← hji34] <;> (first | rfl | (simp only [mn, mx, ite_self]; done) | simp)) | (simp [*]; done)), rfl, H', ⟨by have := HJ3.out; have := HJ12.out; have := HK3.out; have := HK4.out; omega⟩, ⟨by exact HO_7.out⟩, ⟨by (with_reducible repeat (first | refine blk_drewN ?_ _ | refine blk_drew ?_ | refine blk_alloc ?_ _)); exact BK792.out⟩, ⟨by repeat (first | (with_reducible first | exact HB.out | apply below_alloc | apply pw_below_drewN | apply below_drew1 | refine below_set ?_ GE792.out) | exact HB.out)⟩⟩
                        ·
                         rw [if_neg c33] at H
                         exact absurd H (by simp)
                      ·
                       rw [if_neg c31] at H
                       exact absurd H (by simp)
                     ·
                      rw [if_neg c30] at H
                      exact absurd H (by simp)
                    ·
                     rw [if_neg c29] at H
                     exact absurd H (by simp)
                   ·
                    rw [if_neg c28] at H
                    exact absurd H (by simp)
                  ·
                   rw [if_neg c27] at H
                   have c27b0 : decide (x16_4 < (l0.length : Int)) = false := decide_eq_false c27
                   clear c27
                   by_cases c36 : 0 ≤ x14_3
                   ·
                    rw [if_pos c36] at H
                    have c36b0 : decide (0 ≤ x14_3) = true := decide_eq_true c36
                    clear c36
                    by_cases c37 : x14_3 < (t785.length : Int)
                    ·
                     rw [if_pos c37] at H
                     have c37b0 : decide (x14_3 < (t785.length : Int)) = true := decide_eq_true c37
                     clear c37
                     by_cases c38 : x15_4 = (wrap64 (t789 + (rd t785 x14_3)))
                     ·
                      rw [if_pos c38] at H
                      have c38b0 : (x15_4 == (wrap64 (t789 + (rd t785 x14_3)))) = true := beq_iff_eq.mpr c38
                      clear c38
                      obtain ⟨ji39, hji39⟩ : ∃ j_ : Int, (mn x12_3 (rd t785 x14_3)) = j_ := ⟨_, rfl⟩
                      replace H : (l5LineEigen.l0 k4 l0 l1 a2 t785 (l0.length : Int) ji39 (mx x13_3 (rd t785 x14_3)) (wrap64 (x14_3 + 1)) t789 t790) = some r := by first | (rw [hji39] at H; exact H) | (simp only [hji39] at H ⊢; exact H)
                      have hji39_ : (if (rd t785 x14_3) < x12_3 then (rd t785 x14_3) else x12_3) = ji39 := hji39
                      obtain ⟨ji40, hji40⟩ : ∃ j_ : Int, (mx x13_3 (rd t785 x14_3)) = j_ := ⟨_, rfl⟩
                      replace H : (l5LineEigen.l0 k4 l0 l1 a2 t785 (l0.length : Int) ji39 ji40 (wrap64 (x14_3 + 1)) t789 t790) = some r := by first | (rw [hji40] at H; exact H) | (simp only [hji40] at H ⊢; exact H)
                      have hji40_ : (if x13_3 < (rd t785 x14_3) then (rd t785 x14_3) else x13_3) = ji40 := hji40
                      have H' := Aside0.mk H
                      clear H
                      have hcz41_0 : wr.cell? ⟨gb792, 0, none⟩ = some (.int .i64 t789) := (blk_cell BK792.out 0).trans rfl
                      have hcz41_1 : wr.cell? ⟨gb792, 1, none⟩ = some (.int .i64 t790) := (blk_cell BK792.out 1).trans rfl
                      have hfz41_0 := blk_frozen BK792.out 0
                      have hfz41_1 := blk_frozen BK792.out 1
                      have p801 : 0 ≤ (x14_3 : Int) := of_decide_eq_true (by assumption)
                      have q801 : x14_3 < (t785.length : Int) := of_decide_eq_true (by assumption)
                      obtain ⟨ad801, e801, hx801_0⟩ := Kd.at_int (Kd.R_reads' HO_7.out).2.2 x14_3 p801 q801
                      obtain rfl : ad794 = ad801 := (by injection e801)
                      replace p801 := eq_true p801
                      replace q801 := eq_true q801
                      have p802 : 0 ≤ (x14_3 : Int) := of_decide_eq_true (by assumption)
                      have q802 : x14_3 < (t785.length : Int) := of_decide_eq_true (by assumption)
                      obtain ⟨ad802, e802, hx802_0⟩ := Kd.at_int (Kd.R_reads' HO_7.out).2.2 x14_3 p802 q802
                      obtain rfl : ad794 = ad802 := (by injection e802)
                      replace p802 := eq_true p802
                      replace q802 := eq_true q802
                      have p803 : 0 ≤ (x14_3 : Int) := of_decide_eq_true (by assumption)
                      have q803 : x14_3 < (t785.length : Int) := of_decide_eq_true (by assumption)
                      obtain ⟨ad803, e803, hx803_0⟩ := Kd.at_int (Kd.R_reads' HO_7.out).2.2 x14_3 p803 q803
                      obtain rfl : ad794 = ad803 := (by injection e803)
                      replace p803 := eq_true p803
                      replace q803 := eq_true q803
                      go_wp2
                      repeat (go_quiet (fail); try go_wp2)
                      go_roundg k4
                      case measure => have := HJ3.out; have := HJ12.out; have := HK3.out; have := HK4.out; omega
                      case rel => exact ⟨(ji39), (ji40), (wrap64 (x14_3 + 1)), (by first | rfl | (simp; done) | (simp only [← hji39] <;> (first | rfl | (simp only [mn, mx, ite_self]; done) | simp)) | (simp [*]; done)), (by first | rfl | (simp; done) | (simp only [← hji40] <;> (first | rfl | (simp only [mn, mx, ite_self]; done) | simp)) | (simp [*]; done)), rfl, H', ⟨by have := HJ3.out; have := HJ12.out; have := HK3.out; have := HK4.out; omega⟩, ⟨by exact HO_7.out⟩, ⟨by (with_reducible repeat (first | refine blk_drewN ?_ _ | refine blk_drew ?_ | refine blk_alloc ?_ _)); exact BK792.out⟩, ⟨by repeat (first | (with_reducible first | exact HB.out | apply below_alloc | apply pw_below_drewN | apply below_drew1 | refine below_set ?_ GE792.out) | exact HB.out)⟩⟩
                     ·
                      rw [if_neg c38] at H
                      have c38b0 : (x15_4 == (wrap64 (t789 + (rd t785 x14_3)))) = false := beq_eq_false_iff_ne.mpr c38
                      obtain rfl := Option.some.inj H
                      have hcz42_0 : wr.cell? ⟨gb792, 0, none⟩ = some (.int .i64 t789) := (blk_cell BK792.out 0).trans rfl
                      have hcz42_1 : wr.cell? ⟨gb792, 1, none⟩ = some (.int .i64 t790) := (blk_cell BK792.out 1).trans rfl
                      have hfz42_0 := blk_frozen BK792.out 0
                      have hfz42_1 := blk_frozen BK792.out 1
                      have p801 : 0 ≤ (x14_3 : Int) := of_decide_eq_true (by assumption)
                      have q801 : x14_3 < (t785.length : Int) := of_decide_eq_true (by assumption)
                      obtain ⟨ad801, e801, hx801_0⟩ := Kd.at_int (Kd.R_reads' HO_7.out).2.2 x14_3 p801 q801
                      obtain rfl : ad794 = ad801 := (by injection e801)
                      replace p801 := eq_true p801
                      replace q801 := eq_true q801
                      go_wp2
                      repeat (go_quiet (fail); try go_wp2)
                      go_ret
                      exact ⟨rfl, by repeat (first | (with_reducible first | exact HB.out | apply below_alloc | apply pw_below_drewN | apply below_drew1 | refine below_set ?_ GE792.out) | exact HB.out)⟩
                    ·
                     rw [if_neg c37] at H
                     exact absurd H (by simp)
                   ·
                    rw [if_neg c36] at H
                    exact absurd H (by simp)
              ·
               rw [if_neg c26] at H
               have c26b0 : decide (x14_3 < (l0.length : Int)) = false := decide_eq_false c26
               clear c26
               have HC43 := Aside0.mk H
               clear H
               go_upto_region 23 with (fail)
               repeat (go_quiet (fail); go_upto_region 23 with (fail))
               go_cut [136] (fun v136 wc => ∃ (kq : Nat) (x136_42 : Bool), v136 = .bool x136_42 ∧ Aside0 (l5LineEigen.j4 kq l0 l1 a2 t785 (l0.length : Int) x12_3 x13_3 x136_42 t789 t790 = some r) ∧ Aside0 (kq ≤ k3) ∧ Aside0 (Kd.R (Kd.int .i64) 3 wc w.heap.size (fun _ => True) (.slice (some ad794) t785.length co25) t785) ∧ Aside0 (wc.heap[gb792]? = some (.cells #[.int .i64 t789, .int .i64 t790] 37 (0, 0))) ∧ Aside0 (Below w.heap.size w wc))
               case first =>
                have H := HC43.out
                clear HC43
                by_cases c44 : x12_3 = 0
                ·
                 rw [if_pos c44] at H
                 have c44b0 : (x12_3 == 0) = true := beq_iff_eq.mpr c44
                 have c44b1 : (x12_3 != 0) = false := bne_eq_false_iff_eq.mpr c44
                 clear c44
                 (first | rw [c44b0] | (simp only [i64_w, i32_w]; rw [c44b0]) | skip)
                 have H' := Aside0.mk H
                 clear H
                 go_wp2
                 repeat (go_quiet (fail); try go_wp2)
                 go_meet
                 case rel => exact ⟨_, (((l1.length : Int) != (l0.length : Int))), (by first | rfl | (simp; done) | (simp [*]; done)), H', ⟨by have := HJ3.out; have := HJ12.out; have := HK3.out; first | omega | exact Nat.le_refl _⟩, ⟨by (with_reducible repeat (first | apply Kd.R_alloc | apply Kd.R_drewN | apply Kd.R_drew)); exact HO_7.out⟩, ⟨by (with_reducible repeat (first | refine blk_drewN ?_ _ | refine blk_drew ?_ | refine blk_alloc ?_ _)); exact BK792.out⟩, ⟨by repeat (first | (with_reducible first | exact HB.out | apply below_alloc | apply pw_below_drewN | apply below_drew1 | refine below_set ?_ GE792.out) | exact HB.out)⟩⟩
                ·
                 rw [if_neg c44] at H
                 have c44b0 : (x12_3 == 0) = false := beq_eq_false_iff_ne.mpr c44
                 have c44b1 : (x12_3 != 0) = true := bne_iff_ne.mpr c44
                 (first | rw [c44b0] | (simp only [i64_w, i32_w]; rw [c44b0]) | skip)
                 have H' := Aside0.mk H
                 clear H
                 go_wp2
                 repeat (go_quiet (fail); try go_wp2)
                 go_meet
                 case rel => exact ⟨_, (true), (by first | rfl | (simp; done) | (simp [*]; done)), H', ⟨by have := HJ3.out; have := HJ12.out; have := HK3.out; first | omega | exact Nat.le_refl _⟩, ⟨by (with_reducible repeat (first | apply Kd.R_alloc | apply Kd.R_drewN | apply Kd.R_drew)); exact HO_7.out⟩, ⟨by (with_reducible repeat (first | refine blk_drewN ?_ _ | refine blk_drew ?_ | refine blk_alloc ?_ _)); exact BK792.out⟩, ⟨by repeat (first | (with_reducible first | exact HB.out | apply below_alloc | apply pw_below_drewN | apply below_drew1 | refine below_set ?_ GE792.out) | exact HB.out)⟩⟩
               case rest =>
                as_aux_lemma =>
                 clear HC43
                 obtain ⟨kq, x136_42, rfl, HA, HJ42, HO_7, BK792, HB⟩ := hcut
                 cases kq with
                 | zero => exact absurd HA.out (by simp [l5LineEigen.j4])
                 | succ kj42 =>
                  have H := HA.out
                  clear HA
                  simp only [l5LineEigen.j4] at H
                  by_cases c45 : x136_42 = true
                  ·
                   subst c45
                   have H1 : (if x12_3 = 0 then ((l5alive.f kj42).bind fun t804 => (some t804)) else (some false)) = some r := by rw [if_pos rfl] at H; exact H
                   clear H
                   have H := H1
                   clear H1
                   by_cases c46 : x12_3 = 0
                   ·
                    rw [if_pos c46] at H
                    have c46b0 : (x12_3 == 0) = true := beq_iff_eq.mpr c46
                    clear c46
                    replace H := Option.bind_eq_some_iff.mp H
                    obtain ⟨t804, A470, H⟩ := H
                    replace H : (some t804) = some r := H
                    have A47 := Aside0.mk A470
                    clear A470
                    obtain rfl := Option.some.inj H
                    go_wp2_with (first | (go_at_call 13; (with_reducible refine (l5alive.calls kj42  t804 _ A47.out).mono ?_); rintro e w48 ⟨rfl, hb⟩; have n0_ := Aside0.mk (Kd.R_below (by exact HO_7.out) hb); have n1_ := Aside0.mk (blk_below (g := gb792) (o := .cells #[.int .i64 t789, .int .i64 t790] 37 (0, 0)) (by (with_reducible repeat (first | refine blk_drewN ?_ _ | refine blk_drew ?_ | refine blk_alloc ?_ _)); exact BK792.out) hb); have n2_ := Aside0.mk (below_step (by repeat (first | (with_reducible first | exact HB.out | apply below_alloc | apply pw_below_drewN | apply below_drew1 | refine below_set ?_ GE792.out) | exact HB.out)) hb); clear HO_7; clear BK792; clear HB; have HO_7 := n0_; have BK792 := n1_; have HB := n2_; clear n0_ n1_ n2_))
                    repeat (go_quiet (first | (go_at_call 13; (with_reducible refine (l5alive.calls kj42  t804 _ A47.out).mono ?_); rintro e w48 ⟨rfl, hb⟩; have n0_ := Aside0.mk (Kd.R_below (by exact HO_7.out) hb); have n1_ := Aside0.mk (blk_below (g := gb792) (o := .cells #[.int .i64 t789, .int .i64 t790] 37 (0, 0)) (by (with_reducible repeat (first | refine blk_drewN ?_ _ | refine blk_drew ?_ | refine blk_alloc ?_ _)); exact BK792.out) hb); have n2_ := Aside0.mk (below_step (by repeat (first | (with_reducible first | exact HB.out | apply below_alloc | apply pw_below_drewN | apply below_drew1 | refine below_set ?_ GE792.out) | exact HB.out)) hb); clear HO_7; clear BK792; clear HB; have HO_7 := n0_; have BK792 := n1_; have HB := n2_; clear n0_ n1_ n2_)); try go_wp2_with (first | (go_at_call 13; (with_reducible refine (l5alive.calls kj42  t804 _ A47.out).mono ?_); rintro e w48 ⟨rfl, hb⟩; have n0_ := Aside0.mk (Kd.R_below (by exact HO_7.out) hb); have n1_ := Aside0.mk (blk_below (g := gb792) (o := .cells #[.int .i64 t789, .int .i64 t790] 37 (0, 0)) (by (with_reducible repeat (first | refine blk_drewN ?_ _ | refine blk_drew ?_ | refine blk_alloc ?_ _)); exact BK792.out) hb); have n2_ := Aside0.mk (below_step (by repeat (first | (with_reducible first | exact HB.out | apply below_alloc | apply pw_below_drewN | apply below_drew1 | refine below_set ?_ GE792.out) | exact HB.out)) hb); clear HO_7; clear BK792; clear HB; have HO_7 := n0_; have BK792 := n1_; have HB := n2_; clear n0_ n1_ n2_)))
                    go_ret
                    exact ⟨rfl, by repeat (first | (with_reducible first | exact HB.out | apply below_alloc | apply pw_below_drewN | apply below_drew1 | refine below_set ?_ GE792.out) | exact HB.out)⟩
                   ·
                    rw [if_neg c46] at H
                    have c46b0 : (x12_3 == 0) = false := beq_eq_false_iff_ne.mpr c46
                    exact absurd (H.trans (congrArg some hr_.out)) (by simp)
                  ·
                   replace c45 := Bool.eq_false_iff.mpr c45
                   subst c45
                   have H1 : (l5LineEigen.l2 kj42 l0 l1 a2 t785 (l0.length : Int) x13_3 0 0 0 t789 t790) = some r := by rw [if_neg (show ¬ (false = true) by decide)] at H; exact H
                   clear H
                   have H := H1
                   clear H1
                   have H' := Aside0.mk H
                   clear H
                   go_wp2
                   repeat (go_quiet (fail); try go_wp2)
                   go_loopg [17, 18, 19] kj42 (fun kq v17 v18 v19 w' => ∃ (x17_5 : Int) (x18_5 : Int) (x19_5 : Int), v17 = .int .i64 x17_5 ∧ v18 = .int .i64 x18_5 ∧ v19 = .int .i64 x19_5 ∧ Aside0 (l5LineEigen.l2 kq l0 l1 a2 t785 (l0.length : Int) x13_3 x17_5 x18_5 x19_5 t789 t790 = some r) ∧ Aside0 (kq ≤ kj42) ∧ Aside0 (Kd.R (Kd.int .i64) 3 w' w.heap.size (fun _ => True) (.slice (some ad794) t785.length co25) t785) ∧ Aside0 (w'.heap[gb792]? = some (.cells #[.int .i64 t789, .int .i64 t790] 37 (0, 0))) ∧ Aside0 (Below w.heap.size w w'))
                   case atStart => exact ⟨(0), (0), (0), rfl, rfl, rfl, H', ⟨Nat.le_refl _⟩, ⟨by exact HO_7.out⟩, ⟨by (with_reducible repeat (first | refine blk_drewN ?_ _ | refine blk_drew ?_ | refine blk_alloc ?_ _)); exact BK792.out⟩, ⟨by repeat (first | (with_reducible first | exact HB.out | apply below_alloc | apply pw_below_drewN | apply below_drew1 | refine below_set ?_ GE792.out) | exact HB.out)⟩⟩
                   case round =>
                    as_aux_lemma =>
                     clear H'
                     obtain ⟨x17_5, x18_5, x19_5, rfl, rfl, rfl, HA, HK5, HO_7, BK792, HB⟩ := hrel
                     cases gk with
                     | zero => exact absurd HA.out (by simp [l5LineEigen.l2])
                     | succ k5 =>
                      have H := HA.out
                      clear HA
                      simp only [l5LineEigen.l2] at H
                      by_cases c49 : x19_5 < (l0.length : Int)
                      ·
                       rw [if_pos c49] at H
                       have c49b0 : decide (x19_5 < (l0.length : Int)) = true := decide_eq_true c49
                       clear c49
                       have HC50 := Aside0.mk H
                       clear H
                       go_upto_region 29 with (fail)
                       repeat (go_quiet (fail); go_upto_region 29 with (fail))
                       go_cut [158] (fun v158 wc => ∃ (kq : Nat) (x158_49 : Bool), v158 = .bool x158_49 ∧ Aside0 (l5LineEigen.j6 kq l0 l1 a2 t785 (l0.length : Int) x13_3 x17_5 x18_5 x19_5 x158_49 t789 t790 = some r) ∧ Aside0 (kq ≤ k5) ∧ Aside0 (Kd.R (Kd.int .i64) 3 wc w.heap.size (fun _ => True) (.slice (some ad794) t785.length co25) t785) ∧ Aside0 (wc.heap[gb792]? = some (.cells #[.int .i64 t789, .int .i64 t790] 37 (0, 0))) ∧ Aside0 (Below w.heap.size w wc))
                       case first =>
                        as_aux_lemma =>
                         have H := HC50.out
                         clear HC50
                         by_cases c51 : 0 ≤ x19_5
                         ·
                          rw [if_pos c51] at H
                          have c51b0 : decide (0 ≤ x19_5) = true := decide_eq_true c51
                          clear c51
                          (first | rw [c51b0] | skip)
                          by_cases c52 : x19_5 < (l1.length : Int)
                          ·
                           rw [if_pos c52] at H
                           have c52b0 : decide (x19_5 < (l1.length : Int)) = true := decide_eq_true c52
                           clear c52
                           by_cases c53 : (rd l1 x19_5) < (-1000000)
                           ·
                            rw [if_pos c53] at H
                            have c53b0 : decide ((rd l1 x19_5) < (-1000000)) = true := decide_eq_true c53
                            clear c53
                            have H' := Aside0.mk H
                            clear H
                            have p805 : 0 ≤ (x19_5 : Int) := of_decide_eq_true (by assumption)
                            have q805 : x19_5 < (l1.length : Int) := of_decide_eq_true (by assumption)
                            obtain ⟨ad805, e805, hx805_0⟩ := Kd.at_int HR1.out x19_5 p805 q805
                            cases e805
                            replace hx805_0 := (HB.out.cell (World.block_lt_of_cell? w _ hx805_0)).trans hx805_0
                            replace p805 := eq_true p805
                            replace q805 := eq_true q805
                            go_wp2
                            repeat (go_quiet (fail); try go_wp2)
                            go_meet
                            case rel => exact ⟨_, (true), rfl, H', ⟨by have := HJ3.out; have := HJ12.out; have := HK3.out; have := HJ42.out; have := HK5.out; first | omega | exact Nat.le_refl _⟩, ⟨by exact HO_7.out⟩, ⟨by (with_reducible repeat (first | refine blk_drewN ?_ _ | refine blk_drew ?_ | refine blk_alloc ?_ _)); exact BK792.out⟩, ⟨by repeat (first | (with_reducible first | exact HB.out | apply below_alloc | apply pw_below_drewN | apply below_drew1 | refine below_set ?_ GE792.out) | exact HB.out)⟩⟩
                           ·
                            rw [if_neg c53] at H
                            have c53b0 : decide ((rd l1 x19_5) < (-1000000)) = false := decide_eq_false c53
                            clear c53
                            have H' := Aside0.mk H
                            clear H
                            have p805 : 0 ≤ (x19_5 : Int) := of_decide_eq_true (by assumption)
                            have q805 : x19_5 < (l1.length : Int) := of_decide_eq_true (by assumption)
                            obtain ⟨ad805, e805, hx805_0⟩ := Kd.at_int HR1.out x19_5 p805 q805
                            cases e805
                            replace hx805_0 := (HB.out.cell (World.block_lt_of_cell? w _ hx805_0)).trans hx805_0
                            replace p805 := eq_true p805
                            replace q805 := eq_true q805
                            have p806 : 0 ≤ (x19_5 : Int) := of_decide_eq_true (by assumption)
                            have q806 : x19_5 < (l1.length : Int) := of_decide_eq_true (by assumption)
                            obtain ⟨ad806, e806, hx806_0⟩ := Kd.at_int HR1.out x19_5 p806 q806
                            obtain rfl : ad805 = ad806 := (by injection e806)
                            replace hx806_0 := (HB.out.cell (World.block_lt_of_cell? w _ hx806_0)).trans hx806_0
                            replace p806 := eq_true p806
                            replace q806 := eq_true q806
                            go_wp2
                            repeat (go_quiet (fail); try go_wp2)
                            go_meet
                            case rel => exact ⟨_, (decide ((rd l1 x19_5) > 1000000)), rfl, H', ⟨by have := HJ3.out; have := HJ12.out; have := HK3.out; have := HJ42.out; have := HK5.out; first | omega | exact Nat.le_refl _⟩, ⟨by exact HO_7.out⟩, ⟨by (with_reducible repeat (first | refine blk_drewN ?_ _ | refine blk_drew ?_ | refine blk_alloc ?_ _)); exact BK792.out⟩, ⟨by repeat (first | (with_reducible first | exact HB.out | apply below_alloc | apply pw_below_drewN | apply below_drew1 | refine below_set ?_ GE792.out) | exact HB.out)⟩⟩
                          ·
                           rw [if_neg c52] at H
                           exact absurd H (by simp)
                         ·
                          rw [if_neg c51] at H
                          exact absurd H (by simp)
                       case rest =>
                        as_aux_lemma =>
                         clear HC50
                         obtain ⟨kq, x158_49, rfl, HA, HJ49, HO_7, BK792, HB⟩ := hcut
                         cases kq with
                         | zero => exact absurd HA.out (by simp [l5LineEigen.j6])
                         | succ kj49 =>
                          have H := HA.out
                          clear HA
                          simp only [l5LineEigen.j6] at H
                          by_cases c54 : x158_49 = true
                          ·
                           subst c54
                           have H1 : ((l5alive.f kj49).bind fun t807 => (some t807)) = some r := by rw [if_pos rfl] at H; exact H
                           clear H
                           have H := H1
                           clear H1
                           replace H := Option.bind_eq_some_iff.mp H
                           obtain ⟨t807, A550, H⟩ := H
                           replace H : (some t807) = some r := H
                           have A55 := Aside0.mk A550
                           clear A550
                           obtain rfl := Option.some.inj H
                           go_wp2_with (first | (go_at_call 13; (with_reducible refine (l5alive.calls kj49  t807 _ A55.out).mono ?_); rintro e w56 ⟨rfl, hb⟩; have n0_ := Aside0.mk (Kd.R_below (by exact HO_7.out) hb); have n1_ := Aside0.mk (blk_below (g := gb792) (o := .cells #[.int .i64 t789, .int .i64 t790] 37 (0, 0)) (by (with_reducible repeat (first | refine blk_drewN ?_ _ | refine blk_drew ?_ | refine blk_alloc ?_ _)); exact BK792.out) hb); have n2_ := Aside0.mk (below_step (by repeat (first | (with_reducible first | exact HB.out | apply below_alloc | apply pw_below_drewN | apply below_drew1 | refine below_set ?_ GE792.out) | exact HB.out)) hb); clear HO_7; clear BK792; clear HB; have HO_7 := n0_; have BK792 := n1_; have HB := n2_; clear n0_ n1_ n2_))
                           repeat (go_quiet (first | (go_at_call 13; (with_reducible refine (l5alive.calls kj49  t807 _ A55.out).mono ?_); rintro e w56 ⟨rfl, hb⟩; have n0_ := Aside0.mk (Kd.R_below (by exact HO_7.out) hb); have n1_ := Aside0.mk (blk_below (g := gb792) (o := .cells #[.int .i64 t789, .int .i64 t790] 37 (0, 0)) (by (with_reducible repeat (first | refine blk_drewN ?_ _ | refine blk_drew ?_ | refine blk_alloc ?_ _)); exact BK792.out) hb); have n2_ := Aside0.mk (below_step (by repeat (first | (with_reducible first | exact HB.out | apply below_alloc | apply pw_below_drewN | apply below_drew1 | refine below_set ?_ GE792.out) | exact HB.out)) hb); clear HO_7; clear BK792; clear HB; have HO_7 := n0_; have BK792 := n1_; have HB := n2_; clear n0_ n1_ n2_)); try go_wp2_with (first | (go_at_call 13; (with_reducible refine (l5alive.calls kj49  t807 _ A55.out).mono ?_); rintro e w56 ⟨rfl, hb⟩; have n0_ := Aside0.mk (Kd.R_below (by exact HO_7.out) hb); have n1_ := Aside0.mk (blk_below (g := gb792) (o := .cells #[.int .i64 t789, .int .i64 t790] 37 (0, 0)) (by (with_reducible repeat (first | refine blk_drewN ?_ _ | refine blk_drew ?_ | refine blk_alloc ?_ _)); exact BK792.out) hb); have n2_ := Aside0.mk (below_step (by repeat (first | (with_reducible first | exact HB.out | apply below_alloc | apply pw_below_drewN | apply below_drew1 | refine below_set ?_ GE792.out) | exact HB.out)) hb); clear HO_7; clear BK792; clear HB; have HO_7 := n0_; have BK792 := n1_; have HB := n2_; clear n0_ n1_ n2_)))
                           go_ret
                           exact ⟨rfl, by repeat (first | (with_reducible first | exact HB.out | apply below_alloc | apply pw_below_drewN | apply below_drew1 | refine below_set ?_ GE792.out) | exact HB.out)⟩
                          ·
                           replace c54 := Bool.eq_false_iff.mpr c54
                           subst c54
                           have H1 : (if 0 ≤ x19_5 then (if x19_5 < (l1.length : Int) then (if x19_5 < (t785.length : Int) then (if x19_5 = 0 then (l5LineEigen.l2 kj49 l0 l1 a2 t785 (l0.length : Int) x13_3 (mn (wrap64 ((wrap64 (t790 * (rd l1 x19_5))) - (rd t785 x19_5))) (wrap64 ((wrap64 (t790 * (rd l1 x19_5))) - (rd t785 x19_5)))) (mx (wrap64 ((wrap64 (t790 * (rd l1 x19_5))) - (rd t785 x19_5))) (wrap64 ((wrap64 (t790 * (rd l1 x19_5))) - (rd t785 x19_5)))) (wrap64 (x19_5 + 1)) t789 t790) else (l5LineEigen.l2 kj49 l0 l1 a2 t785 (l0.length : Int) x13_3 (mn x17_5 (wrap64 ((wrap64 (t790 * (rd l1 x19_5))) - (rd t785 x19_5)))) (mx x18_5 (wrap64 ((wrap64 (t790 * (rd l1 x19_5))) - (rd t785 x19_5)))) (wrap64 (x19_5 + 1)) t789 t790)) else (none)) else (none)) else (none)) = some r := by rw [if_neg (show ¬ (false = true) by decide)] at H; exact H
                           clear H
                           have H := H1
                           clear H1
                           by_cases c57 : 0 ≤ x19_5
                           ·
                            rw [if_pos c57] at H
                            have c57b0 : decide (0 ≤ x19_5) = true := decide_eq_true c57
                            clear c57
                            by_cases c58 : x19_5 < (l1.length : Int)
                            ·
                             rw [if_pos c58] at H
                             have c58b0 : decide (x19_5 < (l1.length : Int)) = true := decide_eq_true c58
                             clear c58
                             by_cases c59 : x19_5 < (t785.length : Int)
                             ·
                              rw [if_pos c59] at H
                              have c59b0 : decide (x19_5 < (t785.length : Int)) = true := decide_eq_true c59
                              clear c59
                              by_cases c60 : x19_5 = 0
                              ·
                               rw [if_pos c60] at H
                               have c60b0 : (x19_5 == 0) = true := beq_iff_eq.mpr c60
                               clear c60
                               obtain ⟨ji61, hji61⟩ : ∃ j_ : Int, (mn (wrap64 ((wrap64 (t790 * (rd l1 x19_5))) - (rd t785 x19_5))) (wrap64 ((wrap64 (t790 * (rd l1 x19_5))) - (rd t785 x19_5)))) = j_ := ⟨_, rfl⟩
                               replace H : (l5LineEigen.l2 kj49 l0 l1 a2 t785 (l0.length : Int) x13_3 ji61 (mx (wrap64 ((wrap64 (t790 * (rd l1 x19_5))) - (rd t785 x19_5))) (wrap64 ((wrap64 (t790 * (rd l1 x19_5))) - (rd t785 x19_5)))) (wrap64 (x19_5 + 1)) t789 t790) = some r := by first | (rw [hji61] at H; exact H) | (simp only [hji61] at H ⊢; exact H)
                               have hji61_ : (if (wrap64 ((wrap64 (t790 * (rd l1 x19_5))) - (rd t785 x19_5))) < (wrap64 ((wrap64 (t790 * (rd l1 x19_5))) - (rd t785 x19_5))) then (wrap64 ((wrap64 (t790 * (rd l1 x19_5))) - (rd t785 x19_5))) else (wrap64 ((wrap64 (t790 * (rd l1 x19_5))) - (rd t785 x19_5)))) = ji61 := hji61
                               obtain ⟨ji62, hji62⟩ : ∃ j_ : Int, (mx (wrap64 ((wrap64 (t790 * (rd l1 x19_5))) - (rd t785 x19_5))) (wrap64 ((wrap64 (t790 * (rd l1 x19_5))) - (rd t785 x19_5)))) = j_ := ⟨_, rfl⟩
                               replace H : (l5LineEigen.l2 kj49 l0 l1 a2 t785 (l0.length : Int) x13_3 ji61 ji62 (wrap64 (x19_5 + 1)) t789 t790) = some r := by first | (rw [hji62] at H; exact H) | (simp only [hji62] at H ⊢; exact H)
                               have hji62_ : (if (wrap64 ((wrap64 (t790 * (rd l1 x19_5))) - (rd t785 x19_5))) < (wrap64 ((wrap64 (t790 * (rd l1 x19_5))) - (rd t785 x19_5))) then (wrap64 ((wrap64 (t790 * (rd l1 x19_5))) - (rd t785 x19_5))) else (wrap64 ((wrap64 (t790 * (rd l1 x19_5))) - (rd t785 x19_5)))) = ji62 := hji62
                               have H' := Aside0.mk H
                               clear H
                               have hcz63_0 : wc.cell? ⟨gb792, 0, none⟩ = some (.int .i64 t789) := (blk_cell BK792.out 0).trans rfl
                               have hcz63_1 : wc.cell? ⟨gb792, 1, none⟩ = some (.int .i64 t790) := (blk_cell BK792.out 1).trans rfl
                               have hfz63_0 := blk_frozen BK792.out 0
                               have hfz63_1 := blk_frozen BK792.out 1
                               have p808 : 0 ≤ (x19_5 : Int) := of_decide_eq_true (by assumption)
                               have q808 : x19_5 < (l1.length : Int) := of_decide_eq_true (by assumption)
                               obtain ⟨ad808, e808, hx808_0⟩ := Kd.at_int HR1.out x19_5 p808 q808
                               cases e808
                               replace hx808_0 := (HB.out.cell (World.block_lt_of_cell? w _ hx808_0)).trans hx808_0
                               replace p808 := eq_true p808
                               replace q808 := eq_true q808
                               have p809 : 0 ≤ (x19_5 : Int) := of_decide_eq_true (by assumption)
                               have q809 : x19_5 < (t785.length : Int) := of_decide_eq_true (by assumption)
                               obtain ⟨ad809, e809, hx809_0⟩ := Kd.at_int (Kd.R_reads' HO_7.out).2.2 x19_5 p809 q809
                               obtain rfl : ad794 = ad809 := (by injection e809)
                               replace p809 := eq_true p809
                               replace q809 := eq_true q809
                               go_wp2
                               repeat (go_quiet (fail); try go_wp2)
                               go_roundg kj49
                               case measure => have := HJ3.out; have := HJ12.out; have := HK3.out; have := HJ42.out; have := HK5.out; have := HJ49.out; omega
                               case rel => exact ⟨(ji61), (ji62), (wrap64 (x19_5 + 1)), (by first | rfl | (simp; done) | (simp only [← hji61] <;> (first | rfl | (simp only [mn, mx, ite_self]; done) | simp)) | (simp [*]; done)), (by first | rfl | (simp; done) | (simp only [← hji62] <;> (first | rfl | (simp only [mn, mx, ite_self]; done) | simp)) | (simp [*]; done)), rfl, H', ⟨by have := HJ3.out; have := HJ12.out; have := HK3.out; have := HJ42.out; have := HK5.out; have := HJ49.out; omega⟩, ⟨by exact HO_7.out⟩, ⟨by (with_reducible repeat (first | refine blk_drewN ?_ _ | refine blk_drew ?_ | refine blk_alloc ?_ _)); exact BK792.out⟩, ⟨by repeat (first | (with_reducible first | exact HB.out | apply below_alloc | apply pw_below_drewN | apply below_drew1 | refine below_set ?_ GE792.out) | exact HB.out)⟩⟩
                              ·
                               rw [if_neg c60] at H
                               have c60b0 : (x19_5 == 0) = false := beq_eq_false_iff_ne.mpr c60
                               obtain ⟨ji64, hji64⟩ : ∃ j_ : Int, (mn x17_5 (wrap64 ((wrap64 (t790 * (rd l1 x19_5))) - (rd t785 x19_5)))) = j_ := ⟨_, rfl⟩
                               replace H : (l5LineEigen.l2 kj49 l0 l1 a2 t785 (l0.length : Int) x13_3 ji64 (mx x18_5 (wrap64 ((wrap64 (t790 * (rd l1 x19_5))) - (rd t785 x19_5)))) (wrap64 (x19_5 + 1)) t789 t790) = some r := by first | (rw [hji64] at H; exact H) | (simp only [hji64] at H ⊢; exact H)
                               have hji64_ : (if (wrap64 ((wrap64 (t790 * (rd l1 x19_5))) - (rd t785 x19_5))) < x17_5 then (wrap64 ((wrap64 (t790 * (rd l1 x19_5))) - (rd t785 x19_5))) else x17_5) = ji64 := hji64
                               obtain ⟨ji65, hji65⟩ : ∃ j_ : Int, (mx x18_5 (wrap64 ((wrap64 (t790 * (rd l1 x19_5))) - (rd t785 x19_5)))) = j_ := ⟨_, rfl⟩
                               replace H : (l5LineEigen.l2 kj49 l0 l1 a2 t785 (l0.length : Int) x13_3 ji64 ji65 (wrap64 (x19_5 + 1)) t789 t790) = some r := by first | (rw [hji65] at H; exact H) | (simp only [hji65] at H ⊢; exact H)
                               have hji65_ : (if x18_5 < (wrap64 ((wrap64 (t790 * (rd l1 x19_5))) - (rd t785 x19_5))) then (wrap64 ((wrap64 (t790 * (rd l1 x19_5))) - (rd t785 x19_5))) else x18_5) = ji65 := hji65
                               have H' := Aside0.mk H
                               clear H
                               have hcz66_0 : wc.cell? ⟨gb792, 0, none⟩ = some (.int .i64 t789) := (blk_cell BK792.out 0).trans rfl
                               have hcz66_1 : wc.cell? ⟨gb792, 1, none⟩ = some (.int .i64 t790) := (blk_cell BK792.out 1).trans rfl
                               have hfz66_0 := blk_frozen BK792.out 0
                               have hfz66_1 := blk_frozen BK792.out 1
                               have p808 : 0 ≤ (x19_5 : Int) := of_decide_eq_true (by assumption)
                               have q808 : x19_5 < (l1.length : Int) := of_decide_eq_true (by assumption)
                               obtain ⟨ad808, e808, hx808_0⟩ := Kd.at_int HR1.out x19_5 p808 q808
                               cases e808
                               replace hx808_0 := (HB.out.cell (World.block_lt_of_cell? w _ hx808_0)).trans hx808_0
                               replace p808 := eq_true p808
                               replace q808 := eq_true q808
                               have p809 : 0 ≤ (x19_5 : Int) := of_decide_eq_true (by assumption)
                               have q809 : x19_5 < (t785.length : Int) := of_decide_eq_true (by assumption)
                               obtain ⟨ad809, e809, hx809_0⟩ := Kd.at_int (Kd.R_reads' HO_7.out).2.2 x19_5 p809 q809
                               obtain rfl : ad794 = ad809 := (by injection e809)
                               replace p809 := eq_true p809
                               replace q809 := eq_true q809
                               go_wp2
                               repeat (go_quiet (fail); try go_wp2)
                               go_roundg kj49
                               case measure => have := HJ3.out; have := HJ12.out; have := HK3.out; have := HJ42.out; have := HK5.out; have := HJ49.out; omega
                               case rel => exact ⟨(ji64), (ji65), (wrap64 (x19_5 + 1)), (by first | rfl | (simp; done) | (simp only [← hji64] <;> (first | rfl | (simp only [mn, mx, ite_self]; done) | simp)) | (simp [*]; done)), (by first | rfl | (simp; done) | (simp only [← hji65] <;> (first | rfl | (simp only [mn, mx, ite_self]; done) | simp)) | (simp [*]; done)), rfl, H', ⟨by have := HJ3.out; have := HJ12.out; have := HK3.out; have := HJ42.out; have := HK5.out; have := HJ49.out; omega⟩, ⟨by exact HO_7.out⟩, ⟨by (with_reducible repeat (first | refine blk_drewN ?_ _ | refine blk_drew ?_ | refine blk_alloc ?_ _)); exact BK792.out⟩, ⟨by repeat (first | (with_reducible first | exact HB.out | apply below_alloc | apply pw_below_drewN | apply below_drew1 | refine below_set ?_ GE792.out) | exact HB.out)⟩⟩
                             ·
                              rw [if_neg c59] at H
                              exact absurd H (by simp)
                            ·
                             rw [if_neg c58] at H
                             exact absurd H (by simp)
                           ·
                            rw [if_neg c57] at H
                            exact absurd H (by simp)
                      ·
                       rw [if_neg c49] at H
                       have c49b0 : decide (x19_5 < (l0.length : Int)) = false := decide_eq_false c49
                       clear c49
                       replace H := Option.bind_eq_some_iff.mp H
                       obtain ⟨⟨t810, t811⟩, A670, H⟩ := H
                       replace H : (if t811 = 0 then (l5LineEigen.j7 k5 t785 (l0.length : Int) x13_3 x17_5 x18_5 (wrap64 (Int.tmod a2 1000)) t810 ((t810.length : Int) != (l0.length : Int)) t789 t790) else (l5LineEigen.j7 k5 t785 (l0.length : Int) x13_3 x17_5 x18_5 (wrap64 (Int.tmod a2 1000)) t810 true t789 t790)) = some r := H
                       have A67 := Aside0.mk A670
                       clear A670
                       have HC68 := Aside0.mk H
                       clear H
                       go_upto_region 37 with (first | (go_at_call 27; (with_reducible refine (line_Run.calls k5 _ _ l0 _ _ l1 (wrap64 (Int.tmod a2 1000)) t810 t811 _ ?side1 ?side2 ?side3 ?side4 A67.out).mono ?_); (case side1 => repeat (first | exact (Kd.C_below HR0.out HB.out) | (with_reducible refine Kd.C_alloc ?_ _) | (with_reducible refine Kd.C_drewN ?_ _) | (with_reducible refine Kd.C_drew ?_))); (case side2 => exact HC0.out); (case side3 => repeat (first | exact (Kd.C_below HR1.out HB.out) | (with_reducible refine Kd.C_alloc ?_ _) | (with_reducible refine Kd.C_drewN ?_ _) | (with_reducible refine Kd.C_drew ?_))); (case side4 => exact HC1.out); rintro e w69 ⟨v812, rfl, ho0, hb⟩; have n0_ := Aside0.mk (Kd.R_elder' (by (with_reducible repeat (first | apply Kd.R_alloc | apply Kd.R_drewN | apply Kd.R_drew)); exact HO_7.out) (Kd.R_base ho0) hb); have n1_ := Aside0.mk (Kd.R_lower (Kd.R_new' ho0 (Kd.R_lt (by (with_reducible repeat (first | apply Kd.R_alloc | apply Kd.R_drewN | apply Kd.R_drew)); exact HO_7.out))) (below_size (by repeat (first | (with_reducible first | exact HB.out | apply below_alloc | apply pw_below_drewN | apply below_drew1 | refine below_set ?_ GE792.out) | exact HB.out)))); have n2_ := Aside0.mk (blk_below (g := gb792) (o := .cells #[.int .i64 t789, .int .i64 t790] 37 (0, 0)) (by (with_reducible repeat (first | refine blk_drewN ?_ _ | refine blk_drew ?_ | refine blk_alloc ?_ _)); exact BK792.out) hb); have n3_ := Aside0.mk (below_step (by repeat (first | (with_reducible first | exact HB.out | apply below_alloc | apply pw_below_drewN | apply below_drew1 | refine below_set ?_ GE792.out) | exact HB.out)) hb); clear HO_7; clear BK792; clear HB; have HO_7 := n0_; have HO813 := n1_; have BK792 := n2_; have HB := n3_; clear n0_ n1_ n2_ n3_; (try clear hb); (try clear hb2); (try clear hk); (try clear hi); (try clear ho0)))
                       repeat (go_quiet (first | (go_at_call 27; (with_reducible refine (line_Run.calls k5 _ _ l0 _ _ l1 (wrap64 (Int.tmod a2 1000)) t810 t811 _ ?side1 ?side2 ?side3 ?side4 A67.out).mono ?_); (case side1 => repeat (first | exact (Kd.C_below HR0.out HB.out) | (with_reducible refine Kd.C_alloc ?_ _) | (with_reducible refine Kd.C_drewN ?_ _) | (with_reducible refine Kd.C_drew ?_))); (case side2 => exact HC0.out); (case side3 => repeat (first | exact (Kd.C_below HR1.out HB.out) | (with_reducible refine Kd.C_alloc ?_ _) | (with_reducible refine Kd.C_drewN ?_ _) | (with_reducible refine Kd.C_drew ?_))); (case side4 => exact HC1.out); rintro e w69 ⟨v812, rfl, ho0, hb⟩; have n0_ := Aside0.mk (Kd.R_elder' (by (with_reducible repeat (first | apply Kd.R_alloc | apply Kd.R_drewN | apply Kd.R_drew)); exact HO_7.out) (Kd.R_base ho0) hb); have n1_ := Aside0.mk (Kd.R_lower (Kd.R_new' ho0 (Kd.R_lt (by (with_reducible repeat (first | apply Kd.R_alloc | apply Kd.R_drewN | apply Kd.R_drew)); exact HO_7.out))) (below_size (by repeat (first | (with_reducible first | exact HB.out | apply below_alloc | apply pw_below_drewN | apply below_drew1 | refine below_set ?_ GE792.out) | exact HB.out)))); have n2_ := Aside0.mk (blk_below (g := gb792) (o := .cells #[.int .i64 t789, .int .i64 t790] 37 (0, 0)) (by (with_reducible repeat (first | refine blk_drewN ?_ _ | refine blk_drew ?_ | refine blk_alloc ?_ _)); exact BK792.out) hb); have n3_ := Aside0.mk (below_step (by repeat (first | (with_reducible first | exact HB.out | apply below_alloc | apply pw_below_drewN | apply below_drew1 | refine below_set ?_ GE792.out) | exact HB.out)) hb); clear HO_7; clear BK792; clear HB; have HO_7 := n0_; have HO813 := n1_; have BK792 := n2_; have HB := n3_; clear n0_ n1_ n2_ n3_; (try clear hb); (try clear hb2); (try clear hk); (try clear hi); (try clear ho0))); go_upto_region 37 with (first | (go_at_call 27; (with_reducible refine (line_Run.calls k5 _ _ l0 _ _ l1 (wrap64 (Int.tmod a2 1000)) t810 t811 _ ?side1 ?side2 ?side3 ?side4 A67.out).mono ?_); (case side1 => repeat (first | exact (Kd.C_below HR0.out HB.out) | (with_reducible refine Kd.C_alloc ?_ _) | (with_reducible refine Kd.C_drewN ?_ _) | (with_reducible refine Kd.C_drew ?_))); (case side2 => exact HC0.out); (case side3 => repeat (first | exact (Kd.C_below HR1.out HB.out) | (with_reducible refine Kd.C_alloc ?_ _) | (with_reducible refine Kd.C_drewN ?_ _) | (with_reducible refine Kd.C_drew ?_))); (case side4 => exact HC1.out); rintro e w69 ⟨v812, rfl, ho0, hb⟩; have n0_ := Aside0.mk (Kd.R_elder' (by (with_reducible repeat (first | apply Kd.R_alloc | apply Kd.R_drewN | apply Kd.R_drew)); exact HO_7.out) (Kd.R_base ho0) hb); have n1_ := Aside0.mk (Kd.R_lower (Kd.R_new' ho0 (Kd.R_lt (by (with_reducible repeat (first | apply Kd.R_alloc | apply Kd.R_drewN | apply Kd.R_drew)); exact HO_7.out))) (below_size (by repeat (first | (with_reducible first | exact HB.out | apply below_alloc | apply pw_below_drewN | apply below_drew1 | refine below_set ?_ GE792.out) | exact HB.out)))); have n2_ := Aside0.mk (blk_below (g := gb792) (o := .cells #[.int .i64 t789, .int .i64 t790] 37 (0, 0)) (by (with_reducible repeat (first | refine blk_drewN ?_ _ | refine blk_drew ?_ | refine blk_alloc ?_ _)); exact BK792.out) hb); have n3_ := Aside0.mk (below_step (by repeat (first | (with_reducible first | exact HB.out | apply below_alloc | apply pw_below_drewN | apply below_drew1 | refine below_set ?_ GE792.out) | exact HB.out)) hb); clear HO_7; clear BK792; clear HB; have HO_7 := n0_; have HO813 := n1_; have BK792 := n2_; have HB := n3_; clear n0_ n1_ n2_ n3_; (try clear hb); (try clear hb2); (try clear hk); (try clear hi); (try clear ho0))))
                       (try simp only [Act.put, List.setIfInBounds_toArray, List.set_cons_zero, List.set_cons_succ])
                       go_cut [199] (fun v199 wc => ∃ (kq : Nat) (x199_67 : Bool), v199 = .bool x199_67 ∧ Aside0 (l5LineEigen.j7 kq t785 (l0.length : Int) x13_3 x17_5 x18_5 (wrap64 (Int.tmod a2 1000)) t810 x199_67 t789 t790 = some r) ∧ Aside0 (kq ≤ k5) ∧ Aside0 (Kd.R (Kd.int .i64) 3 wc w.heap.size (fun k_ => some k_ ≠ (v812 : Value).ownBlock) (.slice (some ad794) t785.length co25) t785) ∧ Aside0 (Kd.R (Kd.int .i64) 3 wc w.heap.size (fun k_ => some k_ ≠ ((.slice (some ad794) t785.length co25) : Value).ownBlock) v812 t810) ∧ Aside0 (wc.heap[gb792]? = some (.cells #[.int .i64 t789, .int .i64 t790] 37 (0, 0))) ∧ Aside0 (Below w.heap.size w wc))
                       case first =>
                        as_aux_lemma =>
                         have H := HC68.out
                         clear HC68
                         by_cases c70 : t811 = 0
                         ·
                          rw [if_pos c70] at H
                          have c70b0 : (t811 == 0) = true := beq_iff_eq.mpr c70
                          have c70b1 : (t811 != 0) = false := bne_eq_false_iff_eq.mpr c70
                          clear c70
                          (first | rw [c70b0] | (simp only [i64_w, i32_w]; rw [c70b0]) | skip)
                          have H' := Aside0.mk H
                          clear H
                          obtain ⟨Ao71, co71, eo71⟩ := Kd.R_slice HO813.out
                          subst eo71
                          go_wp2
                          repeat (go_quiet (fail); try go_wp2)
                          go_meet
                          case rel => exact ⟨_, (((t810.length : Int) != (l0.length : Int))), (by first | rfl | (simp; done) | (simp [*]; done)), H', ⟨by have := HJ3.out; have := HJ12.out; have := HK3.out; have := HJ42.out; have := HK5.out; first | omega | exact Nat.le_refl _⟩, ⟨by (with_reducible repeat (first | apply Kd.R_alloc | apply Kd.R_drewN | apply Kd.R_drew)); exact Kd.R_mono HO_7.out (fun _ hk => hk.2)⟩, ⟨by (with_reducible repeat (first | apply Kd.R_alloc | apply Kd.R_drewN | apply Kd.R_drew)); exact Kd.R_mono HO813.out (fun _ hk => hk.2)⟩, ⟨by (with_reducible repeat (first | refine blk_drewN ?_ _ | refine blk_drew ?_ | refine blk_alloc ?_ _)); exact BK792.out⟩, ⟨by repeat (first | (with_reducible first | exact HB.out | apply below_alloc | apply pw_below_drewN | apply below_drew1 | refine below_set ?_ GE792.out) | exact HB.out)⟩⟩
                         ·
                          rw [if_neg c70] at H
                          have c70b0 : (t811 == 0) = false := beq_eq_false_iff_ne.mpr c70
                          have c70b1 : (t811 != 0) = true := bne_iff_ne.mpr c70
                          (first | rw [c70b0] | (simp only [i64_w, i32_w]; rw [c70b0]) | skip)
                          have H' := Aside0.mk H
                          clear H
                          go_wp2
                          repeat (go_quiet (fail); try go_wp2)
                          go_meet
                          case rel => exact ⟨_, (true), (by first | rfl | (simp; done) | (simp [*]; done)), H', ⟨by have := HJ3.out; have := HJ12.out; have := HK3.out; have := HJ42.out; have := HK5.out; first | omega | exact Nat.le_refl _⟩, ⟨by (with_reducible repeat (first | apply Kd.R_alloc | apply Kd.R_drewN | apply Kd.R_drew)); exact Kd.R_mono HO_7.out (fun _ hk => hk.2)⟩, ⟨by (with_reducible repeat (first | apply Kd.R_alloc | apply Kd.R_drewN | apply Kd.R_drew)); exact Kd.R_mono HO813.out (fun _ hk => hk.2)⟩, ⟨by (with_reducible repeat (first | refine blk_drewN ?_ _ | refine blk_drew ?_ | refine blk_alloc ?_ _)); exact BK792.out⟩, ⟨by repeat (first | (with_reducible first | exact HB.out | apply below_alloc | apply pw_below_drewN | apply below_drew1 | refine below_set ?_ GE792.out) | exact HB.out)⟩⟩
                       case rest =>
                        as_aux_lemma =>
                         clear HC68
                         obtain ⟨kq, x199_67, rfl, HA, HJ67, HO_7, HO_22, BK792, HB⟩ := hcut
                         cases kq with
                         | zero => exact absurd HA.out (by simp [l5LineEigen.j7])
                         | succ kj67 =>
                          have H := HA.out
                          clear HA
                          simp only [l5LineEigen.j7] at H
                          by_cases c72 : x199_67 = true
                          ·
                           subst c72
                           have H1 : (some false) = some r := by rw [if_pos rfl] at H; exact H
                           clear H
                           have H := H1
                           clear H1
                           exact absurd (H.trans (congrArg some hr_.out)) (by simp)
                          ·
                           replace c72 := Bool.eq_false_iff.mpr c72
                           subst c72
                           have H1 : (l5LineEigen.l3 kj67 t785 (l0.length : Int) x13_3 x17_5 x18_5 (wrap64 (Int.tmod a2 1000)) t810 0 t789 t790) = some r := by rw [if_neg (show ¬ (false = true) by decide)] at H; exact H
                           clear H
                           have H := H1
                           clear H1
                           have H' := Aside0.mk H
                           clear H
                           go_wp2
                           repeat (go_quiet (fail); try go_wp2)
                           go_loopg [23] kj67 (fun kq v23 w' => ∃ (x23_7 : Int), v23 = .int .i64 x23_7 ∧ Aside0 (l5LineEigen.l3 kq t785 (l0.length : Int) x13_3 x17_5 x18_5 (wrap64 (Int.tmod a2 1000)) t810 x23_7 t789 t790 = some r) ∧ Aside0 (kq ≤ kj67) ∧ Aside0 (Kd.R (Kd.int .i64) 3 w' w.heap.size (fun k_ => some k_ ≠ (v812 : Value).ownBlock) (.slice (some ad794) t785.length co25) t785) ∧ Aside0 (Kd.R (Kd.int .i64) 3 w' w.heap.size (fun k_ => some k_ ≠ ((.slice (some ad794) t785.length co25) : Value).ownBlock) v812 t810) ∧ Aside0 (w'.heap[gb792]? = some (.cells #[.int .i64 t789, .int .i64 t790] 37 (0, 0))) ∧ Aside0 (Below w.heap.size w w'))
                           case atStart => exact ⟨(0), rfl, H', ⟨Nat.le_refl _⟩, ⟨by exact HO_7.out⟩, ⟨by exact HO_22.out⟩, ⟨by (with_reducible repeat (first | refine blk_drewN ?_ _ | refine blk_drew ?_ | refine blk_alloc ?_ _)); exact BK792.out⟩, ⟨by repeat (first | (with_reducible first | exact HB.out | apply below_alloc | apply pw_below_drewN | apply below_drew1 | refine below_set ?_ GE792.out) | exact HB.out)⟩⟩
                           case round =>
                            as_aux_lemma =>
                             clear H'
                             obtain ⟨x23_7, rfl, HA, HK7, HO_7, HO_22, BK792, HB⟩ := hrel
                             cases gk with
                             | zero => exact absurd HA.out (by simp [l5LineEigen.l3])
                             | succ k7 =>
                              have H := HA.out
                              clear HA
                              simp only [l5LineEigen.l3] at H
                              by_cases c73 : x23_7 < (l0.length : Int)
                              ·
                               rw [if_pos c73] at H
                               have c73b0 : decide (x23_7 < (l0.length : Int)) = true := decide_eq_true c73
                               clear c73
                               by_cases c74 : 0 ≤ x23_7
                               ·
                                rw [if_pos c74] at H
                                have c74b0 : decide (0 ≤ x23_7) = true := decide_eq_true c74
                                clear c74
                                by_cases c75 : x23_7 < (t810.length : Int)
                                ·
                                 rw [if_pos c75] at H
                                 have c75b0 : decide (x23_7 < (t810.length : Int)) = true := decide_eq_true c75
                                 clear c75
                                 by_cases c76 : x23_7 < (t785.length : Int)
                                 ·
                                  rw [if_pos c76] at H
                                  have c76b0 : decide (x23_7 < (t785.length : Int)) = true := decide_eq_true c76
                                  clear c76
                                  by_cases c77 : (wrap64 ((wrap64 ((wrap64 (t790 * (rd t810 x23_7))) - (wrap64 ((wrap64 (Int.tmod a2 1000)) * t789)))) - (rd t785 x23_7))) < x17_5
                                  ·
                                   rw [if_pos c77] at H
                                   have c77b0 : decide ((wrap64 ((wrap64 ((wrap64 (t790 * (rd t810 x23_7))) - (wrap64 ((wrap64 (Int.tmod a2 1000)) * t789)))) - (rd t785 x23_7))) < x17_5) = true := decide_eq_true c77
                                   clear c77
                                   obtain rfl := Option.some.inj H
                                   have hcz78_0 : wr.cell? ⟨gb792, 0, none⟩ = some (.int .i64 t789) := (blk_cell BK792.out 0).trans rfl
                                   have hcz78_1 : wr.cell? ⟨gb792, 1, none⟩ = some (.int .i64 t790) := (blk_cell BK792.out 1).trans rfl
                                   have hfz78_0 := blk_frozen BK792.out 0
                                   have hfz78_1 := blk_frozen BK792.out 1
                                   obtain ⟨Ao79, co79, eo79⟩ := Kd.R_slice HO_22.out
                                   subst eo79
                                   have p814 : 0 ≤ (x23_7 : Int) := of_decide_eq_true (by assumption)
                                   have q814 : x23_7 < (t810.length : Int) := of_decide_eq_true (by assumption)
                                   obtain ⟨ad814, e814, hx814_0⟩ := Kd.at_int (Kd.R_reads' HO_22.out).2.2 x23_7 p814 q814
                                   cases e814
                                   replace p814 := eq_true p814
                                   replace q814 := eq_true q814
                                   have p815 : 0 ≤ (x23_7 : Int) := of_decide_eq_true (by assumption)
                                   have q815 : x23_7 < (t785.length : Int) := of_decide_eq_true (by assumption)
                                   obtain ⟨ad815, e815, hx815_0⟩ := Kd.at_int (Kd.R_reads' HO_7.out).2.2 x23_7 p815 q815
                                   obtain rfl : ad794 = ad815 := (by injection e815)
                                   replace p815 := eq_true p815
                                   replace q815 := eq_true q815
                                   go_wp2
                                   repeat (go_quiet (fail); try go_wp2)
                                   go_ret
                                   exact ⟨rfl, by repeat (first | (with_reducible first | exact HB.out | apply below_alloc | apply pw_below_drewN | apply below_drew1 | refine below_set ?_ GE792.out) | exact HB.out)⟩
                                  ·
                                   rw [if_neg c77] at H
                                   have c77b0 : decide ((wrap64 ((wrap64 ((wrap64 (t790 * (rd t810 x23_7))) - (wrap64 ((wrap64 (Int.tmod a2 1000)) * t789)))) - (rd t785 x23_7))) < x17_5) = false := decide_eq_false c77
                                   clear c77
                                   by_cases c80 : (wrap64 ((wrap64 ((wrap64 (t790 * (rd t810 x23_7))) - (wrap64 ((wrap64 (Int.tmod a2 1000)) * t789)))) - (rd t785 x23_7))) > x18_5
                                   ·
                                    rw [if_pos c80] at H
                                    have c80b0 : decide (x18_5 < (wrap64 ((wrap64 ((wrap64 (t790 * (rd t810 x23_7))) - (wrap64 ((wrap64 (Int.tmod a2 1000)) * t789)))) - (rd t785 x23_7)))) = true := decide_eq_true c80
                                    clear c80
                                    obtain rfl := Option.some.inj H
                                    have hcz81_0 : wr.cell? ⟨gb792, 0, none⟩ = some (.int .i64 t789) := (blk_cell BK792.out 0).trans rfl
                                    have hcz81_1 : wr.cell? ⟨gb792, 1, none⟩ = some (.int .i64 t790) := (blk_cell BK792.out 1).trans rfl
                                    have hfz81_0 := blk_frozen BK792.out 0
                                    have hfz81_1 := blk_frozen BK792.out 1
                                    obtain ⟨Ao82, co82, eo82⟩ := Kd.R_slice HO_22.out
                                    subst eo82
                                    have p814 : 0 ≤ (x23_7 : Int) := of_decide_eq_true (by assumption)
                                    have q814 : x23_7 < (t810.length : Int) := of_decide_eq_true (by assumption)
                                    obtain ⟨ad814, e814, hx814_0⟩ := Kd.at_int (Kd.R_reads' HO_22.out).2.2 x23_7 p814 q814
                                    cases e814
                                    replace p814 := eq_true p814
                                    replace q814 := eq_true q814
                                    have p815 : 0 ≤ (x23_7 : Int) := of_decide_eq_true (by assumption)
                                    have q815 : x23_7 < (t785.length : Int) := of_decide_eq_true (by assumption)
                                    obtain ⟨ad815, e815, hx815_0⟩ := Kd.at_int (Kd.R_reads' HO_7.out).2.2 x23_7 p815 q815
                                    obtain rfl : ad794 = ad815 := (by injection e815)
                                    replace p815 := eq_true p815
                                    replace q815 := eq_true q815
                                    go_wp2
                                    repeat (go_quiet (fail); try go_wp2)
                                    go_ret
                                    exact ⟨rfl, by repeat (first | (with_reducible first | exact HB.out | apply below_alloc | apply pw_below_drewN | apply below_drew1 | refine below_set ?_ GE792.out) | exact HB.out)⟩
                                   ·
                                    rw [if_neg c80] at H
                                    have c80b0 : decide (x18_5 < (wrap64 ((wrap64 ((wrap64 (t790 * (rd t810 x23_7))) - (wrap64 ((wrap64 (Int.tmod a2 1000)) * t789)))) - (rd t785 x23_7)))) = false := decide_eq_false c80
                                    clear c80
                                    have H' := Aside0.mk H
                                    clear H
                                    have hcz83_0 : wr.cell? ⟨gb792, 0, none⟩ = some (.int .i64 t789) := (blk_cell BK792.out 0).trans rfl
                                    have hcz83_1 : wr.cell? ⟨gb792, 1, none⟩ = some (.int .i64 t790) := (blk_cell BK792.out 1).trans rfl
                                    have hfz83_0 := blk_frozen BK792.out 0
                                    have hfz83_1 := blk_frozen BK792.out 1
                                    obtain ⟨Ao84, co84, eo84⟩ := Kd.R_slice HO_22.out
                                    subst eo84
                                    have p814 : 0 ≤ (x23_7 : Int) := of_decide_eq_true (by assumption)
                                    have q814 : x23_7 < (t810.length : Int) := of_decide_eq_true (by assumption)
                                    obtain ⟨ad814, e814, hx814_0⟩ := Kd.at_int (Kd.R_reads' HO_22.out).2.2 x23_7 p814 q814
                                    cases e814
                                    replace p814 := eq_true p814
                                    replace q814 := eq_true q814
                                    have p815 : 0 ≤ (x23_7 : Int) := of_decide_eq_true (by assumption)
                                    have q815 : x23_7 < (t785.length : Int) := of_decide_eq_true (by assumption)
                                    obtain ⟨ad815, e815, hx815_0⟩ := Kd.at_int (Kd.R_reads' HO_7.out).2.2 x23_7 p815 q815
                                    obtain rfl : ad794 = ad815 := (by injection e815)
                                    replace p815 := eq_true p815
                                    replace q815 := eq_true q815
                                    go_wp2
                                    repeat (go_quiet (fail); try go_wp2)
                                    go_roundg k7
                                    case measure => have := HJ3.out; have := HJ12.out; have := HK3.out; have := HJ42.out; have := HK5.out; have := HJ67.out; have := HK7.out; omega
                                    case rel => exact ⟨(wrap64 (x23_7 + 1)), rfl, H', ⟨by have := HJ3.out; have := HJ12.out; have := HK3.out; have := HJ42.out; have := HK5.out; have := HJ67.out; have := HK7.out; omega⟩, ⟨by exact HO_7.out⟩, ⟨by exact HO_22.out⟩, ⟨by (with_reducible repeat (first | refine blk_drewN ?_ _ | refine blk_drew ?_ | refine blk_alloc ?_ _)); exact BK792.out⟩, ⟨by repeat (first | (with_reducible first | exact HB.out | apply below_alloc | apply pw_below_drewN | apply below_drew1 | refine below_set ?_ GE792.out) | exact HB.out)⟩⟩
                                 ·
                                  rw [if_neg c76] at H
                                  exact absurd H (by simp)
                                ·
                                 rw [if_neg c75] at H
                                 exact absurd H (by simp)
                               ·
                                rw [if_neg c74] at H
                                exact absurd H (by simp)
                              ·
                               rw [if_neg c73] at H
                               have c73b0 : decide (x23_7 < (l0.length : Int)) = false := decide_eq_false c73
                               clear c73
                               replace H := Option.bind_eq_some_iff.mp H
                               obtain ⟨t816, A850, H⟩ := H
                               replace H : (some t816) = some r := H
                               have A85 := Aside0.mk A850
                               clear A850
                               obtain rfl := Option.some.inj H
                               go_wp2_with (first | (go_at_call 13; (with_reducible refine (l5alive.calls k7  t816 _ A85.out).mono ?_); rintro e w86 ⟨rfl, hb⟩; have n0_ := Aside0.mk (Kd.R_below (by exact HO_7.out) hb); have n1_ := Aside0.mk (Kd.R_below (by exact HO_22.out) hb); have n2_ := Aside0.mk (blk_below (g := gb792) (o := .cells #[.int .i64 t789, .int .i64 t790] 37 (0, 0)) (by (with_reducible repeat (first | refine blk_drewN ?_ _ | refine blk_drew ?_ | refine blk_alloc ?_ _)); exact BK792.out) hb); have n3_ := Aside0.mk (below_step (by repeat (first | (with_reducible first | exact HB.out | apply below_alloc | apply pw_below_drewN | apply below_drew1 | refine below_set ?_ GE792.out) | exact HB.out)) hb); clear HO_7; clear HO_22; clear BK792; clear HB; have HO_7 := n0_; have HO_22 := n1_; have BK792 := n2_; have HB := n3_; clear n0_ n1_ n2_ n3_))
                               repeat (go_quiet (first | (go_at_call 13; (with_reducible refine (l5alive.calls k7  t816 _ A85.out).mono ?_); rintro e w86 ⟨rfl, hb⟩; have n0_ := Aside0.mk (Kd.R_below (by exact HO_7.out) hb); have n1_ := Aside0.mk (Kd.R_below (by exact HO_22.out) hb); have n2_ := Aside0.mk (blk_below (g := gb792) (o := .cells #[.int .i64 t789, .int .i64 t790] 37 (0, 0)) (by (with_reducible repeat (first | refine blk_drewN ?_ _ | refine blk_drew ?_ | refine blk_alloc ?_ _)); exact BK792.out) hb); have n3_ := Aside0.mk (below_step (by repeat (first | (with_reducible first | exact HB.out | apply below_alloc | apply pw_below_drewN | apply below_drew1 | refine below_set ?_ GE792.out) | exact HB.out)) hb); clear HO_7; clear HO_22; clear BK792; clear HB; have HO_7 := n0_; have HO_22 := n1_; have BK792 := n2_; have HB := n3_; clear n0_ n1_ n2_ n3_)); try go_wp2_with (first | (go_at_call 13; (with_reducible refine (l5alive.calls k7  t816 _ A85.out).mono ?_); rintro e w86 ⟨rfl, hb⟩; have n0_ := Aside0.mk (Kd.R_below (by exact HO_7.out) hb); have n1_ := Aside0.mk (Kd.R_below (by exact HO_22.out) hb); have n2_ := Aside0.mk (blk_below (g := gb792) (o := .cells #[.int .i64 t789, .int .i64 t790] 37 (0, 0)) (by (with_reducible repeat (first | refine blk_drewN ?_ _ | refine blk_drew ?_ | refine blk_alloc ?_ _)); exact BK792.out) hb); have n3_ := Aside0.mk (below_step (by repeat (first | (with_reducible first | exact HB.out | apply below_alloc | apply pw_below_drewN | apply below_drew1 | refine below_set ?_ GE792.out) | exact HB.out)) hb); clear HO_7; clear HO_22; clear BK792; clear HB; have HO_7 := n0_; have HO_22 := n1_; have BK792 := n2_; have HB := n3_; clear n0_ n1_ n2_ n3_)))
                               go_ret
                               exact ⟨rfl, by repeat (first | (with_reducible first | exact HB.out | apply below_alloc | apply pw_below_drewN | apply below_drew1 | refine below_set ?_ GE792.out) | exact HB.out)⟩
          ·
           rw [if_neg c24] at H
           exact absurd H (by simp)
     ·
      rw [if_neg c12] at H
      have c12b0 : (t786 == 0) = false := beq_eq_false_iff_ne.mpr c12
      by_cases c87 : (t785.length : Int) = 0
      ·
       rw [if_pos c87] at H
       have c87b0 : ((t785.length : Int) == 0) = true := beq_iff_eq.mpr c87
       clear c87
       replace H := Option.bind_eq_some_iff.mp H
       obtain ⟨t793, A880, H⟩ := H
       replace H : (some t793) = some r := H
       have A88 := Aside0.mk A880
       clear A880
       obtain rfl := Option.some.inj H
       go_wp2_with (first | (go_at_call 15; (with_reducible refine (line_Eigen.calls kj3 _ _ l0 t785 t786 _ ?side1 ?side2 A10.out).mono ?_); (case side1 => repeat (first | exact (Kd.C_below HR0.out HB.out))); (case side2 => exact HC0.out); rintro e w89 ⟨v787, rfl, ho0, hb⟩; have n0_ := Aside0.mk (Kd.R_lower ho0 (below_size (by repeat (first | exact HB.out | apply below_alloc | apply pw_below_drewN | apply below_drew1)))); have n1_ := Aside0.mk (below_step (by repeat (first | exact HB.out | apply below_alloc | apply pw_below_drewN | apply below_drew1)) hb); clear HB; have HO788 := n0_; have HB := n1_; clear n0_ n1_) | (go_at_call 22; (with_reducible refine (line_Speed.calls kj3 _ _ l0 t789 t790 t791 _ ?side1 ?side2 A11.out).mono ?_); (case side1 => repeat (first | exact (Kd.C_below HR0.out HB.out))); (case side2 => exact HC0.out); rintro e w90 ⟨rfl, hb⟩; have n0_ := Aside0.mk (Kd.R_below (by exact HO788.out) hb); have n1_ := Aside0.mk (below_step (by repeat (first | exact HB.out | apply below_alloc | apply pw_below_drewN | apply below_drew1)) hb); clear HO788; clear HB; have HO788 := n0_; have HB := n1_; clear n0_ n1_) | ((with_reducible refine gate_dst (N := 9) rfl ?_); (try (refine gate_guard (by rfl) ?_; dsimp only)); refine box_event ?hg (N := 9) ?hd (cs := #[.int .i64 0, .int .i64 0]) (t := 37) ?hr ?_; (case hd => rfl); (case hg => rfl); (case hr => go_simp); intro gb792 hg w91 hbox hb; have n0_ := Aside0.mk (Kd.R_below (by exact HO788.out) hb); have n1_ := Aside0.mk (below_step (by repeat (first | exact HB.out | apply below_alloc | apply pw_below_drewN | apply below_drew1)) hb); have n2_ := Aside0.mk (hbox); have n3_ := Aside0.mk ((by rw [hg]; exact (below_size (by repeat (first | exact HB.out | apply below_alloc | apply pw_below_drewN | apply below_drew1))) : w.heap.size ≤ gb792)); have n4_ := Aside0.mk ((by rw [hg]; exact (below_size (by repeat (first | exact HB.out | apply below_alloc | apply pw_below_drewN | apply below_drew1))) : w.heap.size ≤ gb792)); clear HO788; clear HB; have HO788 := n0_; have HB := n1_; have BK792 := n2_; have GW792 := n3_; have GE792 := n4_; clear n0_ n1_ n2_ n3_ n4_; clear hb hbox hg; have hcz92_0 : w91.cell? ⟨gb792, 0, none⟩ = some (.int .i64 0) := (blk_cell BK792.out 0).trans rfl; have hcz92_1 : w91.cell? ⟨gb792, 1, none⟩ = some (.int .i64 0) := (blk_cell BK792.out 1).trans rfl; have hfz92_0 := blk_frozen BK792.out 0; have hfz92_1 := blk_frozen BK792.out 1; obtain ⟨Ao93, co93, eo93⟩ := Kd.R_slice HO788.out; subst eo93) | (go_at_call 13; (with_reducible refine (l5alive.calls kj3  t793 _ A88.out).mono ?_); rintro e w94 ⟨rfl, hb⟩; have n0_ := Aside0.mk (Kd.R_below (by (with_reducible repeat (first | apply Kd.R_alloc | apply Kd.R_drewN | apply Kd.R_drew)); exact (Kd.R_mono (Kd.R_far (p := ⟨gb792, 1, none⟩) (Kd.R_far (p := ⟨gb792, 0, none⟩) (Kd.R_types HO788.out BK792.out (by decide)) (fun _ hk => hk.2) (.int .i64 t789)) (fun _ hk => hk.2) (.int .i64 t790)) (fun _ h_ => h_.1))) hb); have n1_ := Aside0.mk (blk_below (g := gb792) (o := .cells #[.int .i64 t789, .int .i64 t790] 37 (0, 0)) (by (with_reducible repeat (first | refine blk_drewN ?_ _ | refine blk_drew ?_ | refine blk_alloc ?_ _)); refine blk_put (cs := #[.int .i64 t789, .int .i64 0]) ?_ 1 _ rfl; (with_reducible repeat (first | refine blk_drewN ?_ _ | refine blk_drew ?_ | refine blk_alloc ?_ _)); refine blk_put (cs := #[.int .i64 0, .int .i64 0]) ?_ 0 _ rfl; (with_reducible repeat (first | refine blk_drewN ?_ _ | refine blk_drew ?_ | refine blk_alloc ?_ _)); exact BK792.out) hb); have n2_ := Aside0.mk (below_step (by repeat (first | (with_reducible first | exact HB.out | apply below_alloc | apply pw_below_drewN | apply below_drew1 | refine below_set ?_ GE792.out) | exact HB.out)) hb); clear HO788; clear BK792; clear HB; have HO788 := n0_; have BK792 := n1_; have HB := n2_; clear n0_ n1_ n2_))
       repeat (go_quiet (first | (go_at_call 15; (with_reducible refine (line_Eigen.calls kj3 _ _ l0 t785 t786 _ ?side1 ?side2 A10.out).mono ?_); (case side1 => repeat (first | exact (Kd.C_below HR0.out HB.out))); (case side2 => exact HC0.out); rintro e w89 ⟨v787, rfl, ho0, hb⟩; have n0_ := Aside0.mk (Kd.R_lower ho0 (below_size (by repeat (first | exact HB.out | apply below_alloc | apply pw_below_drewN | apply below_drew1)))); have n1_ := Aside0.mk (below_step (by repeat (first | exact HB.out | apply below_alloc | apply pw_below_drewN | apply below_drew1)) hb); clear HB; have HO788 := n0_; have HB := n1_; clear n0_ n1_) | (go_at_call 22; (with_reducible refine (line_Speed.calls kj3 _ _ l0 t789 t790 t791 _ ?side1 ?side2 A11.out).mono ?_); (case side1 => repeat (first | exact (Kd.C_below HR0.out HB.out))); (case side2 => exact HC0.out); rintro e w90 ⟨rfl, hb⟩; have n0_ := Aside0.mk (Kd.R_below (by exact HO788.out) hb); have n1_ := Aside0.mk (below_step (by repeat (first | exact HB.out | apply below_alloc | apply pw_below_drewN | apply below_drew1)) hb); clear HO788; clear HB; have HO788 := n0_; have HB := n1_; clear n0_ n1_) | ((with_reducible refine gate_dst (N := 9) rfl ?_); (try (refine gate_guard (by rfl) ?_; dsimp only)); refine box_event ?hg (N := 9) ?hd (cs := #[.int .i64 0, .int .i64 0]) (t := 37) ?hr ?_; (case hd => rfl); (case hg => rfl); (case hr => go_simp); intro gb792 hg w91 hbox hb; have n0_ := Aside0.mk (Kd.R_below (by exact HO788.out) hb); have n1_ := Aside0.mk (below_step (by repeat (first | exact HB.out | apply below_alloc | apply pw_below_drewN | apply below_drew1)) hb); have n2_ := Aside0.mk (hbox); have n3_ := Aside0.mk ((by rw [hg]; exact (below_size (by repeat (first | exact HB.out | apply below_alloc | apply pw_below_drewN | apply below_drew1))) : w.heap.size ≤ gb792)); have n4_ := Aside0.mk ((by rw [hg]; exact (below_size (by repeat (first | exact HB.out | apply below_alloc | apply pw_below_drewN | apply below_drew1))) : w.heap.size ≤ gb792)); clear HO788; clear HB; have HO788 := n0_; have HB := n1_; have BK792 := n2_; have GW792 := n3_; have GE792 := n4_; clear n0_ n1_ n2_ n3_ n4_; clear hb hbox hg; have hcz92_0 : w91.cell? ⟨gb792, 0, none⟩ = some (.int .i64 0) := (blk_cell BK792.out 0).trans rfl; have hcz92_1 : w91.cell? ⟨gb792, 1, none⟩ = some (.int .i64 0) := (blk_cell BK792.out 1).trans rfl; have hfz92_0 := blk_frozen BK792.out 0; have hfz92_1 := blk_frozen BK792.out 1; obtain ⟨Ao93, co93, eo93⟩ := Kd.R_slice HO788.out; subst eo93) | (go_at_call 13; (with_reducible refine (l5alive.calls kj3  t793 _ A88.out).mono ?_); rintro e w94 ⟨rfl, hb⟩; have n0_ := Aside0.mk (Kd.R_below (by (with_reducible repeat (first | apply Kd.R_alloc | apply Kd.R_drewN | apply Kd.R_drew)); exact (Kd.R_mono (Kd.R_far (p := ⟨gb792, 1, none⟩) (Kd.R_far (p := ⟨gb792, 0, none⟩) (Kd.R_types HO788.out BK792.out (by decide)) (fun _ hk => hk.2) (.int .i64 t789)) (fun _ hk => hk.2) (.int .i64 t790)) (fun _ h_ => h_.1))) hb); have n1_ := Aside0.mk (blk_below (g := gb792) (o := .cells #[.int .i64 t789, .int .i64 t790] 37 (0, 0)) (by (with_reducible repeat (first | refine blk_drewN ?_ _ | refine blk_drew ?_ | refine blk_alloc ?_ _)); refine blk_put (cs := #[.int .i64 t789, .int .i64 0]) ?_ 1 _ rfl; (with_reducible repeat (first | refine blk_drewN ?_ _ | refine blk_drew ?_ | refine blk_alloc ?_ _)); refine blk_put (cs := #[.int .i64 0, .int .i64 0]) ?_ 0 _ rfl; (with_reducible repeat (first | refine blk_drewN ?_ _ | refine blk_drew ?_ | refine blk_alloc ?_ _)); exact BK792.out) hb); have n2_ := Aside0.mk (below_step (by repeat (first | (with_reducible first | exact HB.out | apply below_alloc | apply pw_below_drewN | apply below_drew1 | refine below_set ?_ GE792.out) | exact HB.out)) hb); clear HO788; clear BK792; clear HB; have HO788 := n0_; have BK792 := n1_; have HB := n2_; clear n0_ n1_ n2_)); try go_wp2_with (first | (go_at_call 15; (with_reducible refine (line_Eigen.calls kj3 _ _ l0 t785 t786 _ ?side1 ?side2 A10.out).mono ?_); (case side1 => repeat (first | exact (Kd.C_below HR0.out HB.out))); (case side2 => exact HC0.out); rintro e w89 ⟨v787, rfl, ho0, hb⟩; have n0_ := Aside0.mk (Kd.R_lower ho0 (below_size (by repeat (first | exact HB.out | apply below_alloc | apply pw_below_drewN | apply below_drew1)))); have n1_ := Aside0.mk (below_step (by repeat (first | exact HB.out | apply below_alloc | apply pw_below_drewN | apply below_drew1)) hb); clear HB; have HO788 := n0_; have HB := n1_; clear n0_ n1_) | (go_at_call 22; (with_reducible refine (line_Speed.calls kj3 _ _ l0 t789 t790 t791 _ ?side1 ?side2 A11.out).mono ?_); (case side1 => repeat (first | exact (Kd.C_below HR0.out HB.out))); (case side2 => exact HC0.out); rintro e w90 ⟨rfl, hb⟩; have n0_ := Aside0.mk (Kd.R_below (by exact HO788.out) hb); have n1_ := Aside0.mk (below_step (by repeat (first | exact HB.out | apply below_alloc | apply pw_below_drewN | apply below_drew1)) hb); clear HO788; clear HB; have HO788 := n0_; have HB := n1_; clear n0_ n1_) | ((with_reducible refine gate_dst (N := 9) rfl ?_); (try (refine gate_guard (by rfl) ?_; dsimp only)); refine box_event ?hg (N := 9) ?hd (cs := #[.int .i64 0, .int .i64 0]) (t := 37) ?hr ?_; (case hd => rfl); (case hg => rfl); (case hr => go_simp); intro gb792 hg w91 hbox hb; have n0_ := Aside0.mk (Kd.R_below (by exact HO788.out) hb); have n1_ := Aside0.mk (below_step (by repeat (first | exact HB.out | apply below_alloc | apply pw_below_drewN | apply below_drew1)) hb); have n2_ := Aside0.mk (hbox); have n3_ := Aside0.mk ((by rw [hg]; exact (below_size (by repeat (first | exact HB.out | apply below_alloc | apply pw_below_drewN | apply below_drew1))) : w.heap.size ≤ gb792)); have n4_ := Aside0.mk ((by rw [hg]; exact (below_size (by repeat (first | exact HB.out | apply below_alloc | apply pw_below_drewN | apply below_drew1))) : w.heap.size ≤ gb792)); clear HO788; clear HB; have HO788 := n0_; have HB := n1_; have BK792 := n2_; have GW792 := n3_; have GE792 := n4_; clear n0_ n1_ n2_ n3_ n4_; clear hb hbox hg; have hcz92_0 : w91.cell? ⟨gb792, 0, none⟩ = some (.int .i64 0) := (blk_cell BK792.out 0).trans rfl; have hcz92_1 : w91.cell? ⟨gb792, 1, none⟩ = some (.int .i64 0) := (blk_cell BK792.out 1).trans rfl; have hfz92_0 := blk_frozen BK792.out 0; have hfz92_1 := blk_frozen BK792.out 1; obtain ⟨Ao93, co93, eo93⟩ := Kd.R_slice HO788.out; subst eo93) | (go_at_call 13; (with_reducible refine (l5alive.calls kj3  t793 _ A88.out).mono ?_); rintro e w94 ⟨rfl, hb⟩; have n0_ := Aside0.mk (Kd.R_below (by (with_reducible repeat (first | apply Kd.R_alloc | apply Kd.R_drewN | apply Kd.R_drew)); exact (Kd.R_mono (Kd.R_far (p := ⟨gb792, 1, none⟩) (Kd.R_far (p := ⟨gb792, 0, none⟩) (Kd.R_types HO788.out BK792.out (by decide)) (fun _ hk => hk.2) (.int .i64 t789)) (fun _ hk => hk.2) (.int .i64 t790)) (fun _ h_ => h_.1))) hb); have n1_ := Aside0.mk (blk_below (g := gb792) (o := .cells #[.int .i64 t789, .int .i64 t790] 37 (0, 0)) (by (with_reducible repeat (first | refine blk_drewN ?_ _ | refine blk_drew ?_ | refine blk_alloc ?_ _)); refine blk_put (cs := #[.int .i64 t789, .int .i64 0]) ?_ 1 _ rfl; (with_reducible repeat (first | refine blk_drewN ?_ _ | refine blk_drew ?_ | refine blk_alloc ?_ _)); refine blk_put (cs := #[.int .i64 0, .int .i64 0]) ?_ 0 _ rfl; (with_reducible repeat (first | refine blk_drewN ?_ _ | refine blk_drew ?_ | refine blk_alloc ?_ _)); exact BK792.out) hb); have n2_ := Aside0.mk (below_step (by repeat (first | (with_reducible first | exact HB.out | apply below_alloc | apply pw_below_drewN | apply below_drew1 | refine below_set ?_ GE792.out) | exact HB.out)) hb); clear HO788; clear BK792; clear HB; have HO788 := n0_; have BK792 := n1_; have HB := n2_; clear n0_ n1_ n2_)))
       go_ret
       exact ⟨rfl, by repeat (first | (with_reducible first | exact HB.out | apply below_alloc | apply pw_below_drewN | apply below_drew1 | refine below_set ?_ GE792.out) | exact HB.out)⟩
      ·
       rw [if_neg c87] at H
       have c87b0 : ((t785.length : Int) == 0) = false := beq_eq_false_iff_ne.mpr c87
       have c87b2 : ¬ (t785 = []) := fun h_ => c87 (by rw [h_]; rfl)
       exact absurd (H.trans (congrArg some hr_.out)) (by simp)

def line_Multiply.f (k : Nat) (l0 : List (List Int)) (l1 : List (List Int)) : Option ((List (List Int)) × Int) := (line_of.f k l0).bind fun bt987 => ((line_of.f k l1).bind fun bt991 => (if bt987.2 = true then (if bt991.2 = true then (if (l0.length : Int) = (l1.length : Int) then ((lgtimes.f k bt987.1 bt991.1).bind fun t995 => (some (t995, 0))) else (some (([] : List (List Int)), 2))) else (some (([] : List (List Int)), 2))) else (some (([] : List (List Int)), 2))))
theorem line_Multiply.mono : ∀ a0 a1 k, LeO (line_Multiply.f k a0 a1) (line_Multiply.f (k + 1) a0 a1) := by
 intro a0 a1 k
 unfold line_Multiply.f
 repeat' first
   | (with_reducible exact LeO.refl _)
   | (with_reducible exact LeO.none _)
   | (with_reducible refine LeO.ite ?_ ?_)
   | (with_reducible refine LeO.bind ?_ (fun _ => ?_))
   | exact lgtimes.mono _ _ _
   | exact line_of.mono _ _
   | exact LeO.none _
   | refine LeO.ite ?_ ?_
   | refine LeO.bind ?_ (fun _ => ?_)
set_option maxHeartbeats 8000000 in
set_option maxRecDepth 100000 in
theorem line_Multiply.calls (k : Nat) (A0 : Option Addr) (c0 : Nat) (l0 : List (List Int)) (A1 : Option Addr) (c1 : Nat) (l1 : List (List Int)) (r1 : List (List Int)) (r2 : Int) (w : World) (hr0 : Kd.C (Kd.slice 3 (Kd.int .i64)) w A0 l0.length l0) (hc0 : l0.length ≤ c0) (hr1 : Kd.C (Kd.slice 3 (Kd.int .i64)) w A1 l1.length l1) (hc1 : l1.length ≤ c1) (h : line_Multiply.f k l0 l1 = some (r1, r2)) :
  Calls Try.prog 37 #[.slice A0 l0.length c0, .slice A1 l1.length c1] w fun e w' => ∃ v0_ : Value, e = .returned (.tuple #[v0_, .int .i64 r2]) ∧ Kd.S (Kd.slice 3 (Kd.int .i64)) 26 w' w.heap.size (fun _ => True) v0_ r1 ∧ Below w.heap.size w w' := by
 have HR0 := Aside0.mk hr0
 have HC0 := Aside0.mk hc0
 clear hr0 hc0
 have HR1 := Aside0.mk hr1
 have HC1 := Aside0.mk hc1
 clear hr1 hc1
 have HB := Aside0.mk (Below.refl w.heap.size w)
 have H : ((line_of.f k l0).bind fun bt987 => ((line_of.f k l1).bind fun bt991 => (if bt987.2 = true then (if bt991.2 = true then (if (l0.length : Int) = (l1.length : Int) then ((lgtimes.f k bt987.1 bt991.1).bind fun t995 => (some (t995, 0))) else (some (([] : List (List Int)), 2))) else (some (([] : List (List Int)), 2))) else (some (([] : List (List Int)), 2))))) = some (r1, r2) := h
 clear h
 replace H := Option.bind_eq_some_iff.mp H
 obtain ⟨⟨t987, t990⟩, A30, H⟩ := H
 replace H : ((line_of.f k l1).bind fun bt991 => (if t990 = true then (if bt991.2 = true then (if (l0.length : Int) = (l1.length : Int) then ((lgtimes.f k t987 bt991.1).bind fun t995 => (some (t995, 0))) else (some (([] : List (List Int)), 2))) else (some (([] : List (List Int)), 2))) else (some (([] : List (List Int)), 2)))) = some (r1, r2) := H
 have A3 := Aside0.mk A30
 clear A30
 replace H := Option.bind_eq_some_iff.mp H
 obtain ⟨⟨t991, t994⟩, A40, H⟩ := H
 replace H : (if t990 = true then (if t994 = true then (if (l0.length : Int) = (l1.length : Int) then ((lgtimes.f k t987 t991).bind fun t995 => (some (t995, 0))) else (some (([] : List (List Int)), 2))) else (some (([] : List (List Int)), 2))) else (some (([] : List (List Int)), 2))) = some (r1, r2) := H
 have A4 := Aside0.mk A40
 clear A40
 by_cases c5 : t990 = true
 ·
  subst c5
  have H1 : (if t994 = true then (if (l0.length : Int) = (l1.length : Int) then ((lgtimes.f k t987 t991).bind fun t995 => (some (t995, 0))) else (some (([] : List (List Int)), 2))) else (some (([] : List (List Int)), 2))) = some (r1, r2) := by rw [if_pos rfl] at H; exact H
  clear H
  have H := H1
  clear H1
  by_cases c6 : t994 = true
  ·
   subst c6
   have H1 : (if (l0.length : Int) = (l1.length : Int) then ((lgtimes.f k t987 t991).bind fun t995 => (some (t995, 0))) else (some (([] : List (List Int)), 2))) = some (r1, r2) := by rw [if_pos rfl] at H; exact H
   clear H
   have H := H1
   clear H1
   by_cases c7 : (l0.length : Int) = (l1.length : Int)
   ·
    rw [if_pos c7] at H
    have c7b0 : ((l0.length : Int) == (l1.length : Int)) = true := beq_iff_eq.mpr c7
    have c7b2 : (l0.length == l1.length) = true := by first | simpa using c7 | (simp at c7 ⊢; omega)
    clear c7
    replace H := Option.bind_eq_some_iff.mp H
    obtain ⟨t995, A80, H⟩ := H
    replace H : (some (t995, 0)) = some (r1, r2) := H
    have A8 := Aside0.mk A80
    clear A80
    simp only [Option.some.injEq, Prod.mk.injEq] at H
    obtain ⟨rfl, rfl⟩ := H
    go_enter Try.func37, Try.ntmps37
    go_wp2_with (first | ((with_reducible refine gate_callee (f := 64) rfl ?_); refine goesL_ (some 12) rfl rfl Try.func64 (by kernel_rfl) rfl #[.slice A0 l0.length c0] rfl (by (try simp only [List.map_toArray, List.map_cons, List.map_nil]); rfl) ?_; (with_reducible refine (line_of.calls k (fun k_ => k_ < w.heap.size) _ _ l0 t987 true _ ?side1 A3.out).mono ?_); (case side1 => exact Kd.V_mk HC0.out (Kd.F_below (Kd.C_F (Kd.heap_slice 3 (Kd.heap_int .i64)) HR0.out) (HB.out))); rintro e w9 ⟨v988, rfl, ho0, hb⟩; refine ⟨_, rfl, ?_⟩; have n0_ := Aside0.mk (Kd.V_lower (Kd.V_mono (ok' := fun k_ => True) ho0 (fun k_ hk_ => trivial)) (below_size (HB.out))); have n1_ := Aside0.mk (below_step (HB.out) hb); clear HB; have HO989 := n0_; have HB := n1_; clear n0_ n1_) | ((with_reducible refine gate_callee (f := 64) rfl ?_); refine goesL_ (some 17) rfl rfl Try.func64 (by kernel_rfl) rfl #[.slice A1 l1.length c1] rfl (by (try simp only [List.map_toArray, List.map_cons, List.map_nil]); rfl) ?_; (with_reducible refine (line_of.calls k (fun k_ => k_ < w.heap.size) _ _ l1 t991 true _ ?side1 A4.out).mono ?_); (case side1 => exact Kd.V_mk HC1.out (Kd.F_below (Kd.C_F (Kd.heap_slice 3 (Kd.heap_int .i64)) HR1.out) (HB.out))); rintro e w10 ⟨v992, rfl, ho0, hb⟩; refine ⟨_, rfl, ?_⟩; have n0_ := Aside0.mk (Kd.V_below (by exact HO989.out) hb); have n1_ := Aside0.mk (Kd.V_lower (Kd.V_mono (ok' := fun k_ => True) ho0 (fun k_ hk_ => trivial)) (below_size (HB.out))); have n2_ := Aside0.mk (below_step (HB.out) hb); clear HO989; clear HB; have HO989 := n0_; have HO993 := n1_; have HB := n2_; clear n0_ n1_ n2_; obtain ⟨Ao11, co11, eo11⟩ := Kd.V_slice HO989.out; subst eo11; obtain ⟨Ao12, co12, eo12⟩ := Kd.V_slice HO993.out; subst eo12) | ((with_reducible refine gate_callee (f := 59) rfl ?_); refine goesL_ (some 35) rfl rfl Try.func59 (by kernel_rfl) rfl #[.slice Ao11 t987.length co11, .slice Ao12 t991.length co12] rfl (by (try simp only [List.map_toArray, List.map_cons, List.map_nil]); rfl) ?_; (with_reducible refine (lgtimes.calls k _ _ t987 _ _ t991 t995 _ ?side1 ?side2 ?side3 ?side4 A8.out).mono ?_); (case side1 => repeat (first | exact (Kd.V_reads' HO989.out).2.2)); (case side2 => exact (Kd.V_reads' HO989.out).2.1); (case side3 => repeat (first | exact (Kd.V_reads' HO993.out).2.2)); (case side4 => exact (Kd.V_reads' HO993.out).2.1); rintro e w13 ⟨v996, rfl, ho0, hb⟩; refine ⟨_, rfl, ?_⟩; have n0_ := Aside0.mk (Kd.V_elder' (by exact HO989.out) (Kd.S_base ho0) hb); have n1_ := Aside0.mk (Kd.V_elder' (by exact HO993.out) (Kd.S_base ho0) hb); have n2_ := Aside0.mk (Kd.S_lower ho0 (below_size (HB.out))); have n3_ := Aside0.mk (below_step (HB.out) hb); clear HO989; clear HO993; clear HB; have HO989 := n0_; have HO993 := n1_; have HO997 := n2_; have HB := n3_; clear n0_ n1_ n2_ n3_))
    go_ret2
    exact ⟨_, rfl, by exact HO997.out, HB.out⟩
   ·
    rw [if_neg c7] at H
    have c7b0 : ((l0.length : Int) == (l1.length : Int)) = false := beq_eq_false_iff_ne.mpr c7
    have c7b2 : (l0.length == l1.length) = false := by first | simpa using c7 | (simp at c7 ⊢; omega)
    simp only [Option.some.injEq, Prod.mk.injEq] at H
    obtain ⟨rfl, rfl⟩ := H
    go_enter Try.func37, Try.ntmps37
    go_wp2_with (first | ((with_reducible refine gate_callee (f := 64) rfl ?_); refine goesL_ (some 12) rfl rfl Try.func64 (by kernel_rfl) rfl #[.slice A0 l0.length c0] rfl (by (try simp only [List.map_toArray, List.map_cons, List.map_nil]); rfl) ?_; (with_reducible refine (line_of.calls k (fun k_ => k_ < w.heap.size) _ _ l0 t987 true _ ?side1 A3.out).mono ?_); (case side1 => exact Kd.V_mk HC0.out (Kd.F_below (Kd.C_F (Kd.heap_slice 3 (Kd.heap_int .i64)) HR0.out) (HB.out))); rintro e w14 ⟨v988, rfl, ho0, hb⟩; refine ⟨_, rfl, ?_⟩; have n0_ := Aside0.mk (Kd.V_lower (Kd.V_mono (ok' := fun k_ => True) ho0 (fun k_ hk_ => trivial)) (below_size (HB.out))); have n1_ := Aside0.mk (below_step (HB.out) hb); clear HB; have HO989 := n0_; have HB := n1_; clear n0_ n1_) | ((with_reducible refine gate_callee (f := 64) rfl ?_); refine goesL_ (some 17) rfl rfl Try.func64 (by kernel_rfl) rfl #[.slice A1 l1.length c1] rfl (by (try simp only [List.map_toArray, List.map_cons, List.map_nil]); rfl) ?_; (with_reducible refine (line_of.calls k (fun k_ => k_ < w.heap.size) _ _ l1 t991 true _ ?side1 A4.out).mono ?_); (case side1 => exact Kd.V_mk HC1.out (Kd.F_below (Kd.C_F (Kd.heap_slice 3 (Kd.heap_int .i64)) HR1.out) (HB.out))); rintro e w15 ⟨v992, rfl, ho0, hb⟩; refine ⟨_, rfl, ?_⟩; have n0_ := Aside0.mk (Kd.V_below (by exact HO989.out) hb); have n1_ := Aside0.mk (Kd.V_lower (Kd.V_mono (ok' := fun k_ => True) ho0 (fun k_ hk_ => trivial)) (below_size (HB.out))); have n2_ := Aside0.mk (below_step (HB.out) hb); clear HO989; clear HB; have HO989 := n0_; have HO993 := n1_; have HB := n2_; clear n0_ n1_ n2_))
    go_ret2
    exact ⟨_, rfl, by first | exact Kd.S_nil _ _ _ _ _ | exact Kd.N_nil _ _ _ _ _ | exact Kd.V_nil _ _ _ _ _ | exact Kd.Q_nil _ _ _ _ _ | exact Kd.R_nil _ _ _ _ _, HB.out⟩
  ·
   replace c6 := Bool.eq_false_iff.mpr c6
   subst c6
   have H1 : (some (([] : List (List Int)), 2)) = some (r1, r2) := by rw [if_neg (show ¬ (false = true) by decide)] at H; exact H
   clear H
   have H := H1
   clear H1
   simp only [Option.some.injEq, Prod.mk.injEq] at H
   obtain ⟨rfl, rfl⟩ := H
   go_enter Try.func37, Try.ntmps37
   go_wp2_with (first | ((with_reducible refine gate_callee (f := 64) rfl ?_); refine goesL_ (some 12) rfl rfl Try.func64 (by kernel_rfl) rfl #[.slice A0 l0.length c0] rfl (by (try simp only [List.map_toArray, List.map_cons, List.map_nil]); rfl) ?_; (with_reducible refine (line_of.calls k (fun k_ => k_ < w.heap.size) _ _ l0 t987 true _ ?side1 A3.out).mono ?_); (case side1 => exact Kd.V_mk HC0.out (Kd.F_below (Kd.C_F (Kd.heap_slice 3 (Kd.heap_int .i64)) HR0.out) (HB.out))); rintro e w16 ⟨v988, rfl, ho0, hb⟩; refine ⟨_, rfl, ?_⟩; have n0_ := Aside0.mk (Kd.V_lower (Kd.V_mono (ok' := fun k_ => True) ho0 (fun k_ hk_ => trivial)) (below_size (HB.out))); have n1_ := Aside0.mk (below_step (HB.out) hb); clear HB; have HO989 := n0_; have HB := n1_; clear n0_ n1_) | ((with_reducible refine gate_callee (f := 64) rfl ?_); refine goesL_ (some 17) rfl rfl Try.func64 (by kernel_rfl) rfl #[.slice A1 l1.length c1] rfl (by (try simp only [List.map_toArray, List.map_cons, List.map_nil]); rfl) ?_; (with_reducible refine (line_of.calls k (fun k_ => k_ < w.heap.size) _ _ l1 t991 false _ ?side1 A4.out).mono ?_); (case side1 => exact Kd.V_mk HC1.out (Kd.F_below (Kd.C_F (Kd.heap_slice 3 (Kd.heap_int .i64)) HR1.out) (HB.out))); rintro e w17 ⟨v992, rfl, ho0, hb⟩; refine ⟨_, rfl, ?_⟩; have n0_ := Aside0.mk (Kd.V_below (by exact HO989.out) hb); have n1_ := Aside0.mk (Kd.V_lower (Kd.V_mono (ok' := fun k_ => True) ho0 (fun k_ hk_ => trivial)) (below_size (HB.out))); have n2_ := Aside0.mk (below_step (HB.out) hb); clear HO989; clear HB; have HO989 := n0_; have HO993 := n1_; have HB := n2_; clear n0_ n1_ n2_))
   go_ret2
   exact ⟨_, rfl, by first | exact Kd.S_nil _ _ _ _ _ | exact Kd.N_nil _ _ _ _ _ | exact Kd.V_nil _ _ _ _ _ | exact Kd.Q_nil _ _ _ _ _ | exact Kd.R_nil _ _ _ _ _, HB.out⟩
 ·
  replace c5 := Bool.eq_false_iff.mpr c5
  subst c5
  have H1 : (some (([] : List (List Int)), 2)) = some (r1, r2) := by rw [if_neg (show ¬ (false = true) by decide)] at H; exact H
  clear H
  have H := H1
  clear H1
  simp only [Option.some.injEq, Prod.mk.injEq] at H
  obtain ⟨rfl, rfl⟩ := H
  go_enter Try.func37, Try.ntmps37
  go_wp2_with (first | ((with_reducible refine gate_callee (f := 64) rfl ?_); refine goesL_ (some 12) rfl rfl Try.func64 (by kernel_rfl) rfl #[.slice A0 l0.length c0] rfl (by (try simp only [List.map_toArray, List.map_cons, List.map_nil]); rfl) ?_; (with_reducible refine (line_of.calls k (fun k_ => k_ < w.heap.size) _ _ l0 t987 false _ ?side1 A3.out).mono ?_); (case side1 => exact Kd.V_mk HC0.out (Kd.F_below (Kd.C_F (Kd.heap_slice 3 (Kd.heap_int .i64)) HR0.out) (HB.out))); rintro e w18 ⟨v988, rfl, ho0, hb⟩; refine ⟨_, rfl, ?_⟩; have n0_ := Aside0.mk (Kd.V_lower (Kd.V_mono (ok' := fun k_ => True) ho0 (fun k_ hk_ => trivial)) (below_size (HB.out))); have n1_ := Aside0.mk (below_step (HB.out) hb); clear HB; have HO989 := n0_; have HB := n1_; clear n0_ n1_) | ((with_reducible refine gate_callee (f := 64) rfl ?_); refine goesL_ (some 17) rfl rfl Try.func64 (by kernel_rfl) rfl #[.slice A1 l1.length c1] rfl (by (try simp only [List.map_toArray, List.map_cons, List.map_nil]); rfl) ?_; (with_reducible refine (line_of.calls k (fun k_ => k_ < w.heap.size) _ _ l1 t991 t994 _ ?side1 A4.out).mono ?_); (case side1 => exact Kd.V_mk HC1.out (Kd.F_below (Kd.C_F (Kd.heap_slice 3 (Kd.heap_int .i64)) HR1.out) (HB.out))); rintro e w19 ⟨v992, rfl, ho0, hb⟩; refine ⟨_, rfl, ?_⟩; have n0_ := Aside0.mk (Kd.V_below (by exact HO989.out) hb); have n1_ := Aside0.mk (Kd.V_lower (Kd.V_mono (ok' := fun k_ => True) ho0 (fun k_ hk_ => trivial)) (below_size (HB.out))); have n2_ := Aside0.mk (below_step (HB.out) hb); clear HO989; clear HB; have HO989 := n0_; have HO993 := n1_; have HB := n2_; clear n0_ n1_ n2_))
  go_ret2
  exact ⟨_, rfl, by first | exact Kd.S_nil _ _ _ _ _ | exact Kd.N_nil _ _ _ _ _ | exact Kd.V_nil _ _ _ _ _ | exact Kd.Q_nil _ _ _ _ _ | exact Kd.R_nil _ _ _ _ _, HB.out⟩

def line_Power.f (k : Nat) (l0 : List (List Int)) (a1 : Int) : Option ((List (List Int)) × Int) := (line_of.f k l0).bind fun bt707 => (if bt707.2 = true then ((line_steps.f a1).bind fun t711 => (if t711 = true then ((lgpower.f k bt707.1 a1).bind fun t712 => (some (t712, 0))) else (some (([] : List (List Int)), 2)))) else (some (([] : List (List Int)), 2)))
theorem line_Power.mono : ∀ a0 a1 k, LeO (line_Power.f k a0 a1) (line_Power.f (k + 1) a0 a1) := by
 intro a0 a1 k
 unfold line_Power.f
 repeat' first
   | (with_reducible exact LeO.refl _)
   | (with_reducible exact LeO.none _)
   | (with_reducible refine LeO.ite ?_ ?_)
   | (with_reducible refine LeO.bind ?_ (fun _ => ?_))
   | exact lgpower.mono _ _ _
   | exact line_of.mono _ _
   | exact LeO.none _
   | refine LeO.ite ?_ ?_
   | refine LeO.bind ?_ (fun _ => ?_)
set_option maxHeartbeats 8000000 in
set_option maxRecDepth 100000 in
theorem line_Power.calls (k : Nat) (A0 : Option Addr) (c0 : Nat) (l0 : List (List Int)) (a1 : Int) (r1 : List (List Int)) (r2 : Int) (w : World) (hr0 : Kd.C (Kd.slice 3 (Kd.int .i64)) w A0 l0.length l0) (hc0 : l0.length ≤ c0) (h : line_Power.f k l0 a1 = some (r1, r2)) :
  Calls Try.prog 40 #[.slice A0 l0.length c0, .int .i64 a1] w fun e w' => ∃ v0_ : Value, e = .returned (.tuple #[v0_, .int .i64 r2]) ∧ Kd.S (Kd.slice 3 (Kd.int .i64)) 26 w' w.heap.size (fun _ => True) v0_ r1 ∧ Below w.heap.size w w' := by
 have HR0 := Aside0.mk hr0
 have HC0 := Aside0.mk hc0
 clear hr0 hc0
 have HB := Aside0.mk (Below.refl w.heap.size w)
 have H : ((line_of.f k l0).bind fun bt707 => (if bt707.2 = true then ((line_steps.f a1).bind fun t711 => (if t711 = true then ((lgpower.f k bt707.1 a1).bind fun t712 => (some (t712, 0))) else (some (([] : List (List Int)), 2)))) else (some (([] : List (List Int)), 2)))) = some (r1, r2) := h
 clear h
 replace H := Option.bind_eq_some_iff.mp H
 obtain ⟨⟨t707, t710⟩, A30, H⟩ := H
 replace H : (if t710 = true then ((line_steps.f a1).bind fun t711 => (if t711 = true then ((lgpower.f k t707 a1).bind fun t712 => (some (t712, 0))) else (some (([] : List (List Int)), 2)))) else (some (([] : List (List Int)), 2))) = some (r1, r2) := H
 have A3 := Aside0.mk A30
 clear A30
 by_cases c4 : t710 = true
 ·
  subst c4
  have H1 : ((line_steps.f a1).bind fun t711 => (if t711 = true then ((lgpower.f k t707 a1).bind fun t712 => (some (t712, 0))) else (some (([] : List (List Int)), 2)))) = some (r1, r2) := by rw [if_pos rfl] at H; exact H
  clear H
  have H := H1
  clear H1
  replace H := Option.bind_eq_some_iff.mp H
  obtain ⟨t711, A50, H⟩ := H
  replace H : (if t711 = true then ((lgpower.f k t707 a1).bind fun t712 => (some (t712, 0))) else (some (([] : List (List Int)), 2))) = some (r1, r2) := H
  have A5 := Aside0.mk A50
  clear A50
  by_cases c6 : t711 = true
  ·
   subst c6
   have H1 : ((lgpower.f k t707 a1).bind fun t712 => (some (t712, 0))) = some (r1, r2) := by rw [if_pos rfl] at H; exact H
   clear H
   have H := H1
   clear H1
   replace H := Option.bind_eq_some_iff.mp H
   obtain ⟨t712, A70, H⟩ := H
   replace H : (some (t712, 0)) = some (r1, r2) := H
   have A7 := Aside0.mk A70
   clear A70
   simp only [Option.some.injEq, Prod.mk.injEq] at H
   obtain ⟨rfl, rfl⟩ := H
   go_enter Try.func40, Try.ntmps40
   go_wp2_with (first | ((with_reducible refine gate_callee (f := 64) rfl ?_); refine goesL_ (some 10) rfl rfl Try.func64 (by kernel_rfl) rfl #[.slice A0 l0.length c0] rfl (by (try simp only [List.map_toArray, List.map_cons, List.map_nil]); first | done | rfl | (simp only [List.length_drop, List.length_take]; rfl)) ?_; (with_reducible refine (line_of.calls k (fun k_ => k_ < w.heap.size) _ _ l0 t707 true _ ?side1 A3.out).mono ?_); (case side1 => exact Kd.V_mk HC0.out (Kd.F_below (Kd.C_F (Kd.heap_slice 3 (Kd.heap_int .i64)) HR0.out) (by repeat (first | (with_reducible first | exact HB.out | apply below_alloc | apply pw_below_drewN | apply below_drew1) | exact HB.out)))); rintro e w8 ⟨v708, rfl, ho0, hb⟩; refine ⟨_, rfl, ?_⟩; have n0_ := Aside0.mk (Kd.V_lower (Kd.V_mono (ok' := fun k_ => True) ho0 (fun k_ hk_ => trivial)) (below_size (by repeat (first | (with_reducible first | exact HB.out | apply below_alloc | apply pw_below_drewN | apply below_drew1) | exact HB.out)))); have n1_ := Aside0.mk (below_step (by repeat (first | (with_reducible first | exact HB.out | apply below_alloc | apply pw_below_drewN | apply below_drew1) | exact HB.out)) hb); clear HB; have HO709 := n0_; have HB := n1_; clear n0_ n1_; (try clear hb); (try clear hb2); (try clear hk); (try clear hi); (try clear ho0)) | (go_at_call 67; (with_reducible refine (line_steps.calls a1 true _ A5.out).mono ?_); rintro e w' ⟨rfl, ⟨nd, rfl⟩⟩; obtain ⟨Ao9, co9, eo9⟩ := Kd.V_slice HO709.out; subst eo9) | ((with_reducible refine gate_callee (f := 56) rfl ?_); refine goesL_ (some 22) rfl rfl Try.func56 (by kernel_rfl) rfl #[.slice Ao9 t707.length co9, .int .i64 a1] rfl (by (try simp only [List.map_toArray, List.map_cons, List.map_nil]); first | done | rfl | (simp only [List.length_drop, List.length_take]; rfl)) ?_; (with_reducible refine (lgpower.calls k (fun k_ => True) _ _ t707 a1 t712 _ ?side1 A7.out).mono ?_); (case side1 => exact HO709.out); rintro e w10 ⟨v713, rfl, ho0, hb⟩; refine ⟨_, rfl, ?_⟩; have n0_ := Aside0.mk (Kd.V_elder' (by (with_reducible repeat (first | apply Kd.V_alloc | apply Kd.V_drewN | apply Kd.V_drew)); exact HO709.out) (Kd.S_base ho0) hb); have n1_ := Aside0.mk (Kd.S_lower (Kd.S_mono (ok' := fun k_ => True) ho0 (fun _ hk_ => trivial)) (below_size (by repeat (first | (with_reducible first | exact HB.out | apply below_alloc | apply pw_below_drewN | apply below_drew1) | exact HB.out)))); have n2_ := Aside0.mk (below_step (by repeat (first | (with_reducible first | exact HB.out | apply below_alloc | apply pw_below_drewN | apply below_drew1) | exact HB.out)) hb); clear HO709; clear HB; have HO709 := n0_; have HO714 := n1_; have HB := n2_; clear n0_ n1_ n2_; (try clear hb); (try clear hb2); (try clear hk); (try clear hi); (try clear ho0)))
   go_ret2
   exact ⟨_, by first | rfl | (simp [errW_none, errW_some] <;> rfl) | (simp [*, errW_none, errW_some] <;> rfl), by (with_reducible repeat (first | apply Kd.S_alloc | apply Kd.S_drewN | apply Kd.S_drew)); exact HO714.out, by repeat (first | (with_reducible first | exact HB.out | apply below_alloc | apply pw_below_drewN | apply below_drew1) | exact HB.out)⟩
  ·
   replace c6 := Bool.eq_false_iff.mpr c6
   subst c6
   have H1 : (some (([] : List (List Int)), 2)) = some (r1, r2) := by rw [if_neg (show ¬ (false = true) by decide)] at H; exact H
   clear H
   have H := H1
   clear H1
   simp only [Option.some.injEq, Prod.mk.injEq] at H
   obtain ⟨rfl, rfl⟩ := H
   go_enter Try.func40, Try.ntmps40
   go_wp2_with (first | ((with_reducible refine gate_callee (f := 64) rfl ?_); refine goesL_ (some 10) rfl rfl Try.func64 (by kernel_rfl) rfl #[.slice A0 l0.length c0] rfl (by (try simp only [List.map_toArray, List.map_cons, List.map_nil]); rfl) ?_; (with_reducible refine (line_of.calls k (fun k_ => k_ < w.heap.size) _ _ l0 t707 true _ ?side1 A3.out).mono ?_); (case side1 => exact Kd.V_mk HC0.out (Kd.F_below (Kd.C_F (Kd.heap_slice 3 (Kd.heap_int .i64)) HR0.out) (HB.out))); rintro e w11 ⟨v708, rfl, ho0, hb⟩; refine ⟨_, rfl, ?_⟩; have n0_ := Aside0.mk (Kd.V_lower (Kd.V_mono (ok' := fun k_ => True) ho0 (fun k_ hk_ => trivial)) (below_size (HB.out))); have n1_ := Aside0.mk (below_step (HB.out) hb); clear HB; have HO709 := n0_; have HB := n1_; clear n0_ n1_) | (go_at_call 67; (with_reducible refine (line_steps.calls a1 false _ A5.out).mono ?_); rintro e w' ⟨rfl, ⟨nd, rfl⟩⟩))
   go_ret2
   exact ⟨_, rfl, by first | exact Kd.S_nil _ _ _ _ _ | exact Kd.N_nil _ _ _ _ _ | exact Kd.V_nil _ _ _ _ _ | exact Kd.Q_nil _ _ _ _ _ | exact Kd.R_nil _ _ _ _ _, by repeat (first | exact HB.out | apply below_alloc | apply pw_below_drewN | apply below_drew1)⟩
 ·
  replace c4 := Bool.eq_false_iff.mpr c4
  subst c4
  have H1 : (some (([] : List (List Int)), 2)) = some (r1, r2) := by rw [if_neg (show ¬ (false = true) by decide)] at H; exact H
  clear H
  have H := H1
  clear H1
  simp only [Option.some.injEq, Prod.mk.injEq] at H
  obtain ⟨rfl, rfl⟩ := H
  go_enter Try.func40, Try.ntmps40
  go_wp2_with (first | ((with_reducible refine gate_callee (f := 64) rfl ?_); refine goesL_ (some 10) rfl rfl Try.func64 (by kernel_rfl) rfl #[.slice A0 l0.length c0] rfl (by (try simp only [List.map_toArray, List.map_cons, List.map_nil]); rfl) ?_; (with_reducible refine (line_of.calls k (fun k_ => k_ < w.heap.size) _ _ l0 t707 false _ ?side1 A3.out).mono ?_); (case side1 => exact Kd.V_mk HC0.out (Kd.F_below (Kd.C_F (Kd.heap_slice 3 (Kd.heap_int .i64)) HR0.out) (HB.out))); rintro e w12 ⟨v708, rfl, ho0, hb⟩; refine ⟨_, rfl, ?_⟩; have n0_ := Aside0.mk (Kd.V_lower (Kd.V_mono (ok' := fun k_ => True) ho0 (fun k_ hk_ => trivial)) (below_size (HB.out))); have n1_ := Aside0.mk (below_step (HB.out) hb); clear HB; have HO709 := n0_; have HB := n1_; clear n0_ n1_))
  go_ret2
  exact ⟨_, rfl, by first | exact Kd.S_nil _ _ _ _ _ | exact Kd.N_nil _ _ _ _ _ | exact Kd.V_nil _ _ _ _ _ | exact Kd.Q_nil _ _ _ _ _ | exact Kd.R_nil _ _ _ _ _, HB.out⟩

def l5rows.l0 : Nat → List (List Int) → List (List Int) → Int → Option (Bool)
 | 0, _, _, _ => none
 | k + 1, x0, x1, x5 => if x5 < (x0.length : Int) then (if 0 ≤ x5 then (if x5 < (x1.length : Int) then ((l5same.f k (rd_L1 x0 x5) (rd_L1 x1 x5)).bind fun t624 => (if t624 = true then (l5rows.l0 k x0 x1 (wrap64 (x5 + 1))) else (some false))) else (none)) else (none)) else (some true)
def l5rows.f (k : Nat) (l0 : List (List Int)) (l1 : List (List Int)) : Option (Bool) := if (l0.length : Int) = (l1.length : Int) then (l5rows.l0 k l0 l1 0) else (some false)
theorem l5rows.mono_l : ∀ k, (∀ y0 y1 y2, LeO (l5rows.l0 k y0 y1 y2) (l5rows.l0 (k + 1) y0 y1 y2))
 | 0 => fun _ _ _ r h => by simp [l5rows.l0] at h
 | k + 1 => by
  have ih0 := l5rows.mono_l k
  ·
   intro y0 y1 y2
   unfold l5rows.l0
   repeat' first
   | (with_reducible exact LeO.refl _)
   | (with_reducible exact LeO.none _)
   | (with_reducible refine LeO.ite ?_ ?_)
   | (with_reducible refine LeO.bind ?_ (fun _ => ?_))
   | exact ih0 _ _ _
   | exact l5same.mono _ _ _
   | exact LeO.none _
   | refine LeO.ite ?_ ?_
   | refine LeO.bind ?_ (fun _ => ?_)
theorem l5rows.mono : ∀ a0 a1 k, LeO (l5rows.f k a0 a1) (l5rows.f (k + 1) a0 a1) := by
 intro a0 a1 k
 have ih0 := l5rows.mono_l k
 unfold l5rows.f
 repeat' first
   | (with_reducible exact LeO.refl _)
   | (with_reducible exact LeO.none _)
   | (with_reducible refine LeO.ite ?_ ?_)
   | (with_reducible refine LeO.bind ?_ (fun _ => ?_))
   | exact ih0 _ _ _
   | exact l5same.mono _ _ _
   | exact LeO.none _
   | refine LeO.ite ?_ ?_
   | refine LeO.bind ?_ (fun _ => ?_)
set_option maxHeartbeats 8000000 in
set_option maxRecDepth 100000 in
theorem l5rows.calls (k : Nat) (A0 : Option Addr) (c0 : Nat) (l0 : List (List Int)) (A1 : Option Addr) (c1 : Nat) (l1 : List (List Int)) (r : Bool) (w : World) (hr0 : Kd.C (Kd.slice 3 (Kd.int .i64)) w A0 l0.length l0) (hc0 : l0.length ≤ c0) (hr1 : Kd.C (Kd.slice 3 (Kd.int .i64)) w A1 l1.length l1) (hc1 : l1.length ≤ c1) (h : l5rows.f k l0 l1 = some r) :
  Calls Try.prog 20 #[.slice A0 l0.length c0, .slice A1 l1.length c1] w fun e w' => e = .returned (.bool r) ∧ Drawn0 w w' := by
 have HR0 := Aside0.mk hr0
 have HC0 := Aside0.mk hc0
 clear hr0 hc0
 have HR1 := Aside0.mk hr1
 have HC1 := Aside0.mk hc1
 clear hr1 hc1
 have H : (if (l0.length : Int) = (l1.length : Int) then (l5rows.l0 k l0 l1 0) else (some false)) = some r := h
 clear h
 by_cases c3 : (l0.length : Int) = (l1.length : Int)
 ·
  rw [if_pos c3] at H
  have c3b0 : ((l0.length : Int) == (l1.length : Int)) = true := beq_iff_eq.mpr c3
  have c3b2 : (l0.length == l1.length) = true := by first | simpa using c3 | (simp at c3 ⊢; omega)
  clear c3
  have H' := Aside0.mk H
  clear H
  go_enter Try.func20, Try.ntmps20
  go_wp2
  go_loopg [5] k (fun kq v5 w' => ∃ (x5_1 : Int), v5 = .int .i64 x5_1 ∧ Aside0 (l5rows.l0 kq l0 l1 x5_1 = some r) ∧ Aside0 (kq ≤ k) ∧ Drawn0 w w')
  case atStart => exact ⟨(0), rfl, H', ⟨Nat.le_refl _⟩, by repeat (first | exact Drawn0.refl _ | apply Drawn0.step)⟩
  case round =>
   clear H'
   obtain ⟨x5_1, rfl, HA, HK1, ⟨m1, rfl⟩⟩ := hrel
   cases gk with
   | zero => exact absurd HA.out (by simp [l5rows.l0])
   | succ k1 =>
    have H := HA.out
    clear HA
    simp only [l5rows.l0] at H
    by_cases c4 : x5_1 < (l0.length : Int)
    ·
     rw [if_pos c4] at H
     have c4b0 : decide (x5_1 < (l0.length : Int)) = true := decide_eq_true c4
     clear c4
     by_cases c5 : 0 ≤ x5_1
     ·
      rw [if_pos c5] at H
      have c5b0 : decide (0 ≤ x5_1) = true := decide_eq_true c5
      clear c5
      by_cases c6 : x5_1 < (l1.length : Int)
      ·
       rw [if_pos c6] at H
       have c6b0 : decide (x5_1 < (l1.length : Int)) = true := decide_eq_true c6
       clear c6
       replace H := Option.bind_eq_some_iff.mp H
       obtain ⟨t624, A70, H⟩ := H
       replace H : (if t624 = true then (l5rows.l0 k1 l0 l1 (wrap64 (x5_1 + 1))) else (some false)) = some r := H
       have A7 := Aside0.mk A70
       clear A70
       by_cases c8 : t624 = true
       ·
        subst c8
        have H1 : (l5rows.l0 k1 l0 l1 (wrap64 (x5_1 + 1))) = some r := by rw [if_pos rfl] at H; exact H
        clear H
        have H := H1
        clear H1
        have H' := Aside0.mk H
        clear H
        have p622 : 0 ≤ (x5_1 : Int) := of_decide_eq_true (by assumption)
        have q622 : x5_1 < (l0.length : Int) := of_decide_eq_true (by assumption)
        obtain ⟨ad622, A622_0, c622_0, e622, hx622_0, hl622_0, hi622_0⟩ := at_L1 HR0.out x5_1 p622 q622
        cases e622
        have HR622_0 := Aside0.mk hi622_0
        have HC622_0 := Aside0.mk hl622_0
        clear hi622_0 hl622_0
        replace p622 := eq_true p622
        replace q622 := eq_true q622
        have p623 : 0 ≤ (x5_1 : Int) := of_decide_eq_true (by assumption)
        have q623 : x5_1 < (l1.length : Int) := of_decide_eq_true (by assumption)
        obtain ⟨ad623, A623_0, c623_0, e623, hx623_0, hl623_0, hi623_0⟩ := at_L1 HR1.out x5_1 p623 q623
        cases e623
        have HR623_0 := Aside0.mk hi623_0
        have HC623_0 := Aside0.mk hl623_0
        clear hi623_0 hl623_0
        replace p623 := eq_true p623
        replace q623 := eq_true q623
        go_wp2_with (first | (go_at_call 17; (with_reducible refine (l5same.calls k1 _ _ (rd_L1 l0 x5_1) _ _ (rd_L1 l1 x5_1) true _ ?side1 ?side2 ?side3 ?side4 A7.out).mono ?_); (case side1 => repeat (first | exact HR622_0.out)); (case side2 => exact HC622_0.out); (case side3 => repeat (first | exact HR623_0.out)); (case side4 => exact HC623_0.out); rintro e w' ⟨rfl, ⟨nd, rfl⟩⟩; (try first | exact ⟨rfl, _, World.drewN_drewN _ _ _⟩ | exact ⟨rfl, _, Eq.trans (World.drewN_drewN _ _ _) (congrArg (World.drewN _) (Nat.add_assoc _ _ _))⟩)))
        repeat (go_quiet (first | (go_at_call 17; (with_reducible refine (l5same.calls k1 _ _ (rd_L1 l0 x5_1) _ _ (rd_L1 l1 x5_1) true _ ?side1 ?side2 ?side3 ?side4 A7.out).mono ?_); (case side1 => repeat (first | exact HR622_0.out)); (case side2 => exact HC622_0.out); (case side3 => repeat (first | exact HR623_0.out)); (case side4 => exact HC623_0.out); rintro e w' ⟨rfl, ⟨nd, rfl⟩⟩; (try first | exact ⟨rfl, _, World.drewN_drewN _ _ _⟩ | exact ⟨rfl, _, Eq.trans (World.drewN_drewN _ _ _) (congrArg (World.drewN _) (Nat.add_assoc _ _ _))⟩))); try go_wp2_with (first | (go_at_call 17; (with_reducible refine (l5same.calls k1 _ _ (rd_L1 l0 x5_1) _ _ (rd_L1 l1 x5_1) true _ ?side1 ?side2 ?side3 ?side4 A7.out).mono ?_); (case side1 => repeat (first | exact HR622_0.out)); (case side2 => exact HC622_0.out); (case side3 => repeat (first | exact HR623_0.out)); (case side4 => exact HC623_0.out); rintro e w' ⟨rfl, ⟨nd, rfl⟩⟩; (try first | exact ⟨rfl, _, World.drewN_drewN _ _ _⟩ | exact ⟨rfl, _, Eq.trans (World.drewN_drewN _ _ _) (congrArg (World.drewN _) (Nat.add_assoc _ _ _))⟩))))
        go_roundg k1
        case measure => have := HK1.out; omega
        case rel => exact ⟨(wrap64 (x5_1 + 1)), rfl, H', ⟨by have := HK1.out; omega⟩, by repeat (first | exact Drawn0.refl _ | apply Drawn0.step)⟩
       ·
        replace c8 := Bool.eq_false_iff.mpr c8
        subst c8
        have H1 : (some false) = some r := by rw [if_neg (show ¬ (false = true) by decide)] at H; exact H
        clear H
        have H := H1
        clear H1
        obtain rfl := Option.some.inj H
        have p622 : 0 ≤ (x5_1 : Int) := of_decide_eq_true (by assumption)
        have q622 : x5_1 < (l0.length : Int) := of_decide_eq_true (by assumption)
        obtain ⟨ad622, A622_0, c622_0, e622, hx622_0, hl622_0, hi622_0⟩ := at_L1 HR0.out x5_1 p622 q622
        cases e622
        have HR622_0 := Aside0.mk hi622_0
        have HC622_0 := Aside0.mk hl622_0
        clear hi622_0 hl622_0
        replace p622 := eq_true p622
        replace q622 := eq_true q622
        have p623 : 0 ≤ (x5_1 : Int) := of_decide_eq_true (by assumption)
        have q623 : x5_1 < (l1.length : Int) := of_decide_eq_true (by assumption)
        obtain ⟨ad623, A623_0, c623_0, e623, hx623_0, hl623_0, hi623_0⟩ := at_L1 HR1.out x5_1 p623 q623
        cases e623
        have HR623_0 := Aside0.mk hi623_0
        have HC623_0 := Aside0.mk hl623_0
        clear hi623_0 hl623_0
        replace p623 := eq_true p623
        replace q623 := eq_true q623
        go_wp2_with (first | (go_at_call 17; (with_reducible refine (l5same.calls k1 _ _ (rd_L1 l0 x5_1) _ _ (rd_L1 l1 x5_1) false _ ?side1 ?side2 ?side3 ?side4 A7.out).mono ?_); (case side1 => repeat (first | exact HR622_0.out)); (case side2 => exact HC622_0.out); (case side3 => repeat (first | exact HR623_0.out)); (case side4 => exact HC623_0.out); rintro e w' ⟨rfl, ⟨nd, rfl⟩⟩; (try first | exact ⟨rfl, _, World.drewN_drewN _ _ _⟩ | exact ⟨rfl, _, Eq.trans (World.drewN_drewN _ _ _) (congrArg (World.drewN _) (Nat.add_assoc _ _ _))⟩)))
        repeat (go_quiet (first | (go_at_call 17; (with_reducible refine (l5same.calls k1 _ _ (rd_L1 l0 x5_1) _ _ (rd_L1 l1 x5_1) false _ ?side1 ?side2 ?side3 ?side4 A7.out).mono ?_); (case side1 => repeat (first | exact HR622_0.out)); (case side2 => exact HC622_0.out); (case side3 => repeat (first | exact HR623_0.out)); (case side4 => exact HC623_0.out); rintro e w' ⟨rfl, ⟨nd, rfl⟩⟩; (try first | exact ⟨rfl, _, World.drewN_drewN _ _ _⟩ | exact ⟨rfl, _, Eq.trans (World.drewN_drewN _ _ _) (congrArg (World.drewN _) (Nat.add_assoc _ _ _))⟩))); try go_wp2_with (first | (go_at_call 17; (with_reducible refine (l5same.calls k1 _ _ (rd_L1 l0 x5_1) _ _ (rd_L1 l1 x5_1) false _ ?side1 ?side2 ?side3 ?side4 A7.out).mono ?_); (case side1 => repeat (first | exact HR622_0.out)); (case side2 => exact HC622_0.out); (case side3 => repeat (first | exact HR623_0.out)); (case side4 => exact HC623_0.out); rintro e w' ⟨rfl, ⟨nd, rfl⟩⟩; (try first | exact ⟨rfl, _, World.drewN_drewN _ _ _⟩ | exact ⟨rfl, _, Eq.trans (World.drewN_drewN _ _ _) (congrArg (World.drewN _) (Nat.add_assoc _ _ _))⟩))))
        go_ret
        exact ⟨by first | rfl | (simp; done) | (simp [*]; done), by repeat (first | exact Drawn0.refl _ | apply Drawn0.step)⟩
      ·
       rw [if_neg c6] at H
       exact absurd H (by simp)
     ·
      rw [if_neg c5] at H
      exact absurd H (by simp)
    ·
     rw [if_neg c4] at H
     have c4b0 : decide (x5_1 < (l0.length : Int)) = false := decide_eq_false c4
     clear c4
     obtain rfl := Option.some.inj H
     go_wp2
     go_ret
     exact ⟨by first | rfl | (simp; done) | (simp [*]; done), by repeat (first | exact Drawn0.refl _ | apply Drawn0.step)⟩
 ·
  rw [if_neg c3] at H
  have c3b0 : ((l0.length : Int) == (l1.length : Int)) = false := beq_eq_false_iff_ne.mpr c3
  have c3b2 : (l0.length == l1.length) = false := by first | simpa using c3 | (simp at c3 ⊢; omega)
  obtain rfl := Option.some.inj H
  go_enter Try.func20, Try.ntmps20
  go_wp2
  go_ret
  exact ⟨by first | rfl | (simp; done) | (simp [*]; done), by repeat (first | exact Drawn0.refl _ | apply Drawn0.step)⟩
end Go.Proofs.Ythjmfbmffchicaa.V
