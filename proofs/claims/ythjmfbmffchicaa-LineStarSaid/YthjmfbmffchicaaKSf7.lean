/- Walks of functions that the law LineStar reaches: each theorem '.calls' says that the call comes to what its printed plain function says, under the conditions that stand in it. -/
import Derived.Test.YthjmfbmffchicaaProg
import Derived.Below
import Derived.Deep.Draws
import Derived.Deep.AppendLies
import Derived.Maps.AppendAt
import Derived.OwnWalk
import Derived.Laws.BytesArg
import Derived.Laws.MakeOwn
import Derived.Laws.OwnMore
import Derived.Deep.OwnRows
import Derived.Tactics
import Derived.Lib.ConvBytes
import Derived.Laws.Slices
import Derived.WalkKit
import Derived.KernelRfl
import Derived.RowKit3
import Derived.Deep.LoopGhost
import Derived.Deep.QuietTactic
import Derived.BigQuiet
import Derived.WideLaws
import Derived.Deep.DeepCutAuto
import Derived.Deep.CutBlock
import Derived.Deep.RegionHeld3
import Derived.Laws.Rows
import Derived.Lib.AppendStr
import Derived.ArgAppend
import Derived.Laws.IdiomCopy
import Derived.OrdersHeld
import Derived.Laws.BitsLemmas
import Derived.RowKit
import Derived.Test.YthjmfbmffchicaaKSAid
import Derived.Test.YthjmfbmffchicaaKSWWords
import Derived.Test.YthjmfbmffchicaaKSWLast
import Derived.Test.YthjmfbmffchicaaKSWTab
import Derived.Test.YthjmfbmffchicaaKSWFour
import Derived.Test.YthjmfbmffchicaaKSWQPut
import Derived.Test.YthjmfbmffchicaaKSWApart
import Derived.Test.YthjmfbmffchicaaKSWArr
import Derived.Test.YthjmfbmffchicaaKSWZeros
import Derived.Test.YthjmfbmffchicaaKSWFoot
import Derived.Test.YthjmfbmffchicaaKSWKept
import Derived.Test.YthjmfbmffchicaaKSWShare
import Derived.Test.YthjmfbmffchicaaKSWN
import Derived.Test.YthjmfbmffchicaaKSWFootNe
import Derived.Test.YthjmfbmffchicaaKSWAt
import Derived.Test.YthjmfbmffchicaaKSWEqStruct
import Derived.Test.YthjmfbmffchicaaKSWRepsOne
import Derived.Test.YthjmfbmffchicaaKSWInv
import Derived.Test.YthjmfbmffchicaaKSWInvWords
import Derived.Test.YthjmfbmffchicaaKSWGuard
import Derived.Test.YthjmfbmffchicaaKSWNEv
import Derived.Test.YthjmfbmffchicaaKSWMore
import Derived.Test.YthjmfbmffchicaaKSf0
import Derived.Test.YthjmfbmffchicaaKSf1
import Derived.Test.YthjmfbmffchicaaKSf5
import Derived.Test.YthjmfbmffchicaaKSf6
namespace Go.Proofs.Ythjmfbmffchicaa.V
open Go.RowKit Go.Proofs.YthjmfbmffchicaaW.PrintWords Go.Proofs.YthjmfbmffchicaaW.PrintLast Go.Proofs.YthjmfbmffchicaaW.PrintMore
attribute [local go_sem] max2_int min2_int max_two min_two max_three min_three max_four min_four
set_option linter.unusedVariables false
set_option linter.unusedSimpArgs false
mutual
def l5LineStar.j0 : Nat → List (List Int) → List (List Int) → Int → Int → Bool → Int → Int → Option (Bool)
 | 0, _, _, _, _, _, _, _ => none
 | k + 1, x0, x3, x4, x6, x30, x685000, x685001 => if x30 = true then (if x4 = x6 then ((l5alive.f k).bind fun t685 => (some t685)) else (some false)) else (if x6 = 0 then (l5LineStar.j1 k x0 x3 x4 ((x4 == 11) != (decide (x685000 > 0)))) else (l5LineStar.j1 k x0 x3 x4 ((x4 == 11) != false)))
def l5LineStar.j1 : Nat → List (List Int) → List (List Int) → Int → Bool → Option (Bool)
 | 0, _, _, _, _ => none
 | k + 1, x0, x3, x4, x46 => if x46 = true then (some false) else (if x4 = 0 then ((l5square.f k x3 (x0.length : Int)).bind fun t687 => (if t687 = true then ((l5product.f k x3 x3).bind fun t688 => ((l5rows.f k t688 x3).bind fun t691 => (l5LineStar.j2 k x0 x3 (!t691)))) else (l5LineStar.j2 k x0 x3 true))) else (if x4 = 11 then (if (x3.length : Int) = 0 then ((l5alive.f k).bind fun t686 => (some t686)) else (some false)) else (some false)))
def l5LineStar.j2 : Nat → List (List Int) → List (List Int) → Bool → Option (Bool)
 | 0, _, _, _ => none
 | k + 1, x0, x3, x71 => if x71 = true then (some false) else ((l5product.f k x0 x3).bind fun t692 => (l5LineStar.l0 k x0 x3 t692 0))
def l5LineStar.l0 : Nat → List (List Int) → List (List Int) → List (List Int) → Int → Option (Bool)
 | 0, _, _, _, _ => none
 | k + 1, x0, x3, x7, x8 => if x8 < (x0.length : Int) then (l5LineStar.l1 k x0 x3 x7 x8 0) else ((l5alive.f k).bind fun t695 => (some t695))
def l5LineStar.l1 : Nat → List (List Int) → List (List Int) → List (List Int) → Int → Int → Option (Bool)
 | 0, _, _, _, _, _ => none
 | k + 1, x0, x3, x7, x8, x9 => if x9 < (x0.length : Int) then (if 0 ≤ x8 then (if x8 < (x7.length : Int) then (if 0 ≤ x9 then (if x9 < ((rd_L1 x7 x8).length : Int) then (if x8 = x9 then (if x8 < (x3.length : Int) then (if x9 < ((rd_L1 x3 x8).length : Int) then (if (rd (rd_L1 x3 x8) x9) = (mx (rd (rd_L1 x7 x8) x9) 0) then (l5LineStar.l1 k x0 x3 x7 x8 (wrap64 (x9 + 1))) else (some false)) else (none)) else (none)) else (if x8 < (x3.length : Int) then (if x9 < ((rd_L1 x3 x8).length : Int) then (if (rd (rd_L1 x3 x8) x9) = (rd (rd_L1 x7 x8) x9) then (l5LineStar.l1 k x0 x3 x7 x8 (wrap64 (x9 + 1))) else (some false)) else (none)) else (none))) else (none)) else (none)) else (none)) else (none)) else (l5LineStar.l0 k x0 x3 x7 (wrap64 (x8 + 1)))
end
def l5LineStar.f (k : Nat) (l0 : List (List Int)) : Option (Bool) := (l5few.f k l0).bind fun t675 => (if t675 = true then ((line_Star.f k l0).bind fun bt677 => ((line_Speed.f k l0).bind fun bt681 => (if bt677.2 = 2 then (l5LineStar.j0 k l0 bt677.1 bt677.2 bt681.2.2 true bt681.1 bt681.2.1) else (l5LineStar.j0 k l0 bt677.1 bt677.2 bt681.2.2 (bt681.2.2 == 2) bt681.1 bt681.2.1)))) else ((l5alive.f k).bind fun t676 => (some t676)))
theorem l5LineStar.mono_l : ∀ k, (∀ y0 y1 y2 y3 y4 y5 y6, LeO (l5LineStar.j0 k y0 y1 y2 y3 y4 y5 y6) (l5LineStar.j0 (k + 1) y0 y1 y2 y3 y4 y5 y6)) ∧ (∀ y0 y1 y2 y3, LeO (l5LineStar.j1 k y0 y1 y2 y3) (l5LineStar.j1 (k + 1) y0 y1 y2 y3)) ∧ (∀ y0 y1 y2, LeO (l5LineStar.j2 k y0 y1 y2) (l5LineStar.j2 (k + 1) y0 y1 y2)) ∧ (∀ y0 y1 y2 y3, LeO (l5LineStar.l0 k y0 y1 y2 y3) (l5LineStar.l0 (k + 1) y0 y1 y2 y3)) ∧ (∀ y0 y1 y2 y3 y4, LeO (l5LineStar.l1 k y0 y1 y2 y3 y4) (l5LineStar.l1 (k + 1) y0 y1 y2 y3 y4))
 | 0 => ⟨fun _ _ _ _ _ _ _ r h => by simp [l5LineStar.j0] at h, fun _ _ _ _ r h => by simp [l5LineStar.j1] at h, fun _ _ _ r h => by simp [l5LineStar.j2] at h, fun _ _ _ _ r h => by simp [l5LineStar.l0] at h, fun _ _ _ _ _ r h => by simp [l5LineStar.l1] at h⟩
 | k + 1 => by
  obtain ⟨ih0, ih1, ih2, ih3, ih4⟩ := l5LineStar.mono_l k
  refine ⟨?_, ?_, ?_, ?_, ?_⟩
  ·
   intro y0 y1 y2 y3 y4 y5 y6
   unfold l5LineStar.j0
   repeat' first
   | (with_reducible exact ih0 _ _ _ _ _ _ _)
   | (with_reducible exact ih1 _ _ _ _)
   | (with_reducible exact ih2 _ _ _)
   | (with_reducible exact ih3 _ _ _ _)
   | (with_reducible exact ih4 _ _ _ _ _)
   | (with_reducible exact line_Speed.mono _ _)
   | (with_reducible exact line_Star.mono _ _)
   | (with_reducible exact l5alive.mono _)
   | (with_reducible exact l5few.mono _ _)
   | (with_reducible exact l5product.mono _ _ _)
   | (with_reducible exact l5rows.mono _ _ _)
   | (with_reducible exact l5square.mono _ _ _)
   | (with_reducible exact LeO.refl _)
   | (with_reducible exact LeO.none _)
   | (with_reducible refine LeO.ite ?_ ?_)
   | (with_reducible refine LeO.bind ?_ (fun _ => ?_))
   | exact ih0 _ _ _ _ _ _ _
   | exact ih1 _ _ _ _
   | exact ih2 _ _ _
   | exact ih3 _ _ _ _
   | exact ih4 _ _ _ _ _
   | exact line_Speed.mono _ _
   | exact line_Star.mono _ _
   | exact l5alive.mono _
   | exact l5few.mono _ _
   | exact l5product.mono _ _ _
   | exact l5rows.mono _ _ _
   | exact l5square.mono _ _ _
   | exact LeO.none _
   | refine LeO.ite ?_ ?_
   | refine LeO.bind ?_ (fun _ => ?_)
  ·
   intro y0 y1 y2 y3
   unfold l5LineStar.j1
   repeat' first
   | (with_reducible exact ih0 _ _ _ _ _ _ _)
   | (with_reducible exact ih1 _ _ _ _)
   | (with_reducible exact ih2 _ _ _)
   | (with_reducible exact ih3 _ _ _ _)
   | (with_reducible exact ih4 _ _ _ _ _)
   | (with_reducible exact line_Speed.mono _ _)
   | (with_reducible exact line_Star.mono _ _)
   | (with_reducible exact l5alive.mono _)
   | (with_reducible exact l5few.mono _ _)
   | (with_reducible exact l5product.mono _ _ _)
   | (with_reducible exact l5rows.mono _ _ _)
   | (with_reducible exact l5square.mono _ _ _)
   | (with_reducible exact LeO.refl _)
   | (with_reducible exact LeO.none _)
   | (with_reducible refine LeO.ite ?_ ?_)
   | (with_reducible refine LeO.bind ?_ (fun _ => ?_))
   | exact ih0 _ _ _ _ _ _ _
   | exact ih1 _ _ _ _
   | exact ih2 _ _ _
   | exact ih3 _ _ _ _
   | exact ih4 _ _ _ _ _
   | exact line_Speed.mono _ _
   | exact line_Star.mono _ _
   | exact l5alive.mono _
   | exact l5few.mono _ _
   | exact l5product.mono _ _ _
   | exact l5rows.mono _ _ _
   | exact l5square.mono _ _ _
   | exact LeO.none _
   | refine LeO.ite ?_ ?_
   | refine LeO.bind ?_ (fun _ => ?_)
  ·
   intro y0 y1 y2
   unfold l5LineStar.j2
   repeat' first
   | (with_reducible exact ih0 _ _ _ _ _ _ _)
   | (with_reducible exact ih1 _ _ _ _)
   | (with_reducible exact ih2 _ _ _)
   | (with_reducible exact ih3 _ _ _ _)
   | (with_reducible exact ih4 _ _ _ _ _)
   | (with_reducible exact line_Speed.mono _ _)
   | (with_reducible exact line_Star.mono _ _)
   | (with_reducible exact l5alive.mono _)
   | (with_reducible exact l5few.mono _ _)
   | (with_reducible exact l5product.mono _ _ _)
   | (with_reducible exact l5rows.mono _ _ _)
   | (with_reducible exact l5square.mono _ _ _)
   | (with_reducible exact LeO.refl _)
   | (with_reducible exact LeO.none _)
   | (with_reducible refine LeO.ite ?_ ?_)
   | (with_reducible refine LeO.bind ?_ (fun _ => ?_))
   | exact ih0 _ _ _ _ _ _ _
   | exact ih1 _ _ _ _
   | exact ih2 _ _ _
   | exact ih3 _ _ _ _
   | exact ih4 _ _ _ _ _
   | exact line_Speed.mono _ _
   | exact line_Star.mono _ _
   | exact l5alive.mono _
   | exact l5few.mono _ _
   | exact l5product.mono _ _ _
   | exact l5rows.mono _ _ _
   | exact l5square.mono _ _ _
   | exact LeO.none _
   | refine LeO.ite ?_ ?_
   | refine LeO.bind ?_ (fun _ => ?_)
  ·
   intro y0 y1 y2 y3
   unfold l5LineStar.l0
   repeat' first
   | (with_reducible exact ih0 _ _ _ _ _ _ _)
   | (with_reducible exact ih1 _ _ _ _)
   | (with_reducible exact ih2 _ _ _)
   | (with_reducible exact ih3 _ _ _ _)
   | (with_reducible exact ih4 _ _ _ _ _)
   | (with_reducible exact line_Speed.mono _ _)
   | (with_reducible exact line_Star.mono _ _)
   | (with_reducible exact l5alive.mono _)
   | (with_reducible exact l5few.mono _ _)
   | (with_reducible exact l5product.mono _ _ _)
   | (with_reducible exact l5rows.mono _ _ _)
   | (with_reducible exact l5square.mono _ _ _)
   | (with_reducible exact LeO.refl _)
   | (with_reducible exact LeO.none _)
   | (with_reducible refine LeO.ite ?_ ?_)
   | (with_reducible refine LeO.bind ?_ (fun _ => ?_))
   | exact ih0 _ _ _ _ _ _ _
   | exact ih1 _ _ _ _
   | exact ih2 _ _ _
   | exact ih3 _ _ _ _
   | exact ih4 _ _ _ _ _
   | exact line_Speed.mono _ _
   | exact line_Star.mono _ _
   | exact l5alive.mono _
   | exact l5few.mono _ _
   | exact l5product.mono _ _ _
   | exact l5rows.mono _ _ _
   | exact l5square.mono _ _ _
   | exact LeO.none _
   | refine LeO.ite ?_ ?_
   | refine LeO.bind ?_ (fun _ => ?_)
  ·
   intro y0 y1 y2 y3 y4
   unfold l5LineStar.l1
   repeat' first
   | (with_reducible exact ih0 _ _ _ _ _ _ _)
   | (with_reducible exact ih1 _ _ _ _)
   | (with_reducible exact ih2 _ _ _)
   | (with_reducible exact ih3 _ _ _ _)
   | (with_reducible exact ih4 _ _ _ _ _)
   | (with_reducible exact line_Speed.mono _ _)
   | (with_reducible exact line_Star.mono _ _)
   | (with_reducible exact l5alive.mono _)
   | (with_reducible exact l5few.mono _ _)
   | (with_reducible exact l5product.mono _ _ _)
   | (with_reducible exact l5rows.mono _ _ _)
   | (with_reducible exact l5square.mono _ _ _)
   | (with_reducible exact LeO.refl _)
   | (with_reducible exact LeO.none _)
   | (with_reducible refine LeO.ite ?_ ?_)
   | (with_reducible refine LeO.bind ?_ (fun _ => ?_))
   | exact ih0 _ _ _ _ _ _ _
   | exact ih1 _ _ _ _
   | exact ih2 _ _ _
   | exact ih3 _ _ _ _
   | exact ih4 _ _ _ _ _
   | exact line_Speed.mono _ _
   | exact line_Star.mono _ _
   | exact l5alive.mono _
   | exact l5few.mono _ _
   | exact l5product.mono _ _ _
   | exact l5rows.mono _ _ _
   | exact l5square.mono _ _ _
   | exact LeO.none _
   | refine LeO.ite ?_ ?_
   | refine LeO.bind ?_ (fun _ => ?_)
theorem l5LineStar.mono : ∀ a0 k, LeO (l5LineStar.f k a0) (l5LineStar.f (k + 1) a0) := by
 intro a0 k
 obtain ⟨ih0, ih1, ih2, ih3, ih4⟩ := l5LineStar.mono_l k
 unfold l5LineStar.f
 repeat' first
   | (with_reducible exact ih0 _ _ _ _ _ _ _)
   | (with_reducible exact ih1 _ _ _ _)
   | (with_reducible exact ih2 _ _ _)
   | (with_reducible exact ih3 _ _ _ _)
   | (with_reducible exact ih4 _ _ _ _ _)
   | (with_reducible exact line_Speed.mono _ _)
   | (with_reducible exact line_Star.mono _ _)
   | (with_reducible exact l5alive.mono _)
   | (with_reducible exact l5few.mono _ _)
   | (with_reducible exact l5product.mono _ _ _)
   | (with_reducible exact l5rows.mono _ _ _)
   | (with_reducible exact l5square.mono _ _ _)
   | (with_reducible exact LeO.refl _)
   | (with_reducible exact LeO.none _)
   | (with_reducible refine LeO.ite ?_ ?_)
   | (with_reducible refine LeO.bind ?_ (fun _ => ?_))
   | exact ih0 _ _ _ _ _ _ _
   | exact ih1 _ _ _ _
   | exact ih2 _ _ _
   | exact ih3 _ _ _ _
   | exact ih4 _ _ _ _ _
   | exact line_Speed.mono _ _
   | exact line_Star.mono _ _
   | exact l5alive.mono _
   | exact l5few.mono _ _
   | exact l5product.mono _ _ _
   | exact l5rows.mono _ _ _
   | exact l5square.mono _ _ _
   | exact LeO.none _
   | refine LeO.ite ?_ ?_
   | refine LeO.bind ?_ (fun _ => ?_)
set_option maxHeartbeats 8000000 in
set_option maxRecDepth 100000 in
theorem l5LineStar.calls (k : Nat) (A0 : Option Addr) (c0 : Nat) (l0 : List (List Int)) (r : Bool) (w : World) (hr0 : Kd.C (Kd.slice 3 (Kd.int .i64)) w A0 l0.length l0) (hc0 : l0.length ≤ c0) (h : l5LineStar.f k l0 = some r) (hr_ : Aside0 (r = true)) :
  Calls Try.prog 4 #[.slice A0 l0.length c0] w fun e w' => e = .returned (.bool r) ∧ Below w.heap.size w w' := by
 have hu37 := Try.underlying37
 have HR0 := Aside0.mk hr0
 have HC0 := Aside0.mk hc0
 clear hr0 hc0
 have HB := Aside0.mk (Below.refl w.heap.size w)
 have H : ((l5few.f k l0).bind fun t675 => (if t675 = true then ((line_Star.f k l0).bind fun bt677 => ((line_Speed.f k l0).bind fun bt681 => (if bt677.2 = 2 then (l5LineStar.j0 k l0 bt677.1 bt677.2 bt681.2.2 true bt681.1 bt681.2.1) else (l5LineStar.j0 k l0 bt677.1 bt677.2 bt681.2.2 (bt681.2.2 == 2) bt681.1 bt681.2.1)))) else ((l5alive.f k).bind fun t676 => (some t676)))) = some r := h
 clear h
 replace H := Option.bind_eq_some_iff.mp H
 obtain ⟨t675, A20, H⟩ := H
 replace H : (if t675 = true then ((line_Star.f k l0).bind fun bt677 => ((line_Speed.f k l0).bind fun bt681 => (if bt677.2 = 2 then (l5LineStar.j0 k l0 bt677.1 bt677.2 bt681.2.2 true bt681.1 bt681.2.1) else (l5LineStar.j0 k l0 bt677.1 bt677.2 bt681.2.2 (bt681.2.2 == 2) bt681.1 bt681.2.1)))) else ((l5alive.f k).bind fun t676 => (some t676))) = some r := H
 have A2 := Aside0.mk A20
 clear A20
 by_cases c3 : t675 = true
 ·
  subst c3
  have H1 : ((line_Star.f k l0).bind fun bt677 => ((line_Speed.f k l0).bind fun bt681 => (if bt677.2 = 2 then (l5LineStar.j0 k l0 bt677.1 bt677.2 bt681.2.2 true bt681.1 bt681.2.1) else (l5LineStar.j0 k l0 bt677.1 bt677.2 bt681.2.2 (bt681.2.2 == 2) bt681.1 bt681.2.1)))) = some r := by rw [if_pos rfl] at H; exact H
  clear H
  have H := H1
  clear H1
  replace H := Option.bind_eq_some_iff.mp H
  obtain ⟨⟨t677, t678⟩, A40, H⟩ := H
  replace H : ((line_Speed.f k l0).bind fun bt681 => (if t678 = 2 then (l5LineStar.j0 k l0 t677 t678 bt681.2.2 true bt681.1 bt681.2.1) else (l5LineStar.j0 k l0 t677 t678 bt681.2.2 (bt681.2.2 == 2) bt681.1 bt681.2.1))) = some r := H
  have A4 := Aside0.mk A40
  clear A40
  replace H := Option.bind_eq_some_iff.mp H
  obtain ⟨⟨t681, t682, t683⟩, A50, H⟩ := H
  replace H : (if t678 = 2 then (l5LineStar.j0 k l0 t677 t678 t683 true t681 t682) else (l5LineStar.j0 k l0 t677 t678 t683 (t683 == 2) t681 t682)) = some r := H
  have A5 := Aside0.mk A50
  clear A50
  have HC6 := Aside0.mk H
  clear H
  go_enter Try.func4, Try.ntmps4
  go_upto_region 5 with (first | ((with_reducible refine gate_callee (f := 12) rfl ?_); refine goesL_ (some 12) rfl rfl Try.func12 (by kernel_rfl) rfl #[.slice A0 l0.length c0] rfl (by (try simp only [List.map_toArray, List.map_cons, List.map_nil]); first | done | rfl | (simp only [List.length_drop, List.length_take]; rfl)) ?_; (with_reducible refine (l5few.calls k _ _ l0 true _ ?side1 ?side2 A2.out).mono ?_); (case side1 => repeat (first | exact HR0.out | (with_reducible refine Kd.C_alloc ?_ _) | (with_reducible refine Kd.C_drewN ?_ _) | (with_reducible refine Kd.C_drew ?_))); (case side2 => exact HC0.out); rintro e w' ⟨rfl, ⟨nd, rfl⟩⟩; refine ⟨_, rfl, ?_⟩) | ((with_reducible refine gate_callee (f := 21) rfl ?_); refine goesL_ (some 17) rfl rfl Try.func21 (by kernel_rfl) rfl #[.slice A0 l0.length c0] rfl (by (try simp only [List.map_toArray, List.map_cons, List.map_nil]); first | done | rfl | (simp only [List.length_drop, List.length_take]; rfl)) ?_; (with_reducible refine (line_Star.calls k _ _ l0 t677 t678 _ ?side1 ?side2 A4.out).mono ?_); (case side1 => repeat (first | exact HR0.out | (with_reducible refine Kd.C_alloc ?_ _) | (with_reducible refine Kd.C_drewN ?_ _) | (with_reducible refine Kd.C_drew ?_))); (case side2 => exact HC0.out); rintro e w7 ⟨v679, rfl, ho0, hb⟩; refine ⟨_, rfl, ?_⟩; have n0_ := Aside0.mk (Kd.S_lower ho0 (below_size (by repeat (first | (with_reducible first | exact HB.out | apply below_alloc | apply pw_below_drewN | apply below_drew1) | exact HB.out)))); have n1_ := Aside0.mk (below_step (by repeat (first | (with_reducible first | exact HB.out | apply below_alloc | apply pw_below_drewN | apply below_drew1) | exact HB.out)) hb); clear HB; have HO680 := n0_; have HB := n1_; clear n0_ n1_; (try clear hb); (try clear hb2); (try clear hk); (try clear hi); (try clear ho0)) | ((with_reducible refine gate_callee (f := 22) rfl ?_); refine goesL_ (some 22) rfl rfl Try.func22 (by kernel_rfl) rfl #[.slice A0 l0.length c0] rfl (by (try simp only [List.map_toArray, List.map_cons, List.map_nil]); first | done | rfl | (simp only [List.length_drop, List.length_take]; rfl)) ?_; (with_reducible refine (line_Speed.calls k _ _ l0 t681 t682 t683 _ ?side1 ?side2 A5.out).mono ?_); (case side1 => repeat (first | exact (Kd.C_below HR0.out HB.out) | (with_reducible refine Kd.C_alloc ?_ _) | (with_reducible refine Kd.C_drewN ?_ _) | (with_reducible refine Kd.C_drew ?_))); (case side2 => exact HC0.out); rintro e w8 ⟨rfl, hb⟩; refine ⟨_, rfl, ?_⟩; have n0_ := Aside0.mk (Kd.S_below (by (with_reducible repeat (first | apply Kd.S_alloc | apply Kd.S_drewN | apply Kd.S_drew)); exact HO680.out) hb); have n1_ := Aside0.mk (below_step (by repeat (first | (with_reducible first | exact HB.out | apply below_alloc | apply pw_below_drewN | apply below_drew1) | exact HB.out)) hb); clear HO680; clear HB; have HO680 := n0_; have HB := n1_; clear n0_ n1_; (try clear hb); (try clear hb2); (try clear hk); (try clear hi)) | ((with_reducible refine gate_dst (N := 5) rfl ?_); (try (refine gate_guard (by rfl) ?_; dsimp only)); refine box_event ?hg (N := 5) ?hd (cs := #[.int .i64 0, .int .i64 0]) (t := 37) ?hr ?_; (case hd => rfl); (case hg => rfl); (case hr => first | (go_simp; done) | (go_simp; rfl)); intro gb684 hg w9 hbox hb; have n0_ := Aside0.mk (Kd.S_below (by (with_reducible repeat (first | apply Kd.S_alloc | apply Kd.S_drewN | apply Kd.S_drew)); exact HO680.out) hb); have n1_ := Aside0.mk (below_step (by repeat (first | (with_reducible first | exact HB.out | apply below_alloc | apply pw_below_drewN | apply below_drew1) | exact HB.out)) hb); have n2_ := Aside0.mk (hbox); have n3_ := Aside0.mk ((by rw [hg]; exact (below_size (by repeat (first | (with_reducible first | exact HB.out | apply below_alloc | apply pw_below_drewN | apply below_drew1) | exact HB.out))) : w.heap.size ≤ gb684)); have n4_ := Aside0.mk ((by rw [hg]; exact (below_size (by repeat (first | (with_reducible first | exact HB.out | apply below_alloc | apply pw_below_drewN | apply below_drew1) | exact HB.out))) : w.heap.size ≤ gb684)); clear HO680; clear HB; have HO680 := n0_; have HB := n1_; have BK684 := n2_; have GW684 := n3_; have GE684 := n4_; clear n0_ n1_ n2_ n3_ n4_; clear hb hbox hg; have hcz10_0 : w9.cell? ⟨gb684, 0, none⟩ = some (.int .i64 0) := (blk_cell BK684.out 0).trans rfl; have hcz10_1 : w9.cell? ⟨gb684, 1, none⟩ = some (.int .i64 0) := (blk_cell BK684.out 1).trans rfl; have hfz10_0 := blk_frozen BK684.out 0; have hfz10_1 := blk_frozen BK684.out 1))
  (try simp only [Act.put, List.setIfInBounds_toArray, List.set_cons_zero, List.set_cons_succ])
  go_cut [30] (fun v30 wc => ∃ (kq : Nat) (x30_5 : Bool), v30 = .bool x30_5 ∧ Aside0 (l5LineStar.j0 kq l0 t677 t678 t683 x30_5 t681 t682 = some r) ∧ Aside0 (kq ≤ k) ∧ Aside0 (Kd.S (Kd.slice 3 (Kd.int .i64)) 26 wc w.heap.size (fun _ => True) v679 t677) ∧ Aside0 (wc.heap[gb684]? = some (.cells #[.int .i64 t681, .int .i64 t682] 37 (0, 0))) ∧ Aside0 (Below w.heap.size w wc))
  case first =>
   have H := HC6.out
   clear HC6
   by_cases c11 : t678 = 2
   ·
    rw [if_pos c11] at H
    have c11b0 : (t678 == 2) = true := beq_iff_eq.mpr c11
    have c11b1 : (t678 != 2) = false := bne_eq_false_iff_eq.mpr c11
    clear c11
    (first | rw [c11b0] | (simp only [i64_w, i32_w]; rw [c11b0]) | skip)
    have H' := Aside0.mk H
    clear H
    go_wp2
    go_meet
    case rel => exact ⟨_, (true), (by first | rfl | (simp; done) | (simp [*]; done)), H', ⟨by first | omega | exact Nat.le_refl _⟩, ⟨by (with_reducible repeat (first | apply Kd.S_alloc | apply Kd.S_drewN | apply Kd.S_drew)); exact Kd.S_mono (Kd.S_far (p := ⟨gb684, 1, none⟩) (Kd.S_far (p := ⟨gb684, 0, none⟩) (Kd.S_types HO680.out BK684.out (by decide)) (fun _ hk => hk.2) (.int .i64 t681)) (fun _ hk => hk.2) (.int .i64 t682)) (fun _ hk => trivial)⟩, ⟨by (with_reducible repeat (first | refine blk_drewN ?_ _ | refine blk_drew ?_ | refine blk_alloc ?_ _)); refine blk_put (cs := #[.int .i64 t681, .int .i64 0]) ?_ 1 _ rfl; (with_reducible repeat (first | refine blk_drewN ?_ _ | refine blk_drew ?_ | refine blk_alloc ?_ _)); refine blk_put (cs := #[.int .i64 0, .int .i64 0]) ?_ 0 _ rfl; (with_reducible repeat (first | refine blk_drewN ?_ _ | refine blk_drew ?_ | refine blk_alloc ?_ _)); exact BK684.out⟩, ⟨by repeat (first | (with_reducible first | exact HB.out | apply below_alloc | apply pw_below_drewN | apply below_drew1 | refine below_set ?_ GE684.out) | exact HB.out)⟩⟩
   ·
    rw [if_neg c11] at H
    have c11b0 : (t678 == 2) = false := beq_eq_false_iff_ne.mpr c11
    have c11b1 : (t678 != 2) = true := bne_iff_ne.mpr c11
    (first | rw [c11b0] | (simp only [i64_w, i32_w]; rw [c11b0]) | skip)
    have H' := Aside0.mk H
    clear H
    go_wp2
    go_meet
    case rel => exact ⟨_, ((t683 == 2)), (by first | rfl | (simp; done) | (simp [*]; done)), H', ⟨by first | omega | exact Nat.le_refl _⟩, ⟨by (with_reducible repeat (first | apply Kd.S_alloc | apply Kd.S_drewN | apply Kd.S_drew)); exact Kd.S_mono (Kd.S_far (p := ⟨gb684, 1, none⟩) (Kd.S_far (p := ⟨gb684, 0, none⟩) (Kd.S_types HO680.out BK684.out (by decide)) (fun _ hk => hk.2) (.int .i64 t681)) (fun _ hk => hk.2) (.int .i64 t682)) (fun _ hk => trivial)⟩, ⟨by (with_reducible repeat (first | refine blk_drewN ?_ _ | refine blk_drew ?_ | refine blk_alloc ?_ _)); refine blk_put (cs := #[.int .i64 t681, .int .i64 0]) ?_ 1 _ rfl; (with_reducible repeat (first | refine blk_drewN ?_ _ | refine blk_drew ?_ | refine blk_alloc ?_ _)); refine blk_put (cs := #[.int .i64 0, .int .i64 0]) ?_ 0 _ rfl; (with_reducible repeat (first | refine blk_drewN ?_ _ | refine blk_drew ?_ | refine blk_alloc ?_ _)); exact BK684.out⟩, ⟨by repeat (first | (with_reducible first | exact HB.out | apply below_alloc | apply pw_below_drewN | apply below_drew1 | refine below_set ?_ GE684.out) | exact HB.out)⟩⟩
  case rest =>
   clear HC6
   try clear c1
   try clear c2
   try clear p2
   try clear c3
   try clear c4
   try clear c11
   try clear c11b0
   try clear c11b1
   try clear hcz10_0
   try clear hcz10_1
   try clear hfz10_0
   try clear hfz10_1
   obtain ⟨kq, x30_5, rfl, HA, HJ5, HO_3, BK684, HB⟩ := hcut
   cases kq with
   | zero => exact absurd HA.out (by simp [l5LineStar.j0])
   | succ kj5 =>
    have H := HA.out
    clear HA
    simp only [l5LineStar.j0] at H
    by_cases c12 : x30_5 = true
    ·
     subst c12
     have H1 : (if t678 = t683 then ((l5alive.f kj5).bind fun t685 => (some t685)) else (some false)) = some r := by rw [if_pos rfl] at H; exact H
     clear H
     have H := H1
     clear H1
     by_cases c13 : t678 = t683
     ·
      rw [if_pos c13] at H
      have c13b0 : (t678 == t683) = true := beq_iff_eq.mpr c13
      have c13b1 : (t678 != t683) = false := bne_eq_false_iff_eq.mpr c13
      clear c13
      replace H := Option.bind_eq_some_iff.mp H
      obtain ⟨t685, A140, H⟩ := H
      replace H : (some t685) = some r := H
      have A14 := Aside0.mk A140
      clear A140
      obtain rfl := Option.some.inj H
      go_wp2_with (first | (go_at_call 13; (with_reducible refine (l5alive.calls kj5  t685 _ A14.out).mono ?_); rintro e w15 ⟨rfl, hb⟩; have n0_ := Aside0.mk (Kd.S_below (by (with_reducible repeat (first | apply Kd.S_alloc | apply Kd.S_drewN | apply Kd.S_drew)); exact HO_3.out) hb); have n1_ := Aside0.mk (blk_below (g := gb684) (o := .cells #[.int .i64 t681, .int .i64 t682] 37 (0, 0)) (by (with_reducible repeat (first | refine blk_drewN ?_ _ | refine blk_drew ?_ | refine blk_alloc ?_ _)); exact BK684.out) hb); have n2_ := Aside0.mk (below_step (by repeat (first | (with_reducible first | exact HB.out | apply below_alloc | apply pw_below_drewN | apply below_drew1 | refine below_set ?_ GE684.out) | exact HB.out)) hb); clear HO_3; clear BK684; clear HB; have HO_3 := n0_; have BK684 := n1_; have HB := n2_; clear n0_ n1_ n2_; (try clear hb); (try clear hb2); (try clear hk); (try clear hi)))
      go_ret
      exact ⟨by first | rfl | (simp [errW_none, errW_some] <;> rfl) | (simp [*, errW_none, errW_some] <;> rfl), by repeat (first | (with_reducible first | exact HB.out | apply below_alloc | apply pw_below_drewN | apply below_drew1 | refine below_set ?_ GE684.out) | exact HB.out)⟩
     ·
      rw [if_neg c13] at H
      have c13b0 : (t678 == t683) = false := beq_eq_false_iff_ne.mpr c13
      have c13b1 : (t678 != t683) = true := bne_iff_ne.mpr c13
      exact absurd (H.trans (congrArg some hr_.out)) (by simp)
    ·
     replace c12 := Bool.eq_false_iff.mpr c12
     subst c12
     have H1 : (if t683 = 0 then (l5LineStar.j1 kj5 l0 t677 t678 ((t678 == 11) != (decide (t681 > 0)))) else (l5LineStar.j1 kj5 l0 t677 t678 ((t678 == 11) != false))) = some r := by rw [if_neg (show ¬ (false = true) by decide)] at H; exact H
     clear H
     have H := H1
     clear H1
     have HC16 := Aside0.mk H
     clear H
     go_upto_region 7 with (fail)
     go_cut [46] (fun v46 wc => ∃ (kq : Nat) (x46_15 : Bool), v46 = .bool x46_15 ∧ Aside0 (l5LineStar.j1 kq l0 t677 t678 x46_15 = some r) ∧ Aside0 (kq ≤ kj5) ∧ Aside0 (Kd.S (Kd.slice 3 (Kd.int .i64)) 26 wc w.heap.size (fun _ => True) v679 t677) ∧ Aside0 (wc.heap[gb684]? = some (.cells #[.int .i64 t681, .int .i64 t682] 37 (0, 0))) ∧ Aside0 (Below w.heap.size w wc))
     case first =>
      have H := HC16.out
      clear HC16
      by_cases c17 : t683 = 0
      ·
       rw [if_pos c17] at H
       have c17b0 : (t683 == 0) = true := beq_iff_eq.mpr c17
       have c17b1 : (t683 != 0) = false := bne_eq_false_iff_eq.mpr c17
       clear c17
       (first | rw [c17b0] | (simp only [i64_w, i32_w]; rw [c17b0]) | skip)
       have H' := Aside0.mk H
       clear H
       have hcz18_0 : wc.cell? ⟨gb684, 0, none⟩ = some (.int .i64 t681) := (blk_cell BK684.out 0).trans rfl
       have hcz18_1 : wc.cell? ⟨gb684, 1, none⟩ = some (.int .i64 t682) := (blk_cell BK684.out 1).trans rfl
       have hfz18_0 := blk_frozen BK684.out 0
       have hfz18_1 := blk_frozen BK684.out 1
       go_wp2
       go_meet
       case rel => exact ⟨_, (((t678 == 11) != (decide (t681 > 0)))), (by first | rfl | (simp; done) | (simp [*]; done)), H', ⟨by have := HJ5.out; first | omega | exact Nat.le_refl _⟩, ⟨by (with_reducible repeat (first | apply Kd.S_alloc | apply Kd.S_drewN | apply Kd.S_drew)); exact HO_3.out⟩, ⟨by (with_reducible repeat (first | refine blk_drewN ?_ _ | refine blk_drew ?_ | refine blk_alloc ?_ _)); exact BK684.out⟩, ⟨by repeat (first | (with_reducible first | exact HB.out | apply below_alloc | apply pw_below_drewN | apply below_drew1 | refine below_set ?_ GE684.out) | exact HB.out)⟩⟩
      ·
       rw [if_neg c17] at H
       have c17b0 : (t683 == 0) = false := beq_eq_false_iff_ne.mpr c17
       have c17b1 : (t683 != 0) = true := bne_iff_ne.mpr c17
       (first | rw [c17b0] | (simp only [i64_w, i32_w]; rw [c17b0]) | skip)
       have H' := Aside0.mk H
       clear H
       go_wp2
       go_meet
       case rel => exact ⟨_, (((t678 == 11) != false)), (by first | rfl | (simp; done) | (simp [*]; done)), H', ⟨by have := HJ5.out; first | omega | exact Nat.le_refl _⟩, ⟨by (with_reducible repeat (first | apply Kd.S_alloc | apply Kd.S_drewN | apply Kd.S_drew)); exact HO_3.out⟩, ⟨by (with_reducible repeat (first | refine blk_drewN ?_ _ | refine blk_drew ?_ | refine blk_alloc ?_ _)); exact BK684.out⟩, ⟨by repeat (first | (with_reducible first | exact HB.out | apply below_alloc | apply pw_below_drewN | apply below_drew1 | refine below_set ?_ GE684.out) | exact HB.out)⟩⟩
     case rest =>
      clear HC16
      try clear c1
      try clear c2
      try clear p2
      try clear c3
      try clear c4
      try clear c11
      try clear c11b0
      try clear c11b1
      try clear c12
      try clear c13
      try clear c13b0
      try clear c13b1
      try clear c17
      try clear c17b0
      try clear c17b1
      try clear hcz10_0
      try clear hcz10_1
      try clear hcz18_0
      try clear hcz18_1
      try clear hfz10_0
      try clear hfz10_1
      try clear hfz18_0
      try clear hfz18_1
      try clear p2
      obtain ⟨kq, x46_15, rfl, HA, HJ15, HO_3, BK684, HB⟩ := hcut
      cases kq with
      | zero => exact absurd HA.out (by simp [l5LineStar.j1])
      | succ kj15 =>
       have H := HA.out
       clear HA
       simp only [l5LineStar.j1] at H
       by_cases c19 : x46_15 = true
       ·
        subst c19
        have H1 : (some false) = some r := by rw [if_pos rfl] at H; exact H
        clear H
        have H := H1
        clear H1
        exact absurd (H.trans (congrArg some hr_.out)) (by simp)
       ·
        replace c19 := Bool.eq_false_iff.mpr c19
        subst c19
        have H1 : (if t678 = 0 then ((l5square.f kj15 t677 (l0.length : Int)).bind fun t687 => (if t687 = true then ((l5product.f kj15 t677 t677).bind fun t688 => ((l5rows.f kj15 t688 t677).bind fun t691 => (l5LineStar.j2 kj15 l0 t677 (!t691)))) else (l5LineStar.j2 kj15 l0 t677 true))) else (if t678 = 11 then (if (t677.length : Int) = 0 then ((l5alive.f kj15).bind fun t686 => (some t686)) else (some false)) else (some false))) = some r := by rw [if_neg (show ¬ (false = true) by decide)] at H; exact H
        clear H
        have H := H1
        clear H1
        by_cases c20 : t678 = 0
        ·
         rw [if_pos c20] at H
         have c20b0 : (t678 == 0) = true := beq_iff_eq.mpr c20
         have c20b1 : (t678 != 0) = false := bne_eq_false_iff_eq.mpr c20
         clear c20
         have HC21 := Aside0.mk H
         clear H
         go_upto_region 11 with (fail)
         go_cut [71] (fun v71 wc => ∃ (kq : Nat) (x71_20 : Bool), v71 = .bool x71_20 ∧ Aside0 (l5LineStar.j2 kq l0 t677 x71_20 = some r) ∧ Aside0 (kq ≤ kj15) ∧ Aside0 (Kd.S (Kd.slice 3 (Kd.int .i64)) 26 wc w.heap.size (fun _ => True) v679 t677) ∧ Aside0 (wc.heap[gb684]? = some (.cells #[.int .i64 t681, .int .i64 t682] 37 (0, 0))) ∧ Aside0 (Below w.heap.size w wc))
         case first =>
          have H := HC21.out
          clear HC21
          replace H := Option.bind_eq_some_iff.mp H
          obtain ⟨t687, A220, H⟩ := H
          replace H : (if t687 = true then ((l5product.f kj15 t677 t677).bind fun t688 => ((l5rows.f kj15 t688 t677).bind fun t691 => (l5LineStar.j2 kj15 l0 t677 (!t691)))) else (l5LineStar.j2 kj15 l0 t677 true)) = some r := H
          have A22 := Aside0.mk A220
          clear A220
          by_cases c23 : t687 = true
          ·
           subst c23
           have H1 : ((l5product.f kj15 t677 t677).bind fun t688 => ((l5rows.f kj15 t688 t677).bind fun t691 => (l5LineStar.j2 kj15 l0 t677 (!t691)))) = some r := by rw [if_pos rfl] at H; exact H
           clear H
           have H := H1
           clear H1
           replace H := Option.bind_eq_some_iff.mp H
           obtain ⟨t688, A240, H⟩ := H
           replace H : ((l5rows.f kj15 t688 t677).bind fun t691 => (l5LineStar.j2 kj15 l0 t677 (!t691))) = some r := H
           have A24 := Aside0.mk A240
           clear A240
           replace H := Option.bind_eq_some_iff.mp H
           obtain ⟨t691, A250, H⟩ := H
           replace H : (l5LineStar.j2 kj15 l0 t677 (!t691)) = some r := H
           have A25 := Aside0.mk A250
           clear A250
           have H' := Aside0.mk H
           clear H
           obtain ⟨Ao26, co26, eo26⟩ := Kd.S_slice HO_3.out
           subst eo26
           go_wp2_with (first | ((with_reducible refine gate_callee (f := 23) rfl ?_); refine goesL_ (some 62) rfl rfl Try.func23 (by kernel_rfl) rfl #[.slice Ao26 t677.length co26, .int .i64 (l0.length : Int)] rfl (by (try simp only [List.map_toArray, List.map_cons, List.map_nil]); first | done | rfl | (simp only [List.length_drop, List.length_take]; rfl)) ?_; (with_reducible refine (l5square.calls kj15 _ _ t677 (l0.length : Int) true _ ?side1 ?side2 A22.out).mono ?_); (case side1 => repeat (first | exact (Kd.S_reads' HO_3.out).2.2 | (with_reducible refine Kd.C_alloc ?_ _) | (with_reducible refine Kd.C_drewN ?_ _) | (with_reducible refine Kd.C_drew ?_))); (case side2 => exact (Kd.S_reads' HO_3.out).2.1); rintro e w' ⟨rfl, ⟨nd, rfl⟩⟩; refine ⟨_, rfl, ?_⟩) | (go_at_call 24; (with_reducible refine (l5product.calls kj15 _ _ t677 _ _ t677 t688 _ ?side1 ?side2 ?side3 ?side4 A24.out).mono ?_); (case side1 => repeat (first | exact (Kd.S_reads' HO_3.out).2.2 | (with_reducible refine Kd.C_alloc ?_ _) | (with_reducible refine Kd.C_drewN ?_ _) | (with_reducible refine Kd.C_drew ?_))); (case side2 => exact (Kd.S_reads' HO_3.out).2.1); (case side3 => repeat (first | exact (Kd.S_reads' HO_3.out).2.2 | (with_reducible refine Kd.C_alloc ?_ _) | (with_reducible refine Kd.C_drewN ?_ _) | (with_reducible refine Kd.C_drew ?_))); (case side4 => exact (Kd.S_reads' HO_3.out).2.1); rintro e w27 ⟨v689, rfl, ho0, hb⟩; have n0_ := Aside0.mk (Kd.S_elder' (by (with_reducible repeat (first | apply Kd.S_alloc | apply Kd.S_drewN | apply Kd.S_drew)); exact HO_3.out) (Kd.S_base ho0) hb); have n1_ := Aside0.mk (Kd.S_lower (Kd.S_new' ho0 (Kd.S_lt (by (with_reducible repeat (first | apply Kd.S_alloc | apply Kd.S_drewN | apply Kd.S_drew)); exact HO_3.out))) (below_size (by repeat (first | (with_reducible first | exact HB.out | apply below_alloc | apply pw_below_drewN | apply below_drew1 | refine below_set ?_ GE684.out) | exact HB.out)))); have n2_ := Aside0.mk (blk_below (g := gb684) (o := .cells #[.int .i64 t681, .int .i64 t682] 37 (0, 0)) (by (with_reducible repeat (first | refine blk_drewN ?_ _ | refine blk_drew ?_ | refine blk_alloc ?_ _)); exact BK684.out) hb); have n3_ := Aside0.mk (below_step (by repeat (first | (with_reducible first | exact HB.out | apply below_alloc | apply pw_below_drewN | apply below_drew1 | refine below_set ?_ GE684.out) | exact HB.out)) hb); clear HO_3; clear BK684; clear HB; have HO_3 := n0_; have HO690 := n1_; have BK684 := n2_; have HB := n3_; clear n0_ n1_ n2_ n3_; (try clear hb); (try clear hb2); (try clear hk); (try clear hi); (try clear ho0); obtain ⟨Ao28, co28, eo28⟩ := Kd.S_slice HO690.out; subst eo28) | (go_at_call 20; (with_reducible refine (l5rows.calls kj15 _ _ t688 _ _ t677 t691 _ ?side1 ?side2 ?side3 ?side4 A25.out).mono ?_); (case side1 => repeat (first | exact (Kd.S_reads' HO690.out).2.2 | (with_reducible refine Kd.C_alloc ?_ _) | (with_reducible refine Kd.C_drewN ?_ _) | (with_reducible refine Kd.C_drew ?_))); (case side2 => exact (Kd.S_reads' HO690.out).2.1); (case side3 => repeat (first | exact (Kd.S_reads' HO_3.out).2.2 | (with_reducible refine Kd.C_alloc ?_ _) | (with_reducible refine Kd.C_drewN ?_ _) | (with_reducible refine Kd.C_drew ?_))); (case side4 => exact (Kd.S_reads' HO_3.out).2.1); rintro e w' ⟨rfl, ⟨nd, rfl⟩⟩))
           go_meet
           case rel => exact ⟨_, (!t691), (by first | rfl | (simp; done) | (simp [*]; done)), H', ⟨by have := HJ5.out; have := HJ15.out; first | omega | exact Nat.le_refl _⟩, ⟨by (with_reducible repeat (first | apply Kd.S_alloc | apply Kd.S_drewN | apply Kd.S_drew)); exact Kd.S_mono HO_3.out (fun _ hk => trivial)⟩, ⟨by (with_reducible repeat (first | refine blk_drewN ?_ _ | refine blk_drew ?_ | refine blk_alloc ?_ _)); exact BK684.out⟩, ⟨by repeat (first | (with_reducible first | exact HB.out | apply below_alloc | apply pw_below_drewN | apply below_drew1 | refine below_set ?_ GE684.out) | exact HB.out)⟩⟩
          ·
           replace c23 := Bool.eq_false_iff.mpr c23
           subst c23
           have H1 : (l5LineStar.j2 kj15 l0 t677 true) = some r := by rw [if_neg (show ¬ (false = true) by decide)] at H; exact H
           clear H
           have H := H1
           clear H1
           have H' := Aside0.mk H
           clear H
           obtain ⟨Ao29, co29, eo29⟩ := Kd.S_slice HO_3.out
           subst eo29
           go_wp2_with (first | ((with_reducible refine gate_callee (f := 23) rfl ?_); refine goesL_ (some 62) rfl rfl Try.func23 (by kernel_rfl) rfl #[.slice Ao29 t677.length co29, .int .i64 (l0.length : Int)] rfl (by (try simp only [List.map_toArray, List.map_cons, List.map_nil]); first | done | rfl | (simp only [List.length_drop, List.length_take]; rfl)) ?_; (with_reducible refine (l5square.calls kj15 _ _ t677 (l0.length : Int) false _ ?side1 ?side2 A22.out).mono ?_); (case side1 => repeat (first | exact (Kd.S_reads' HO_3.out).2.2 | (with_reducible refine Kd.C_alloc ?_ _) | (with_reducible refine Kd.C_drewN ?_ _) | (with_reducible refine Kd.C_drew ?_))); (case side2 => exact (Kd.S_reads' HO_3.out).2.1); rintro e w' ⟨rfl, ⟨nd, rfl⟩⟩; refine ⟨_, rfl, ?_⟩))
           go_meet
           case rel => exact ⟨_, (true), (by first | rfl | (simp; done) | (simp [*]; done)), H', ⟨by have := HJ5.out; have := HJ15.out; first | omega | exact Nat.le_refl _⟩, ⟨by (with_reducible repeat (first | apply Kd.S_alloc | apply Kd.S_drewN | apply Kd.S_drew)); exact HO_3.out⟩, ⟨by (with_reducible repeat (first | refine blk_drewN ?_ _ | refine blk_drew ?_ | refine blk_alloc ?_ _)); exact BK684.out⟩, ⟨by repeat (first | (with_reducible first | exact HB.out | apply below_alloc | apply pw_below_drewN | apply below_drew1 | refine below_set ?_ GE684.out) | exact HB.out)⟩⟩
         case rest =>
          clear HC21
          try clear c1
          try clear c2
          try clear p2
          try clear c3
          try clear c4
          try clear c11
          try clear c11b0
          try clear c11b1
          try clear c12
          try clear c13
          try clear c13b0
          try clear c13b1
          try clear c17
          try clear c17b0
          try clear c17b1
          try clear c19
          try clear c20
          try clear c20b0
          try clear c20b1
          try clear c21
          try clear c22
          try clear c23
          try clear hcz10_0
          try clear hcz10_1
          try clear hcz18_0
          try clear hcz18_1
          try clear hfz10_0
          try clear hfz10_1
          try clear hfz18_0
          try clear hfz18_1
          try clear p2
          obtain ⟨kq, x71_20, rfl, HA, HJ20, HO_3, BK684, HB⟩ := hcut
          cases kq with
          | zero => exact absurd HA.out (by simp [l5LineStar.j2])
          | succ kj20 =>
           have H := HA.out
           clear HA
           simp only [l5LineStar.j2] at H
           by_cases c30 : x71_20 = true
           ·
            subst c30
            have H1 : (some false) = some r := by rw [if_pos rfl] at H; exact H
            clear H
            have H := H1
            clear H1
            exact absurd (H.trans (congrArg some hr_.out)) (by simp)
           ·
            replace c30 := Bool.eq_false_iff.mpr c30
            subst c30
            have H1 : ((l5product.f kj20 l0 t677).bind fun t692 => (l5LineStar.l0 kj20 l0 t677 t692 0)) = some r := by rw [if_neg (show ¬ (false = true) by decide)] at H; exact H
            clear H
            have H := H1
            clear H1
            replace H := Option.bind_eq_some_iff.mp H
            obtain ⟨t692, A310, H⟩ := H
            replace H : (l5LineStar.l0 kj20 l0 t677 t692 0) = some r := H
            have A31 := Aside0.mk A310
            clear A310
            have H' := Aside0.mk H
            clear H
            obtain ⟨Ao32, co32, eo32⟩ := Kd.S_slice HO_3.out
            subst eo32
            go_wp2_with (first | ((with_reducible refine gate_callee (f := 24) rfl ?_); refine goesL_ (some 74) rfl rfl Try.func24 (by kernel_rfl) rfl #[.slice A0 l0.length c0, .slice Ao32 t677.length co32] rfl (by (try simp only [List.map_toArray, List.map_cons, List.map_nil]); first | done | rfl | (simp only [List.length_drop, List.length_take]; rfl)) ?_; (with_reducible refine (l5product.calls kj20 _ _ l0 _ _ t677 t692 _ ?side1 ?side2 ?side3 ?side4 A31.out).mono ?_); (case side1 => repeat (first | exact (Kd.C_below HR0.out HB.out) | (with_reducible refine Kd.C_alloc ?_ _) | (with_reducible refine Kd.C_drewN ?_ _) | (with_reducible refine Kd.C_drew ?_))); (case side2 => exact HC0.out); (case side3 => repeat (first | exact (Kd.S_reads' HO_3.out).2.2 | (with_reducible refine Kd.C_alloc ?_ _) | (with_reducible refine Kd.C_drewN ?_ _) | (with_reducible refine Kd.C_drew ?_))); (case side4 => exact (Kd.S_reads' HO_3.out).2.1); rintro e w33 ⟨v693, rfl, ho0, hb⟩; refine ⟨_, rfl, ?_⟩; have n0_ := Aside0.mk (Kd.S_elder' (by (with_reducible repeat (first | apply Kd.S_alloc | apply Kd.S_drewN | apply Kd.S_drew)); exact HO_3.out) (Kd.S_base ho0) hb); have n1_ := Aside0.mk (Kd.S_lower (Kd.S_new' ho0 (Kd.S_lt (by (with_reducible repeat (first | apply Kd.S_alloc | apply Kd.S_drewN | apply Kd.S_drew)); exact HO_3.out))) (below_size (by repeat (first | (with_reducible first | exact HB.out | apply below_alloc | apply pw_below_drewN | apply below_drew1 | refine below_set ?_ GE684.out) | exact HB.out)))); have n2_ := Aside0.mk (blk_below (g := gb684) (o := .cells #[.int .i64 t681, .int .i64 t682] 37 (0, 0)) (by (with_reducible repeat (first | refine blk_drewN ?_ _ | refine blk_drew ?_ | refine blk_alloc ?_ _)); exact BK684.out) hb); have n3_ := Aside0.mk (below_step (by repeat (first | (with_reducible first | exact HB.out | apply below_alloc | apply pw_below_drewN | apply below_drew1 | refine below_set ?_ GE684.out) | exact HB.out)) hb); clear HO_3; clear BK684; clear HB; have HO_3 := n0_; have HO694 := n1_; have BK684 := n2_; have HB := n3_; clear n0_ n1_ n2_ n3_; (try clear hb); (try clear hb2); (try clear hk); (try clear hi); (try clear ho0)))
            go_loopg [8] kj20 (fun kq v8 w' => ∃ (x8_4 : Int), v8 = .int .i64 x8_4 ∧ Aside0 (l5LineStar.l0 kq l0 t677 t692 x8_4 = some r) ∧ Aside0 (kq ≤ kj20) ∧ Aside0 (Kd.S (Kd.slice 3 (Kd.int .i64)) 26 w' w.heap.size (fun k_ => some k_ ≠ (v693 : Value).ownBlock) (.slice Ao32 t677.length co32) t677) ∧ Aside0 (Kd.S (Kd.slice 3 (Kd.int .i64)) 26 w' w.heap.size (fun k_ => some k_ ≠ ((.slice Ao32 t677.length co32) : Value).ownBlock) v693 t692) ∧ Aside0 (w'.heap[gb684]? = some (.cells #[.int .i64 t681, .int .i64 t682] 37 (0, 0))) ∧ Aside0 (Below w.heap.size w w'))
            case atStart => exact ⟨(0), (by first | rfl | (simp; done) | (simp [*]; done)), H', ⟨Nat.le_refl _⟩, ⟨by (with_reducible repeat (first | apply Kd.S_alloc | apply Kd.S_drewN | apply Kd.S_drew)); exact Kd.S_mono HO_3.out (fun _ hk => hk.2)⟩, ⟨by (with_reducible repeat (first | apply Kd.S_alloc | apply Kd.S_drewN | apply Kd.S_drew)); exact Kd.S_mono HO694.out (fun _ hk => hk.2)⟩, ⟨by (with_reducible repeat (first | refine blk_drewN ?_ _ | refine blk_drew ?_ | refine blk_alloc ?_ _)); exact BK684.out⟩, ⟨by repeat (first | (with_reducible first | exact HB.out | apply below_alloc | apply pw_below_drewN | apply below_drew1 | refine below_set ?_ GE684.out) | exact HB.out)⟩⟩
            case round =>
             clear H'
             try clear c1
             try clear c2
             try clear p2
             try clear c3
             try clear c4
             try clear c11
             try clear c11b0
             try clear c11b1
             try clear c12
             try clear c13
             try clear c13b0
             try clear c13b1
             try clear c17
             try clear c17b0
             try clear c17b1
             try clear c19
             try clear c20
             try clear c20b0
             try clear c20b1
             try clear c21
             try clear c22
             try clear c23
             try clear c24
             try clear c30
             try clear hcz10_0
             try clear hcz10_1
             try clear hcz18_0
             try clear hcz18_1
             try clear hfz10_0
             try clear hfz10_1
             try clear hfz18_0
             try clear hfz18_1
             try clear p2
             obtain ⟨x8_4, rfl, HA, HK4, HO_3, HO_7, BK684, HB⟩ := hrel
             cases gk with
             | zero => exact absurd HA.out (by simp [l5LineStar.l0])
             | succ k4 =>
              have H := HA.out
              clear HA
              simp only [l5LineStar.l0] at H
              by_cases c34 : x8_4 < (l0.length : Int)
              ·
               rw [if_pos c34] at H
               have c34b0 : decide (x8_4 < (l0.length : Int)) = true := decide_eq_true c34
               clear c34
               have H' := Aside0.mk H
               clear H
               go_wp2
               go_loopg [9] k4 (fun kq v9 w' => ∃ (x9_5 : Int), v9 = .int .i64 x9_5 ∧ Aside0 (l5LineStar.l1 kq l0 t677 t692 x8_4 x9_5 = some r) ∧ Aside0 (kq ≤ k4) ∧ Aside0 (Kd.S (Kd.slice 3 (Kd.int .i64)) 26 w' w.heap.size (fun k_ => some k_ ≠ (v693 : Value).ownBlock) (.slice Ao32 t677.length co32) t677) ∧ Aside0 (Kd.S (Kd.slice 3 (Kd.int .i64)) 26 w' w.heap.size (fun k_ => some k_ ≠ ((.slice Ao32 t677.length co32) : Value).ownBlock) v693 t692) ∧ Aside0 (w'.heap[gb684]? = some (.cells #[.int .i64 t681, .int .i64 t682] 37 (0, 0))) ∧ Aside0 (Below w.heap.size w w'))
               case atStart => exact ⟨(0), (by first | rfl | (simp; done) | (simp [*]; done)), H', ⟨Nat.le_refl _⟩, ⟨by (with_reducible repeat (first | apply Kd.S_alloc | apply Kd.S_drewN | apply Kd.S_drew)); exact HO_3.out⟩, ⟨by (with_reducible repeat (first | apply Kd.S_alloc | apply Kd.S_drewN | apply Kd.S_drew)); exact HO_7.out⟩, ⟨by (with_reducible repeat (first | refine blk_drewN ?_ _ | refine blk_drew ?_ | refine blk_alloc ?_ _)); exact BK684.out⟩, ⟨by repeat (first | (with_reducible first | exact HB.out | apply below_alloc | apply pw_below_drewN | apply below_drew1 | refine below_set ?_ GE684.out) | exact HB.out)⟩⟩
               case round =>
                clear H'
                try clear c1
                try clear c2
                try clear p2
                try clear c3
                try clear c4
                try clear c11
                try clear c11b0
                try clear c11b1
                try clear c12
                try clear c13
                try clear c13b0
                try clear c13b1
                try clear c17
                try clear c17b0
                try clear c17b1
                try clear c19
                try clear c20
                try clear c20b0
                try clear c20b1
                try clear c21
                try clear c22
                try clear c23
                try clear c24
                try clear c30
                try clear c34
                try clear c34b0
                try clear hcz10_0
                try clear hcz10_1
                try clear hcz18_0
                try clear hcz18_1
                try clear hfz10_0
                try clear hfz10_1
                try clear hfz18_0
                try clear hfz18_1
                try clear p2
                obtain ⟨x9_5, rfl, HA, HK5, HO_3, HO_7, BK684, HB⟩ := hrel
                cases gk with
                | zero => exact absurd HA.out (by simp [l5LineStar.l1])
                | succ k5 =>
                 have H := HA.out
                 clear HA
                 simp only [l5LineStar.l1] at H
                 by_cases c35 : x9_5 < (l0.length : Int)
                 ·
                  rw [if_pos c35] at H
                  have c35b0 : decide (x9_5 < (l0.length : Int)) = true := decide_eq_true c35
                  clear c35
                  by_cases c36 : 0 ≤ x8_4
                  ·
                   rw [if_pos c36] at H
                   have c36b0 : decide (0 ≤ x8_4) = true := decide_eq_true c36
                   clear c36
                   by_cases c37 : x8_4 < (t692.length : Int)
                   ·
                    rw [if_pos c37] at H
                    have c37b0 : decide (x8_4 < (t692.length : Int)) = true := decide_eq_true c37
                    clear c37
                    by_cases c38 : 0 ≤ x9_5
                    ·
                     rw [if_pos c38] at H
                     have c38b0 : decide (0 ≤ x9_5) = true := decide_eq_true c38
                     clear c38
                     by_cases c39 : x9_5 < ((rd_L1 t692 x8_4).length : Int)
                     ·
                      rw [if_pos c39] at H
                      have c39b0 : decide (x9_5 < ((rd_L1 t692 x8_4).length : Int)) = true := decide_eq_true c39
                      clear c39
                      by_cases c40 : x8_4 = x9_5
                      ·
                       rw [if_pos c40] at H
                       have c40b0 : (x8_4 == x9_5) = true := beq_iff_eq.mpr c40
                       have c40b1 : (x8_4 != x9_5) = false := bne_eq_false_iff_eq.mpr c40
                       clear c40
                       obtain ⟨ji41, hji41⟩ : ∃ j_ : Int, (mx (rd (rd_L1 t692 x8_4) x9_5) 0) = j_ := ⟨_, rfl⟩
                       replace H : (if x8_4 < (t677.length : Int) then (if x9_5 < ((rd_L1 t677 x8_4).length : Int) then (if (rd (rd_L1 t677 x8_4) x9_5) = (ji41) then (l5LineStar.l1 k5 l0 t677 t692 x8_4 (wrap64 (x9_5 + 1))) else (some false)) else (none)) else (none)) = some r := by first | (rw [hji41] at H; exact H) | (simp only [hji41] at H ⊢; exact H)
                       have hji41_ : (if (rd (rd_L1 t692 x8_4) x9_5) < 0 then 0 else (rd (rd_L1 t692 x8_4) x9_5)) = ji41 := hji41
                       by_cases c42 : x8_4 < (t677.length : Int)
                       ·
                        rw [if_pos c42] at H
                        have c42b0 : decide (x8_4 < (t677.length : Int)) = true := decide_eq_true c42
                        clear c42
                        by_cases c43 : x9_5 < ((rd_L1 t677 x8_4).length : Int)
                        ·
                         rw [if_pos c43] at H
                         have c43b0 : decide (x9_5 < ((rd_L1 t677 x8_4).length : Int)) = true := decide_eq_true c43
                         clear c43
                         by_cases c44 : (rd (rd_L1 t677 x8_4) x9_5) = (ji41)
                         ·
                          rw [if_pos c44] at H
                          have c44b0 : ((rd (rd_L1 t677 x8_4) x9_5) == (ji41)) = true := beq_iff_eq.mpr c44
                          have c44b1 : ((rd (rd_L1 t677 x8_4) x9_5) != (ji41)) = false := bne_eq_false_iff_eq.mpr c44
                          clear c44
                          have H' := Aside0.mk H
                          clear H
                          obtain ⟨Ao45, co45, eo45⟩ := Kd.S_slice HO_7.out
                          subst eo45
                          have p696 : 0 ≤ (x8_4 : Int) := of_decide_eq_true (by first | (with_reducible assumption) | assumption)
                          have q696 : x8_4 < (t692.length : Int) := of_decide_eq_true (by first | (with_reducible assumption) | assumption)
                          obtain ⟨ad696, A696_0, c696_0, e696, hx696_0, hl696_0, hi696_0⟩ := at_L1 (Kd.S_reads' HO_7.out).2.2 x8_4 p696 q696
                          cases e696
                          obtain ⟨ce696, hce696, hMe696, hcc696⟩ := Kd.S_get HO_7.out [] x8_4 p696 (by first | exact q696 | exact of_decide_eq_true (by first | (with_reducible assumption) | assumption) | (have e_ := (Kd.S_reads' HO_7.out).1; omega))
                          obtain ⟨ve696_0, rfl, ge696_0⟩ := hMe696
                          have hv696_0 := hcc696 0 _ rfl
                          rw [Nat.add_zero, show ((Kd.slice 3 (Kd.int .i64))).sz = 1 from rfl, Nat.mul_one] at hv696_0
                          replace hv696_0 := Option.some.inj (hv696_0.symm.trans hx696_0)
                          rw [hv696_0] at ge696_0
                          have HL696_0 := Aside0.mk (show Kd.R (Kd.int .i64) 3 _ _ _ _ (rd_L1 t692 x8_4) from ge696_0)
                          clear hv696_0 ge696_0
                          clear hcc696 hce696
                          have HR696_0 := Aside0.mk hi696_0
                          have HC696_0 := Aside0.mk hl696_0
                          clear hi696_0 hl696_0
                          replace p696 := eq_true p696
                          replace q696 := eq_true q696
                          have p697 : 0 ≤ (x9_5 : Int) := of_decide_eq_true (by first | (with_reducible assumption) | assumption)
                          have q697 : x9_5 < ((rd_L1 t692 x8_4).length : Int) := of_decide_eq_true (by first | (with_reducible assumption) | assumption)
                          obtain ⟨ad697, e697, hx697_0⟩ := Kd.at_int (by repeat (first | (with_reducible exact HR696_0.out) | (with_reducible refine Kd.C_alloc ?_ _) | (with_reducible refine Kd.C_drewN ?_ _) | (with_reducible refine Kd.C_drew ?_) | exact HR696_0.out)) x9_5 p697 q697
                          cases e697
                          replace p697 := eq_true p697
                          replace q697 := eq_true q697
                          have p698 : 0 ≤ (x8_4 : Int) := of_decide_eq_true (by first | (with_reducible assumption) | assumption)
                          have q698 : x8_4 < (t677.length : Int) := of_decide_eq_true (by first | (with_reducible assumption) | assumption)
                          obtain ⟨ad698, A698_0, c698_0, e698, hx698_0, hl698_0, hi698_0⟩ := at_L1 (Kd.S_reads' HO_3.out).2.2 x8_4 p698 q698
                          cases e698
                          obtain ⟨ce698, hce698, hMe698, hcc698⟩ := Kd.S_get HO_3.out [] x8_4 p698 (by first | exact q698 | exact of_decide_eq_true (by first | (with_reducible assumption) | assumption) | (have e_ := (Kd.S_reads' HO_3.out).1; omega))
                          obtain ⟨ve698_0, rfl, ge698_0⟩ := hMe698
                          have hv698_0 := hcc698 0 _ rfl
                          rw [Nat.add_zero, show ((Kd.slice 3 (Kd.int .i64))).sz = 1 from rfl, Nat.mul_one] at hv698_0
                          replace hv698_0 := Option.some.inj (hv698_0.symm.trans hx698_0)
                          rw [hv698_0] at ge698_0
                          have HL698_0 := Aside0.mk (show Kd.R (Kd.int .i64) 3 _ _ _ _ (rd_L1 t677 x8_4) from ge698_0)
                          clear hv698_0 ge698_0
                          clear hcc698 hce698
                          have HR698_0 := Aside0.mk hi698_0
                          have HC698_0 := Aside0.mk hl698_0
                          clear hi698_0 hl698_0
                          replace p698 := eq_true p698
                          replace q698 := eq_true q698
                          have p699 : 0 ≤ (x9_5 : Int) := of_decide_eq_true (by first | (with_reducible assumption) | assumption)
                          have q699 : x9_5 < ((rd_L1 t677 x8_4).length : Int) := of_decide_eq_true (by first | (with_reducible assumption) | assumption)
                          obtain ⟨ad699, e699, hx699_0⟩ := Kd.at_int (by repeat (first | (with_reducible exact HR698_0.out) | (with_reducible refine Kd.C_alloc ?_ _) | (with_reducible refine Kd.C_drewN ?_ _) | (with_reducible refine Kd.C_drew ?_) | exact HR698_0.out)) x9_5 p699 q699
                          cases e699
                          replace p699 := eq_true p699
                          replace q699 := eq_true q699
                          go_wp2
                          go_roundg k5
                          case measure => have := HJ5.out; have := HJ15.out; have := HJ20.out; have := HK4.out; have := HK5.out; omega
                          case rel => exact ⟨(wrap64 (x9_5 + 1)), (by first | rfl | (simp; done) | (simp [*]; done)), H', ⟨by have := HJ5.out; have := HJ15.out; have := HJ20.out; have := HK4.out; have := HK5.out; omega⟩, ⟨by (with_reducible repeat (first | apply Kd.S_alloc | apply Kd.S_drewN | apply Kd.S_drew)); exact HO_3.out⟩, ⟨by (with_reducible repeat (first | apply Kd.S_alloc | apply Kd.S_drewN | apply Kd.S_drew)); exact HO_7.out⟩, ⟨by (with_reducible repeat (first | refine blk_drewN ?_ _ | refine blk_drew ?_ | refine blk_alloc ?_ _)); exact BK684.out⟩, ⟨by repeat (first | (with_reducible first | exact HB.out | apply below_alloc | apply pw_below_drewN | apply below_drew1 | refine below_set ?_ GE684.out) | exact HB.out)⟩⟩
                         ·
                          rw [if_neg c44] at H
                          have c44b0 : ((rd (rd_L1 t677 x8_4) x9_5) == (ji41)) = false := beq_eq_false_iff_ne.mpr c44
                          have c44b1 : ((rd (rd_L1 t677 x8_4) x9_5) != (ji41)) = true := bne_iff_ne.mpr c44
                          exact absurd (H.trans (congrArg some hr_.out)) (by simp)
                        ·
                         rw [if_neg c43] at H
                         exact absurd H (by simp)
                       ·
                        rw [if_neg c42] at H
                        exact absurd H (by simp)
                      ·
                       rw [if_neg c40] at H
                       have c40b0 : (x8_4 == x9_5) = false := beq_eq_false_iff_ne.mpr c40
                       have c40b1 : (x8_4 != x9_5) = true := bne_iff_ne.mpr c40
                       by_cases c47 : x8_4 < (t677.length : Int)
                       ·
                        rw [if_pos c47] at H
                        have c47b0 : decide (x8_4 < (t677.length : Int)) = true := decide_eq_true c47
                        clear c47
                        by_cases c48 : x9_5 < ((rd_L1 t677 x8_4).length : Int)
                        ·
                         rw [if_pos c48] at H
                         have c48b0 : decide (x9_5 < ((rd_L1 t677 x8_4).length : Int)) = true := decide_eq_true c48
                         clear c48
                         by_cases c49 : (rd (rd_L1 t677 x8_4) x9_5) = (rd (rd_L1 t692 x8_4) x9_5)
                         ·
                          rw [if_pos c49] at H
                          have c49b0 : ((rd (rd_L1 t677 x8_4) x9_5) == (rd (rd_L1 t692 x8_4) x9_5)) = true := beq_iff_eq.mpr c49
                          have c49b1 : ((rd (rd_L1 t677 x8_4) x9_5) != (rd (rd_L1 t692 x8_4) x9_5)) = false := bne_eq_false_iff_eq.mpr c49
                          clear c49
                          have H' := Aside0.mk H
                          clear H
                          obtain ⟨Ao50, co50, eo50⟩ := Kd.S_slice HO_7.out
                          subst eo50
                          have p696 : 0 ≤ (x8_4 : Int) := of_decide_eq_true (by first | (with_reducible assumption) | assumption)
                          have q696 : x8_4 < (t692.length : Int) := of_decide_eq_true (by first | (with_reducible assumption) | assumption)
                          obtain ⟨ad696, A696_0, c696_0, e696, hx696_0, hl696_0, hi696_0⟩ := at_L1 (Kd.S_reads' HO_7.out).2.2 x8_4 p696 q696
                          cases e696
                          obtain ⟨ce696, hce696, hMe696, hcc696⟩ := Kd.S_get HO_7.out [] x8_4 p696 (by first | exact q696 | exact of_decide_eq_true (by first | (with_reducible assumption) | assumption) | (have e_ := (Kd.S_reads' HO_7.out).1; omega))
                          obtain ⟨ve696_0, rfl, ge696_0⟩ := hMe696
                          have hv696_0 := hcc696 0 _ rfl
                          rw [Nat.add_zero, show ((Kd.slice 3 (Kd.int .i64))).sz = 1 from rfl, Nat.mul_one] at hv696_0
                          replace hv696_0 := Option.some.inj (hv696_0.symm.trans hx696_0)
                          rw [hv696_0] at ge696_0
                          have HL696_0 := Aside0.mk (show Kd.R (Kd.int .i64) 3 _ _ _ _ (rd_L1 t692 x8_4) from ge696_0)
                          clear hv696_0 ge696_0
                          clear hcc696 hce696
                          have HR696_0 := Aside0.mk hi696_0
                          have HC696_0 := Aside0.mk hl696_0
                          clear hi696_0 hl696_0
                          replace p696 := eq_true p696
                          replace q696 := eq_true q696
                          have p697 : 0 ≤ (x9_5 : Int) := of_decide_eq_true (by first | (with_reducible assumption) | assumption)
                          have q697 : x9_5 < ((rd_L1 t692 x8_4).length : Int) := of_decide_eq_true (by first | (with_reducible assumption) | assumption)
                          obtain ⟨ad697, e697, hx697_0⟩ := Kd.at_int (by repeat (first | (with_reducible exact HR696_0.out) | (with_reducible refine Kd.C_alloc ?_ _) | (with_reducible refine Kd.C_drewN ?_ _) | (with_reducible refine Kd.C_drew ?_) | exact HR696_0.out)) x9_5 p697 q697
                          cases e697
                          replace p697 := eq_true p697
                          replace q697 := eq_true q697
                          have p700 : 0 ≤ (x8_4 : Int) := of_decide_eq_true (by first | (with_reducible assumption) | assumption)
                          have q700 : x8_4 < (t677.length : Int) := of_decide_eq_true (by first | (with_reducible assumption) | assumption)
                          obtain ⟨ad700, A700_0, c700_0, e700, hx700_0, hl700_0, hi700_0⟩ := at_L1 (Kd.S_reads' HO_3.out).2.2 x8_4 p700 q700
                          cases e700
                          obtain ⟨ce700, hce700, hMe700, hcc700⟩ := Kd.S_get HO_3.out [] x8_4 p700 (by first | exact q700 | exact of_decide_eq_true (by first | (with_reducible assumption) | assumption) | (have e_ := (Kd.S_reads' HO_3.out).1; omega))
                          obtain ⟨ve700_0, rfl, ge700_0⟩ := hMe700
                          have hv700_0 := hcc700 0 _ rfl
                          rw [Nat.add_zero, show ((Kd.slice 3 (Kd.int .i64))).sz = 1 from rfl, Nat.mul_one] at hv700_0
                          replace hv700_0 := Option.some.inj (hv700_0.symm.trans hx700_0)
                          rw [hv700_0] at ge700_0
                          have HL700_0 := Aside0.mk (show Kd.R (Kd.int .i64) 3 _ _ _ _ (rd_L1 t677 x8_4) from ge700_0)
                          clear hv700_0 ge700_0
                          clear hcc700 hce700
                          have HR700_0 := Aside0.mk hi700_0
                          have HC700_0 := Aside0.mk hl700_0
                          clear hi700_0 hl700_0
                          replace p700 := eq_true p700
                          replace q700 := eq_true q700
                          have p701 : 0 ≤ (x9_5 : Int) := of_decide_eq_true (by first | (with_reducible assumption) | assumption)
                          have q701 : x9_5 < ((rd_L1 t677 x8_4).length : Int) := of_decide_eq_true (by first | (with_reducible assumption) | assumption)
                          obtain ⟨ad701, e701, hx701_0⟩ := Kd.at_int (by repeat (first | (with_reducible exact HR700_0.out) | (with_reducible refine Kd.C_alloc ?_ _) | (with_reducible refine Kd.C_drewN ?_ _) | (with_reducible refine Kd.C_drew ?_) | exact HR700_0.out)) x9_5 p701 q701
                          cases e701
                          replace p701 := eq_true p701
                          replace q701 := eq_true q701
                          go_wp2
                          go_roundg k5
                          case measure => have := HJ5.out; have := HJ15.out; have := HJ20.out; have := HK4.out; have := HK5.out; omega
                          case rel => exact ⟨(wrap64 (x9_5 + 1)), (by first | rfl | (simp; done) | (simp [*]; done)), H', ⟨by have := HJ5.out; have := HJ15.out; have := HJ20.out; have := HK4.out; have := HK5.out; omega⟩, ⟨by (with_reducible repeat (first | apply Kd.S_alloc | apply Kd.S_drewN | apply Kd.S_drew)); exact HO_3.out⟩, ⟨by (with_reducible repeat (first | apply Kd.S_alloc | apply Kd.S_drewN | apply Kd.S_drew)); exact HO_7.out⟩, ⟨by (with_reducible repeat (first | refine blk_drewN ?_ _ | refine blk_drew ?_ | refine blk_alloc ?_ _)); exact BK684.out⟩, ⟨by repeat (first | (with_reducible first | exact HB.out | apply below_alloc | apply pw_below_drewN | apply below_drew1 | refine below_set ?_ GE684.out) | exact HB.out)⟩⟩
                         ·
                          rw [if_neg c49] at H
                          have c49b0 : ((rd (rd_L1 t677 x8_4) x9_5) == (rd (rd_L1 t692 x8_4) x9_5)) = false := beq_eq_false_iff_ne.mpr c49
                          have c49b1 : ((rd (rd_L1 t677 x8_4) x9_5) != (rd (rd_L1 t692 x8_4) x9_5)) = true := bne_iff_ne.mpr c49
                          obtain rfl := Option.some.inj H
                          obtain ⟨Ao51, co51, eo51⟩ := Kd.S_slice HO_7.out
                          subst eo51
                          have p696 : 0 ≤ (x8_4 : Int) := of_decide_eq_true (by first | (with_reducible assumption) | assumption)
                          have q696 : x8_4 < (t692.length : Int) := of_decide_eq_true (by first | (with_reducible assumption) | assumption)
                          obtain ⟨ad696, A696_0, c696_0, e696, hx696_0, hl696_0, hi696_0⟩ := at_L1 (Kd.S_reads' HO_7.out).2.2 x8_4 p696 q696
                          cases e696
                          obtain ⟨ce696, hce696, hMe696, hcc696⟩ := Kd.S_get HO_7.out [] x8_4 p696 (by first | exact q696 | exact of_decide_eq_true (by first | (with_reducible assumption) | assumption) | (have e_ := (Kd.S_reads' HO_7.out).1; omega))
                          obtain ⟨ve696_0, rfl, ge696_0⟩ := hMe696
                          have hv696_0 := hcc696 0 _ rfl
                          rw [Nat.add_zero, show ((Kd.slice 3 (Kd.int .i64))).sz = 1 from rfl, Nat.mul_one] at hv696_0
                          replace hv696_0 := Option.some.inj (hv696_0.symm.trans hx696_0)
                          rw [hv696_0] at ge696_0
                          have HL696_0 := Aside0.mk (show Kd.R (Kd.int .i64) 3 _ _ _ _ (rd_L1 t692 x8_4) from ge696_0)
                          clear hv696_0 ge696_0
                          clear hcc696 hce696
                          have HR696_0 := Aside0.mk hi696_0
                          have HC696_0 := Aside0.mk hl696_0
                          clear hi696_0 hl696_0
                          replace p696 := eq_true p696
                          replace q696 := eq_true q696
                          have p697 : 0 ≤ (x9_5 : Int) := of_decide_eq_true (by first | (with_reducible assumption) | assumption)
                          have q697 : x9_5 < ((rd_L1 t692 x8_4).length : Int) := of_decide_eq_true (by first | (with_reducible assumption) | assumption)
                          obtain ⟨ad697, e697, hx697_0⟩ := Kd.at_int (by repeat (first | (with_reducible exact HR696_0.out) | (with_reducible refine Kd.C_alloc ?_ _) | (with_reducible refine Kd.C_drewN ?_ _) | (with_reducible refine Kd.C_drew ?_) | exact HR696_0.out)) x9_5 p697 q697
                          cases e697
                          replace p697 := eq_true p697
                          replace q697 := eq_true q697
                          have p700 : 0 ≤ (x8_4 : Int) := of_decide_eq_true (by first | (with_reducible assumption) | assumption)
                          have q700 : x8_4 < (t677.length : Int) := of_decide_eq_true (by first | (with_reducible assumption) | assumption)
                          obtain ⟨ad700, A700_0, c700_0, e700, hx700_0, hl700_0, hi700_0⟩ := at_L1 (Kd.S_reads' HO_3.out).2.2 x8_4 p700 q700
                          cases e700
                          obtain ⟨ce700, hce700, hMe700, hcc700⟩ := Kd.S_get HO_3.out [] x8_4 p700 (by first | exact q700 | exact of_decide_eq_true (by first | (with_reducible assumption) | assumption) | (have e_ := (Kd.S_reads' HO_3.out).1; omega))
                          obtain ⟨ve700_0, rfl, ge700_0⟩ := hMe700
                          have hv700_0 := hcc700 0 _ rfl
                          rw [Nat.add_zero, show ((Kd.slice 3 (Kd.int .i64))).sz = 1 from rfl, Nat.mul_one] at hv700_0
                          replace hv700_0 := Option.some.inj (hv700_0.symm.trans hx700_0)
                          rw [hv700_0] at ge700_0
                          have HL700_0 := Aside0.mk (show Kd.R (Kd.int .i64) 3 _ _ _ _ (rd_L1 t677 x8_4) from ge700_0)
                          clear hv700_0 ge700_0
                          clear hcc700 hce700
                          have HR700_0 := Aside0.mk hi700_0
                          have HC700_0 := Aside0.mk hl700_0
                          clear hi700_0 hl700_0
                          replace p700 := eq_true p700
                          replace q700 := eq_true q700
                          have p701 : 0 ≤ (x9_5 : Int) := of_decide_eq_true (by first | (with_reducible assumption) | assumption)
                          have q701 : x9_5 < ((rd_L1 t677 x8_4).length : Int) := of_decide_eq_true (by first | (with_reducible assumption) | assumption)
                          obtain ⟨ad701, e701, hx701_0⟩ := Kd.at_int (by repeat (first | (with_reducible exact HR700_0.out) | (with_reducible refine Kd.C_alloc ?_ _) | (with_reducible refine Kd.C_drewN ?_ _) | (with_reducible refine Kd.C_drew ?_) | exact HR700_0.out)) x9_5 p701 q701
                          cases e701
                          replace p701 := eq_true p701
                          replace q701 := eq_true q701
                          go_wp2
                          go_ret
                          exact ⟨by first | rfl | (simp [errW_none, errW_some] <;> rfl) | (simp [*, errW_none, errW_some] <;> rfl), by repeat (first | (with_reducible first | exact HB.out | apply below_alloc | apply pw_below_drewN | apply below_drew1 | refine below_set ?_ GE684.out) | exact HB.out)⟩
                        ·
                         rw [if_neg c48] at H
                         exact absurd H (by simp)
                       ·
                        rw [if_neg c47] at H
                        exact absurd H (by simp)
                     ·
                      rw [if_neg c39] at H
                      exact absurd H (by simp)
                    ·
                     rw [if_neg c38] at H
                     exact absurd H (by simp)
                   ·
                    rw [if_neg c37] at H
                    exact absurd H (by simp)
                  ·
                   rw [if_neg c36] at H
                   exact absurd H (by simp)
                 ·
                  rw [if_neg c35] at H
                  have c35b0 : decide (x9_5 < (l0.length : Int)) = false := decide_eq_false c35
                  clear c35
                  have H' := Aside0.mk H
                  clear H
                  go_wp2
                  go_roundg k5
                  case measure => have := HJ5.out; have := HJ15.out; have := HJ20.out; have := HK4.out; have := HK5.out; omega
                  case rel => exact ⟨(wrap64 (x8_4 + 1)), (by first | rfl | (simp; done) | (simp [*]; done)), H', ⟨by have := HJ5.out; have := HJ15.out; have := HJ20.out; have := HK4.out; have := HK5.out; omega⟩, ⟨by (with_reducible repeat (first | apply Kd.S_alloc | apply Kd.S_drewN | apply Kd.S_drew)); exact HO_3.out⟩, ⟨by (with_reducible repeat (first | apply Kd.S_alloc | apply Kd.S_drewN | apply Kd.S_drew)); exact HO_7.out⟩, ⟨by (with_reducible repeat (first | refine blk_drewN ?_ _ | refine blk_drew ?_ | refine blk_alloc ?_ _)); exact BK684.out⟩, ⟨by repeat (first | (with_reducible first | exact HB.out | apply below_alloc | apply pw_below_drewN | apply below_drew1 | refine below_set ?_ GE684.out) | exact HB.out)⟩⟩
              ·
               rw [if_neg c34] at H
               have c34b0 : decide (x8_4 < (l0.length : Int)) = false := decide_eq_false c34
               clear c34
               replace H := Option.bind_eq_some_iff.mp H
               obtain ⟨t695, A520, H⟩ := H
               replace H : (some t695) = some r := H
               have A52 := Aside0.mk A520
               clear A520
               obtain rfl := Option.some.inj H
               go_wp2_with (first | ((with_reducible refine gate_callee (f := 13) rfl ?_); refine goesL_ (some 108) rfl rfl Try.func13 (by kernel_rfl) rfl #[] rfl (by (try simp only [List.map_toArray, List.map_cons, List.map_nil]); first | done | rfl | (simp only [List.length_drop, List.length_take]; rfl)) ?_; (with_reducible refine (l5alive.calls k4  t695 _ A52.out).mono ?_); rintro e w53 ⟨rfl, hb⟩; refine ⟨_, rfl, ?_⟩; have n0_ := Aside0.mk (Kd.S_below (by (with_reducible repeat (first | apply Kd.S_alloc | apply Kd.S_drewN | apply Kd.S_drew)); exact HO_3.out) hb); have n1_ := Aside0.mk (Kd.S_below (by (with_reducible repeat (first | apply Kd.S_alloc | apply Kd.S_drewN | apply Kd.S_drew)); exact HO_7.out) hb); have n2_ := Aside0.mk (blk_below (g := gb684) (o := .cells #[.int .i64 t681, .int .i64 t682] 37 (0, 0)) (by (with_reducible repeat (first | refine blk_drewN ?_ _ | refine blk_drew ?_ | refine blk_alloc ?_ _)); exact BK684.out) hb); have n3_ := Aside0.mk (below_step (by repeat (first | (with_reducible first | exact HB.out | apply below_alloc | apply pw_below_drewN | apply below_drew1 | refine below_set ?_ GE684.out) | exact HB.out)) hb); clear HO_3; clear HO_7; clear BK684; clear HB; have HO_3 := n0_; have HO_7 := n1_; have BK684 := n2_; have HB := n3_; clear n0_ n1_ n2_ n3_; (try clear hb); (try clear hb2); (try clear hk); (try clear hi)))
               go_ret
               exact ⟨by first | rfl | (simp [errW_none, errW_some] <;> rfl) | (simp [*, errW_none, errW_some] <;> rfl), by repeat (first | (with_reducible first | exact HB.out | apply below_alloc | apply pw_below_drewN | apply below_drew1 | refine below_set ?_ GE684.out) | exact HB.out)⟩
        ·
         rw [if_neg c20] at H
         have c20b0 : (t678 == 0) = false := beq_eq_false_iff_ne.mpr c20
         have c20b1 : (t678 != 0) = true := bne_iff_ne.mpr c20
         by_cases c54 : t678 = 11
         ·
          rw [if_pos c54] at H
          have c54b0 : (t678 == 11) = true := beq_iff_eq.mpr c54
          have c54b1 : (t678 != 11) = false := bne_eq_false_iff_eq.mpr c54
          clear c54
          by_cases c55 : (t677.length : Int) = 0
          ·
           rw [if_pos c55] at H
           have c55b0 : ((t677.length : Int) == 0) = true := beq_iff_eq.mpr c55
           have c55b1 : ((t677.length : Int) != 0) = false := bne_eq_false_iff_eq.mpr c55
           clear c55
           replace H := Option.bind_eq_some_iff.mp H
           obtain ⟨t686, A560, H⟩ := H
           replace H : (some t686) = some r := H
           have A56 := Aside0.mk A560
           clear A560
           obtain rfl := Option.some.inj H
           obtain ⟨Ao57, co57, eo57⟩ := Kd.S_slice HO_3.out
           subst eo57
           go_wp2_with (first | (go_at_call 13; (with_reducible refine (l5alive.calls kj15  t686 _ A56.out).mono ?_); rintro e w58 ⟨rfl, hb⟩; have n0_ := Aside0.mk (Kd.S_below (by (with_reducible repeat (first | apply Kd.S_alloc | apply Kd.S_drewN | apply Kd.S_drew)); exact HO_3.out) hb); have n1_ := Aside0.mk (blk_below (g := gb684) (o := .cells #[.int .i64 t681, .int .i64 t682] 37 (0, 0)) (by (with_reducible repeat (first | refine blk_drewN ?_ _ | refine blk_drew ?_ | refine blk_alloc ?_ _)); exact BK684.out) hb); have n2_ := Aside0.mk (below_step (by repeat (first | (with_reducible first | exact HB.out | apply below_alloc | apply pw_below_drewN | apply below_drew1 | refine below_set ?_ GE684.out) | exact HB.out)) hb); clear HO_3; clear BK684; clear HB; have HO_3 := n0_; have BK684 := n1_; have HB := n2_; clear n0_ n1_ n2_; (try clear hb); (try clear hb2); (try clear hk); (try clear hi)))
           go_ret
           exact ⟨by first | rfl | (simp [errW_none, errW_some] <;> rfl) | (simp [*, errW_none, errW_some] <;> rfl), by repeat (first | (with_reducible first | exact HB.out | apply below_alloc | apply pw_below_drewN | apply below_drew1 | refine below_set ?_ GE684.out) | exact HB.out)⟩
          ·
           rw [if_neg c55] at H
           have c55b0 : ((t677.length : Int) == 0) = false := beq_eq_false_iff_ne.mpr c55
           have c55b1 : ((t677.length : Int) != 0) = true := bne_iff_ne.mpr c55
           have c55b2 : ¬ (t677 = []) := fun h_ => c55 (by rw [h_]; rfl)
           exact absurd (H.trans (congrArg some hr_.out)) (by simp)
         ·
          rw [if_neg c54] at H
          have c54b0 : (t678 == 11) = false := beq_eq_false_iff_ne.mpr c54
          have c54b1 : (t678 != 11) = true := bne_iff_ne.mpr c54
          exact absurd (H.trans (congrArg some hr_.out)) (by simp)
 ·
  replace c3 := Bool.eq_false_iff.mpr c3
  subst c3
  have H1 : ((l5alive.f k).bind fun t676 => (some t676)) = some r := by rw [if_neg (show ¬ (false = true) by decide)] at H; exact H
  clear H
  have H := H1
  clear H1
  replace H := Option.bind_eq_some_iff.mp H
  obtain ⟨t676, A600, H⟩ := H
  replace H : (some t676) = some r := H
  have A60 := Aside0.mk A600
  clear A600
  obtain rfl := Option.some.inj H
  go_enter Try.func4, Try.ntmps4
  go_wp2_with (first | ((with_reducible refine gate_callee (f := 12) rfl ?_); refine goesL_ (some 12) rfl rfl Try.func12 (by kernel_rfl) rfl #[.slice A0 l0.length c0] rfl (by (try simp only [List.map_toArray, List.map_cons, List.map_nil]); first | done | rfl | (simp only [List.length_drop, List.length_take]; rfl)) ?_; (with_reducible refine (l5few.calls k _ _ l0 false _ ?side1 ?side2 A2.out).mono ?_); (case side1 => repeat (first | exact HR0.out | (with_reducible refine Kd.C_alloc ?_ _) | (with_reducible refine Kd.C_drewN ?_ _) | (with_reducible refine Kd.C_drew ?_))); (case side2 => exact HC0.out); rintro e w' ⟨rfl, ⟨nd, rfl⟩⟩; refine ⟨_, rfl, ?_⟩) | ((with_reducible refine gate_callee (f := 13) rfl ?_); refine goesL_ (some 14) rfl rfl Try.func13 (by kernel_rfl) rfl #[] rfl (by (try simp only [List.map_toArray, List.map_cons, List.map_nil]); first | done | rfl | (simp only [List.length_drop, List.length_take]; rfl)) ?_; (with_reducible refine (l5alive.calls k  t676 _ A60.out).mono ?_); rintro e w61 ⟨rfl, hb⟩; refine ⟨_, rfl, ?_⟩; have n0_ := Aside0.mk (below_step (by repeat (first | (with_reducible first | exact HB.out | apply below_alloc | apply pw_below_drewN | apply below_drew1) | exact HB.out)) hb); clear HB; have HB := n0_; clear n0_; (try clear hb); (try clear hb2); (try clear hk); (try clear hi)))
  go_ret
  exact ⟨by first | rfl | (simp [errW_none, errW_some] <;> rfl) | (simp [*, errW_none, errW_some] <;> rfl), by repeat (first | (with_reducible first | exact HB.out | apply below_alloc | apply pw_below_drewN | apply below_drew1) | exact HB.out)⟩

def line_Multiply.f (k : Nat) (l0 : List (List Int)) (l1 : List (List Int)) : Option ((List (List Int)) × Int) := (line_of.f k l0).bind fun bt987 => ((line_of.f k l1).bind fun bt991 => (if bt987.2 = true then (if bt991.2 = true then (if (l0.length : Int) = (l1.length : Int) then ((lgtimes.f k bt987.1 bt991.1).bind fun t995 => (some (t995, 0))) else (some (([] : List (List Int)), 2))) else (some (([] : List (List Int)), 2))) else (some (([] : List (List Int)), 2))))
theorem line_Multiply.mono : ∀ a0 a1 k, LeO (line_Multiply.f k a0 a1) (line_Multiply.f (k + 1) a0 a1) := by
 intro a0 a1 k
 unfold line_Multiply.f
 repeat' first
   | (with_reducible exact LeO.refl _)
   | (with_reducible exact LeO.none _)
   | (with_reducible refine LeO.ite ?_ ?_)
   | (with_reducible refine LeO.bind ?_ (fun _ => ?_))
   | exact lgtimes.mono _ _ _
   | exact line_of.mono _ _
   | exact LeO.none _
   | refine LeO.ite ?_ ?_
   | refine LeO.bind ?_ (fun _ => ?_)
set_option maxHeartbeats 8000000 in
set_option maxRecDepth 100000 in
theorem line_Multiply.calls (k : Nat) (A0 : Option Addr) (c0 : Nat) (l0 : List (List Int)) (A1 : Option Addr) (c1 : Nat) (l1 : List (List Int)) (r1 : List (List Int)) (r2 : Int) (w : World) (hr0 : Kd.C (Kd.slice 3 (Kd.int .i64)) w A0 l0.length l0) (hc0 : l0.length ≤ c0) (hr1 : Kd.C (Kd.slice 3 (Kd.int .i64)) w A1 l1.length l1) (hc1 : l1.length ≤ c1) (h : line_Multiply.f k l0 l1 = some (r1, r2)) :
  Calls Try.prog 37 #[.slice A0 l0.length c0, .slice A1 l1.length c1] w fun e w' => ∃ v0_ : Value, e = .returned (.tuple #[v0_, .int .i64 r2]) ∧ Kd.S (Kd.slice 3 (Kd.int .i64)) 26 w' w.heap.size (fun _ => True) v0_ r1 ∧ Below w.heap.size w w' := by
 have HR0 := Aside0.mk hr0
 have HC0 := Aside0.mk hc0
 clear hr0 hc0
 have HR1 := Aside0.mk hr1
 have HC1 := Aside0.mk hc1
 clear hr1 hc1
 have HB := Aside0.mk (Below.refl w.heap.size w)
 have H : ((line_of.f k l0).bind fun bt987 => ((line_of.f k l1).bind fun bt991 => (if bt987.2 = true then (if bt991.2 = true then (if (l0.length : Int) = (l1.length : Int) then ((lgtimes.f k bt987.1 bt991.1).bind fun t995 => (some (t995, 0))) else (some (([] : List (List Int)), 2))) else (some (([] : List (List Int)), 2))) else (some (([] : List (List Int)), 2))))) = some (r1, r2) := h
 clear h
 replace H := Option.bind_eq_some_iff.mp H
 obtain ⟨⟨t987, t990⟩, A30, H⟩ := H
 replace H : ((line_of.f k l1).bind fun bt991 => (if t990 = true then (if bt991.2 = true then (if (l0.length : Int) = (l1.length : Int) then ((lgtimes.f k t987 bt991.1).bind fun t995 => (some (t995, 0))) else (some (([] : List (List Int)), 2))) else (some (([] : List (List Int)), 2))) else (some (([] : List (List Int)), 2)))) = some (r1, r2) := H
 have A3 := Aside0.mk A30
 clear A30
 replace H := Option.bind_eq_some_iff.mp H
 obtain ⟨⟨t991, t994⟩, A40, H⟩ := H
 replace H : (if t990 = true then (if t994 = true then (if (l0.length : Int) = (l1.length : Int) then ((lgtimes.f k t987 t991).bind fun t995 => (some (t995, 0))) else (some (([] : List (List Int)), 2))) else (some (([] : List (List Int)), 2))) else (some (([] : List (List Int)), 2))) = some (r1, r2) := H
 have A4 := Aside0.mk A40
 clear A40
 by_cases c5 : t990 = true
 ·
  subst c5
  have H1 : (if t994 = true then (if (l0.length : Int) = (l1.length : Int) then ((lgtimes.f k t987 t991).bind fun t995 => (some (t995, 0))) else (some (([] : List (List Int)), 2))) else (some (([] : List (List Int)), 2))) = some (r1, r2) := by rw [if_pos rfl] at H; exact H
  clear H
  have H := H1
  clear H1
  by_cases c6 : t994 = true
  ·
   subst c6
   have H1 : (if (l0.length : Int) = (l1.length : Int) then ((lgtimes.f k t987 t991).bind fun t995 => (some (t995, 0))) else (some (([] : List (List Int)), 2))) = some (r1, r2) := by rw [if_pos rfl] at H; exact H
   clear H
   have H := H1
   clear H1
   by_cases c7 : (l0.length : Int) = (l1.length : Int)
   ·
    rw [if_pos c7] at H
    have c7b0 : ((l0.length : Int) == (l1.length : Int)) = true := beq_iff_eq.mpr c7
    have c7b2 : (l0.length == l1.length) = true := by first | simpa using c7 | (simp at c7 ⊢; omega)
    clear c7
    replace H := Option.bind_eq_some_iff.mp H
    obtain ⟨t995, A80, H⟩ := H
    replace H : (some (t995, 0)) = some (r1, r2) := H
    have A8 := Aside0.mk A80
    clear A80
    simp only [Option.some.injEq, Prod.mk.injEq] at H
    obtain ⟨rfl, rfl⟩ := H
    go_enter Try.func37, Try.ntmps37
    go_wp2_with (first | ((with_reducible refine gate_callee (f := 64) rfl ?_); refine goesL_ (some 12) rfl rfl Try.func64 (by kernel_rfl) rfl #[.slice A0 l0.length c0] rfl (by (try simp only [List.map_toArray, List.map_cons, List.map_nil]); rfl) ?_; (with_reducible refine (line_of.calls k (fun k_ => k_ < w.heap.size) _ _ l0 t987 true _ ?side1 A3.out).mono ?_); (case side1 => exact Kd.V_mk HC0.out (Kd.F_below (Kd.C_F (Kd.heap_slice 3 (Kd.heap_int .i64)) HR0.out) (HB.out))); rintro e w9 ⟨v988, rfl, ho0, hb⟩; refine ⟨_, rfl, ?_⟩; have n0_ := Aside0.mk (Kd.V_lower (Kd.V_mono (ok' := fun k_ => True) ho0 (fun k_ hk_ => trivial)) (below_size (HB.out))); have n1_ := Aside0.mk (below_step (HB.out) hb); clear HB; have HO989 := n0_; have HB := n1_; clear n0_ n1_) | ((with_reducible refine gate_callee (f := 64) rfl ?_); refine goesL_ (some 17) rfl rfl Try.func64 (by kernel_rfl) rfl #[.slice A1 l1.length c1] rfl (by (try simp only [List.map_toArray, List.map_cons, List.map_nil]); rfl) ?_; (with_reducible refine (line_of.calls k (fun k_ => k_ < w.heap.size) _ _ l1 t991 true _ ?side1 A4.out).mono ?_); (case side1 => exact Kd.V_mk HC1.out (Kd.F_below (Kd.C_F (Kd.heap_slice 3 (Kd.heap_int .i64)) HR1.out) (HB.out))); rintro e w10 ⟨v992, rfl, ho0, hb⟩; refine ⟨_, rfl, ?_⟩; have n0_ := Aside0.mk (Kd.V_below (by exact HO989.out) hb); have n1_ := Aside0.mk (Kd.V_lower (Kd.V_mono (ok' := fun k_ => True) ho0 (fun k_ hk_ => trivial)) (below_size (HB.out))); have n2_ := Aside0.mk (below_step (HB.out) hb); clear HO989; clear HB; have HO989 := n0_; have HO993 := n1_; have HB := n2_; clear n0_ n1_ n2_; obtain ⟨Ao11, co11, eo11⟩ := Kd.V_slice HO989.out; subst eo11; obtain ⟨Ao12, co12, eo12⟩ := Kd.V_slice HO993.out; subst eo12) | ((with_reducible refine gate_callee (f := 59) rfl ?_); refine goesL_ (some 35) rfl rfl Try.func59 (by kernel_rfl) rfl #[.slice Ao11 t987.length co11, .slice Ao12 t991.length co12] rfl (by (try simp only [List.map_toArray, List.map_cons, List.map_nil]); rfl) ?_; (with_reducible refine (lgtimes.calls k _ _ t987 _ _ t991 t995 _ ?side1 ?side2 ?side3 ?side4 A8.out).mono ?_); (case side1 => repeat (first | exact (Kd.V_reads' HO989.out).2.2)); (case side2 => exact (Kd.V_reads' HO989.out).2.1); (case side3 => repeat (first | exact (Kd.V_reads' HO993.out).2.2)); (case side4 => exact (Kd.V_reads' HO993.out).2.1); rintro e w13 ⟨v996, rfl, ho0, hb⟩; refine ⟨_, rfl, ?_⟩; have n0_ := Aside0.mk (Kd.V_elder' (by exact HO989.out) (Kd.S_base ho0) hb); have n1_ := Aside0.mk (Kd.V_elder' (by exact HO993.out) (Kd.S_base ho0) hb); have n2_ := Aside0.mk (Kd.S_lower ho0 (below_size (HB.out))); have n3_ := Aside0.mk (below_step (HB.out) hb); clear HO989; clear HO993; clear HB; have HO989 := n0_; have HO993 := n1_; have HO997 := n2_; have HB := n3_; clear n0_ n1_ n2_ n3_))
    go_ret2
    exact ⟨_, rfl, by exact HO997.out, HB.out⟩
   ·
    rw [if_neg c7] at H
    have c7b0 : ((l0.length : Int) == (l1.length : Int)) = false := beq_eq_false_iff_ne.mpr c7
    have c7b2 : (l0.length == l1.length) = false := by first | simpa using c7 | (simp at c7 ⊢; omega)
    simp only [Option.some.injEq, Prod.mk.injEq] at H
    obtain ⟨rfl, rfl⟩ := H
    go_enter Try.func37, Try.ntmps37
    go_wp2_with (first | ((with_reducible refine gate_callee (f := 64) rfl ?_); refine goesL_ (some 12) rfl rfl Try.func64 (by kernel_rfl) rfl #[.slice A0 l0.length c0] rfl (by (try simp only [List.map_toArray, List.map_cons, List.map_nil]); rfl) ?_; (with_reducible refine (line_of.calls k (fun k_ => k_ < w.heap.size) _ _ l0 t987 true _ ?side1 A3.out).mono ?_); (case side1 => exact Kd.V_mk HC0.out (Kd.F_below (Kd.C_F (Kd.heap_slice 3 (Kd.heap_int .i64)) HR0.out) (HB.out))); rintro e w14 ⟨v988, rfl, ho0, hb⟩; refine ⟨_, rfl, ?_⟩; have n0_ := Aside0.mk (Kd.V_lower (Kd.V_mono (ok' := fun k_ => True) ho0 (fun k_ hk_ => trivial)) (below_size (HB.out))); have n1_ := Aside0.mk (below_step (HB.out) hb); clear HB; have HO989 := n0_; have HB := n1_; clear n0_ n1_) | ((with_reducible refine gate_callee (f := 64) rfl ?_); refine goesL_ (some 17) rfl rfl Try.func64 (by kernel_rfl) rfl #[.slice A1 l1.length c1] rfl (by (try simp only [List.map_toArray, List.map_cons, List.map_nil]); rfl) ?_; (with_reducible refine (line_of.calls k (fun k_ => k_ < w.heap.size) _ _ l1 t991 true _ ?side1 A4.out).mono ?_); (case side1 => exact Kd.V_mk HC1.out (Kd.F_below (Kd.C_F (Kd.heap_slice 3 (Kd.heap_int .i64)) HR1.out) (HB.out))); rintro e w15 ⟨v992, rfl, ho0, hb⟩; refine ⟨_, rfl, ?_⟩; have n0_ := Aside0.mk (Kd.V_below (by exact HO989.out) hb); have n1_ := Aside0.mk (Kd.V_lower (Kd.V_mono (ok' := fun k_ => True) ho0 (fun k_ hk_ => trivial)) (below_size (HB.out))); have n2_ := Aside0.mk (below_step (HB.out) hb); clear HO989; clear HB; have HO989 := n0_; have HO993 := n1_; have HB := n2_; clear n0_ n1_ n2_))
    go_ret2
    exact ⟨_, rfl, by first | exact Kd.S_nil _ _ _ _ _ | exact Kd.N_nil _ _ _ _ _ | exact Kd.V_nil _ _ _ _ _ | exact Kd.Q_nil _ _ _ _ _ | exact Kd.R_nil _ _ _ _ _, HB.out⟩
  ·
   replace c6 := Bool.eq_false_iff.mpr c6
   subst c6
   have H1 : (some (([] : List (List Int)), 2)) = some (r1, r2) := by rw [if_neg (show ¬ (false = true) by decide)] at H; exact H
   clear H
   have H := H1
   clear H1
   simp only [Option.some.injEq, Prod.mk.injEq] at H
   obtain ⟨rfl, rfl⟩ := H
   go_enter Try.func37, Try.ntmps37
   go_wp2_with (first | ((with_reducible refine gate_callee (f := 64) rfl ?_); refine goesL_ (some 12) rfl rfl Try.func64 (by kernel_rfl) rfl #[.slice A0 l0.length c0] rfl (by (try simp only [List.map_toArray, List.map_cons, List.map_nil]); rfl) ?_; (with_reducible refine (line_of.calls k (fun k_ => k_ < w.heap.size) _ _ l0 t987 true _ ?side1 A3.out).mono ?_); (case side1 => exact Kd.V_mk HC0.out (Kd.F_below (Kd.C_F (Kd.heap_slice 3 (Kd.heap_int .i64)) HR0.out) (HB.out))); rintro e w16 ⟨v988, rfl, ho0, hb⟩; refine ⟨_, rfl, ?_⟩; have n0_ := Aside0.mk (Kd.V_lower (Kd.V_mono (ok' := fun k_ => True) ho0 (fun k_ hk_ => trivial)) (below_size (HB.out))); have n1_ := Aside0.mk (below_step (HB.out) hb); clear HB; have HO989 := n0_; have HB := n1_; clear n0_ n1_) | ((with_reducible refine gate_callee (f := 64) rfl ?_); refine goesL_ (some 17) rfl rfl Try.func64 (by kernel_rfl) rfl #[.slice A1 l1.length c1] rfl (by (try simp only [List.map_toArray, List.map_cons, List.map_nil]); rfl) ?_; (with_reducible refine (line_of.calls k (fun k_ => k_ < w.heap.size) _ _ l1 t991 false _ ?side1 A4.out).mono ?_); (case side1 => exact Kd.V_mk HC1.out (Kd.F_below (Kd.C_F (Kd.heap_slice 3 (Kd.heap_int .i64)) HR1.out) (HB.out))); rintro e w17 ⟨v992, rfl, ho0, hb⟩; refine ⟨_, rfl, ?_⟩; have n0_ := Aside0.mk (Kd.V_below (by exact HO989.out) hb); have n1_ := Aside0.mk (Kd.V_lower (Kd.V_mono (ok' := fun k_ => True) ho0 (fun k_ hk_ => trivial)) (below_size (HB.out))); have n2_ := Aside0.mk (below_step (HB.out) hb); clear HO989; clear HB; have HO989 := n0_; have HO993 := n1_; have HB := n2_; clear n0_ n1_ n2_))
   go_ret2
   exact ⟨_, rfl, by first | exact Kd.S_nil _ _ _ _ _ | exact Kd.N_nil _ _ _ _ _ | exact Kd.V_nil _ _ _ _ _ | exact Kd.Q_nil _ _ _ _ _ | exact Kd.R_nil _ _ _ _ _, HB.out⟩
 ·
  replace c5 := Bool.eq_false_iff.mpr c5
  subst c5
  have H1 : (some (([] : List (List Int)), 2)) = some (r1, r2) := by rw [if_neg (show ¬ (false = true) by decide)] at H; exact H
  clear H
  have H := H1
  clear H1
  simp only [Option.some.injEq, Prod.mk.injEq] at H
  obtain ⟨rfl, rfl⟩ := H
  go_enter Try.func37, Try.ntmps37
  go_wp2_with (first | ((with_reducible refine gate_callee (f := 64) rfl ?_); refine goesL_ (some 12) rfl rfl Try.func64 (by kernel_rfl) rfl #[.slice A0 l0.length c0] rfl (by (try simp only [List.map_toArray, List.map_cons, List.map_nil]); rfl) ?_; (with_reducible refine (line_of.calls k (fun k_ => k_ < w.heap.size) _ _ l0 t987 false _ ?side1 A3.out).mono ?_); (case side1 => exact Kd.V_mk HC0.out (Kd.F_below (Kd.C_F (Kd.heap_slice 3 (Kd.heap_int .i64)) HR0.out) (HB.out))); rintro e w18 ⟨v988, rfl, ho0, hb⟩; refine ⟨_, rfl, ?_⟩; have n0_ := Aside0.mk (Kd.V_lower (Kd.V_mono (ok' := fun k_ => True) ho0 (fun k_ hk_ => trivial)) (below_size (HB.out))); have n1_ := Aside0.mk (below_step (HB.out) hb); clear HB; have HO989 := n0_; have HB := n1_; clear n0_ n1_) | ((with_reducible refine gate_callee (f := 64) rfl ?_); refine goesL_ (some 17) rfl rfl Try.func64 (by kernel_rfl) rfl #[.slice A1 l1.length c1] rfl (by (try simp only [List.map_toArray, List.map_cons, List.map_nil]); rfl) ?_; (with_reducible refine (line_of.calls k (fun k_ => k_ < w.heap.size) _ _ l1 t991 t994 _ ?side1 A4.out).mono ?_); (case side1 => exact Kd.V_mk HC1.out (Kd.F_below (Kd.C_F (Kd.heap_slice 3 (Kd.heap_int .i64)) HR1.out) (HB.out))); rintro e w19 ⟨v992, rfl, ho0, hb⟩; refine ⟨_, rfl, ?_⟩; have n0_ := Aside0.mk (Kd.V_below (by exact HO989.out) hb); have n1_ := Aside0.mk (Kd.V_lower (Kd.V_mono (ok' := fun k_ => True) ho0 (fun k_ hk_ => trivial)) (below_size (HB.out))); have n2_ := Aside0.mk (below_step (HB.out) hb); clear HO989; clear HB; have HO989 := n0_; have HO993 := n1_; have HB := n2_; clear n0_ n1_ n2_))
  go_ret2
  exact ⟨_, rfl, by first | exact Kd.S_nil _ _ _ _ _ | exact Kd.N_nil _ _ _ _ _ | exact Kd.V_nil _ _ _ _ _ | exact Kd.Q_nil _ _ _ _ _ | exact Kd.R_nil _ _ _ _ _, HB.out⟩

def line_steps.f (a0 : Int) : Option (Bool) := if a0 ≥ 0 then (some (decide (a0 ≤ 1048576))) else (some false)
set_option maxHeartbeats 8000000 in
set_option maxRecDepth 100000 in
theorem line_steps.calls (a0 : Int) (r : Bool) (w : World) (h : line_steps.f a0 = some r) :
  Calls Try.prog 67 #[.int .i64 a0] w fun e w' => e = .returned (.bool r) ∧ Drawn0 w w' := by
 have H : (if a0 ≥ 0 then (some (decide (a0 ≤ 1048576))) else (some false)) = some r := h
 clear h
 by_cases c2 : a0 ≥ 0
 ·
  rw [if_pos c2] at H
  have c2b0 : decide (0 ≤ a0) = true := decide_eq_true c2
  clear c2
  obtain rfl := Option.some.inj H
  go_enter Try.func67, Try.ntmps67
  go_wp2
  go_ret
  exact ⟨by first | rfl | (simp; done) | (simp [*]; done), by repeat (first | exact Drawn0.refl _ | apply Drawn0.step)⟩
 ·
  rw [if_neg c2] at H
  have c2b0 : decide (0 ≤ a0) = false := decide_eq_false c2
  clear c2
  obtain rfl := Option.some.inj H
  go_enter Try.func67, Try.ntmps67
  go_wp2
  go_ret
  exact ⟨by first | rfl | (simp; done) | (simp [*]; done), by repeat (first | exact Drawn0.refl _ | apply Drawn0.step)⟩

def line_Power.f (k : Nat) (l0 : List (List Int)) (a1 : Int) : Option ((List (List Int)) × Int) := (line_of.f k l0).bind fun bt707 => (if bt707.2 = true then ((line_steps.f a1).bind fun t711 => (if t711 = true then ((lgpower.f k bt707.1 a1).bind fun t712 => (some (t712, 0))) else (some (([] : List (List Int)), 2)))) else (some (([] : List (List Int)), 2)))
theorem line_Power.mono : ∀ a0 a1 k, LeO (line_Power.f k a0 a1) (line_Power.f (k + 1) a0 a1) := by
 intro a0 a1 k
 unfold line_Power.f
 repeat' first
   | (with_reducible exact LeO.refl _)
   | (with_reducible exact LeO.none _)
   | (with_reducible refine LeO.ite ?_ ?_)
   | (with_reducible refine LeO.bind ?_ (fun _ => ?_))
   | exact lgpower.mono _ _ _
   | exact line_of.mono _ _
   | exact LeO.none _
   | refine LeO.ite ?_ ?_
   | refine LeO.bind ?_ (fun _ => ?_)
set_option maxHeartbeats 8000000 in
set_option maxRecDepth 100000 in
theorem line_Power.calls (k : Nat) (A0 : Option Addr) (c0 : Nat) (l0 : List (List Int)) (a1 : Int) (r1 : List (List Int)) (r2 : Int) (w : World) (hr0 : Kd.C (Kd.slice 3 (Kd.int .i64)) w A0 l0.length l0) (hc0 : l0.length ≤ c0) (h : line_Power.f k l0 a1 = some (r1, r2)) :
  Calls Try.prog 40 #[.slice A0 l0.length c0, .int .i64 a1] w fun e w' => ∃ v0_ : Value, e = .returned (.tuple #[v0_, .int .i64 r2]) ∧ Kd.S (Kd.slice 3 (Kd.int .i64)) 26 w' w.heap.size (fun _ => True) v0_ r1 ∧ Below w.heap.size w w' := by
 have HR0 := Aside0.mk hr0
 have HC0 := Aside0.mk hc0
 clear hr0 hc0
 have HB := Aside0.mk (Below.refl w.heap.size w)
 have H : ((line_of.f k l0).bind fun bt707 => (if bt707.2 = true then ((line_steps.f a1).bind fun t711 => (if t711 = true then ((lgpower.f k bt707.1 a1).bind fun t712 => (some (t712, 0))) else (some (([] : List (List Int)), 2)))) else (some (([] : List (List Int)), 2)))) = some (r1, r2) := h
 clear h
 replace H := Option.bind_eq_some_iff.mp H
 obtain ⟨⟨t707, t710⟩, A30, H⟩ := H
 replace H : (if t710 = true then ((line_steps.f a1).bind fun t711 => (if t711 = true then ((lgpower.f k t707 a1).bind fun t712 => (some (t712, 0))) else (some (([] : List (List Int)), 2)))) else (some (([] : List (List Int)), 2))) = some (r1, r2) := H
 have A3 := Aside0.mk A30
 clear A30
 by_cases c4 : t710 = true
 ·
  subst c4
  have H1 : ((line_steps.f a1).bind fun t711 => (if t711 = true then ((lgpower.f k t707 a1).bind fun t712 => (some (t712, 0))) else (some (([] : List (List Int)), 2)))) = some (r1, r2) := by rw [if_pos rfl] at H; exact H
  clear H
  have H := H1
  clear H1
  replace H := Option.bind_eq_some_iff.mp H
  obtain ⟨t711, A50, H⟩ := H
  replace H : (if t711 = true then ((lgpower.f k t707 a1).bind fun t712 => (some (t712, 0))) else (some (([] : List (List Int)), 2))) = some (r1, r2) := H
  have A5 := Aside0.mk A50
  clear A50
  by_cases c6 : t711 = true
  ·
   subst c6
   have H1 : ((lgpower.f k t707 a1).bind fun t712 => (some (t712, 0))) = some (r1, r2) := by rw [if_pos rfl] at H; exact H
   clear H
   have H := H1
   clear H1
   replace H := Option.bind_eq_some_iff.mp H
   obtain ⟨t712, A70, H⟩ := H
   replace H : (some (t712, 0)) = some (r1, r2) := H
   have A7 := Aside0.mk A70
   clear A70
   simp only [Option.some.injEq, Prod.mk.injEq] at H
   obtain ⟨rfl, rfl⟩ := H
   go_enter Try.func40, Try.ntmps40
   go_wp2_with (first | ((with_reducible refine gate_callee (f := 64) rfl ?_); refine goesL_ (some 10) rfl rfl Try.func64 (by kernel_rfl) rfl #[.slice A0 l0.length c0] rfl (by (try simp only [List.map_toArray, List.map_cons, List.map_nil]); first | done | rfl | (simp only [List.length_drop, List.length_take]; rfl)) ?_; (with_reducible refine (line_of.calls k (fun k_ => k_ < w.heap.size) _ _ l0 t707 true _ ?side1 A3.out).mono ?_); (case side1 => exact Kd.V_mk HC0.out (Kd.F_below (Kd.C_F (Kd.heap_slice 3 (Kd.heap_int .i64)) HR0.out) (by repeat (first | (with_reducible first | exact HB.out | apply below_alloc | apply pw_below_drewN | apply below_drew1) | exact HB.out)))); rintro e w8 ⟨v708, rfl, ho0, hb⟩; refine ⟨_, rfl, ?_⟩; have n0_ := Aside0.mk (Kd.V_lower (Kd.V_mono (ok' := fun k_ => True) ho0 (fun k_ hk_ => trivial)) (below_size (by repeat (first | (with_reducible first | exact HB.out | apply below_alloc | apply pw_below_drewN | apply below_drew1) | exact HB.out)))); have n1_ := Aside0.mk (below_step (by repeat (first | (with_reducible first | exact HB.out | apply below_alloc | apply pw_below_drewN | apply below_drew1) | exact HB.out)) hb); clear HB; have HO709 := n0_; have HB := n1_; clear n0_ n1_; (try clear hb); (try clear hb2); (try clear hk); (try clear hi); (try clear ho0)) | (go_at_call 67; (with_reducible refine (line_steps.calls a1 true _ A5.out).mono ?_); rintro e w' ⟨rfl, ⟨nd, rfl⟩⟩; obtain ⟨Ao9, co9, eo9⟩ := Kd.V_slice HO709.out; subst eo9) | ((with_reducible refine gate_callee (f := 56) rfl ?_); refine goesL_ (some 22) rfl rfl Try.func56 (by kernel_rfl) rfl #[.slice Ao9 t707.length co9, .int .i64 a1] rfl (by (try simp only [List.map_toArray, List.map_cons, List.map_nil]); first | done | rfl | (simp only [List.length_drop, List.length_take]; rfl)) ?_; (with_reducible refine (lgpower.calls k (fun k_ => True) _ _ t707 a1 t712 _ ?side1 A7.out).mono ?_); (case side1 => exact HO709.out); rintro e w10 ⟨v713, rfl, ho0, hb⟩; refine ⟨_, rfl, ?_⟩; have n0_ := Aside0.mk (Kd.V_elder' (by (with_reducible repeat (first | apply Kd.V_alloc | apply Kd.V_drewN | apply Kd.V_drew)); exact HO709.out) (Kd.S_base ho0) hb); have n1_ := Aside0.mk (Kd.S_lower (Kd.S_mono (ok' := fun k_ => True) ho0 (fun _ hk_ => trivial)) (below_size (by repeat (first | (with_reducible first | exact HB.out | apply below_alloc | apply pw_below_drewN | apply below_drew1) | exact HB.out)))); have n2_ := Aside0.mk (below_step (by repeat (first | (with_reducible first | exact HB.out | apply below_alloc | apply pw_below_drewN | apply below_drew1) | exact HB.out)) hb); clear HO709; clear HB; have HO709 := n0_; have HO714 := n1_; have HB := n2_; clear n0_ n1_ n2_; (try clear hb); (try clear hb2); (try clear hk); (try clear hi); (try clear ho0)))
   go_ret2
   exact ⟨_, by first | rfl | (simp [errW_none, errW_some] <;> rfl) | (simp [*, errW_none, errW_some] <;> rfl), by (with_reducible repeat (first | apply Kd.S_alloc | apply Kd.S_drewN | apply Kd.S_drew)); exact HO714.out, by repeat (first | (with_reducible first | exact HB.out | apply below_alloc | apply pw_below_drewN | apply below_drew1) | exact HB.out)⟩
  ·
   replace c6 := Bool.eq_false_iff.mpr c6
   subst c6
   have H1 : (some (([] : List (List Int)), 2)) = some (r1, r2) := by rw [if_neg (show ¬ (false = true) by decide)] at H; exact H
   clear H
   have H := H1
   clear H1
   simp only [Option.some.injEq, Prod.mk.injEq] at H
   obtain ⟨rfl, rfl⟩ := H
   go_enter Try.func40, Try.ntmps40
   go_wp2_with (first | ((with_reducible refine gate_callee (f := 64) rfl ?_); refine goesL_ (some 10) rfl rfl Try.func64 (by kernel_rfl) rfl #[.slice A0 l0.length c0] rfl (by (try simp only [List.map_toArray, List.map_cons, List.map_nil]); rfl) ?_; (with_reducible refine (line_of.calls k (fun k_ => k_ < w.heap.size) _ _ l0 t707 true _ ?side1 A3.out).mono ?_); (case side1 => exact Kd.V_mk HC0.out (Kd.F_below (Kd.C_F (Kd.heap_slice 3 (Kd.heap_int .i64)) HR0.out) (HB.out))); rintro e w11 ⟨v708, rfl, ho0, hb⟩; refine ⟨_, rfl, ?_⟩; have n0_ := Aside0.mk (Kd.V_lower (Kd.V_mono (ok' := fun k_ => True) ho0 (fun k_ hk_ => trivial)) (below_size (HB.out))); have n1_ := Aside0.mk (below_step (HB.out) hb); clear HB; have HO709 := n0_; have HB := n1_; clear n0_ n1_) | (go_at_call 67; (with_reducible refine (line_steps.calls a1 false _ A5.out).mono ?_); rintro e w' ⟨rfl, ⟨nd, rfl⟩⟩))
   go_ret2
   exact ⟨_, rfl, by first | exact Kd.S_nil _ _ _ _ _ | exact Kd.N_nil _ _ _ _ _ | exact Kd.V_nil _ _ _ _ _ | exact Kd.Q_nil _ _ _ _ _ | exact Kd.R_nil _ _ _ _ _, by repeat (first | exact HB.out | apply below_alloc | apply pw_below_drewN | apply below_drew1)⟩
 ·
  replace c4 := Bool.eq_false_iff.mpr c4
  subst c4
  have H1 : (some (([] : List (List Int)), 2)) = some (r1, r2) := by rw [if_neg (show ¬ (false = true) by decide)] at H; exact H
  clear H
  have H := H1
  clear H1
  simp only [Option.some.injEq, Prod.mk.injEq] at H
  obtain ⟨rfl, rfl⟩ := H
  go_enter Try.func40, Try.ntmps40
  go_wp2_with (first | ((with_reducible refine gate_callee (f := 64) rfl ?_); refine goesL_ (some 10) rfl rfl Try.func64 (by kernel_rfl) rfl #[.slice A0 l0.length c0] rfl (by (try simp only [List.map_toArray, List.map_cons, List.map_nil]); rfl) ?_; (with_reducible refine (line_of.calls k (fun k_ => k_ < w.heap.size) _ _ l0 t707 false _ ?side1 A3.out).mono ?_); (case side1 => exact Kd.V_mk HC0.out (Kd.F_below (Kd.C_F (Kd.heap_slice 3 (Kd.heap_int .i64)) HR0.out) (HB.out))); rintro e w12 ⟨v708, rfl, ho0, hb⟩; refine ⟨_, rfl, ?_⟩; have n0_ := Aside0.mk (Kd.V_lower (Kd.V_mono (ok' := fun k_ => True) ho0 (fun k_ hk_ => trivial)) (below_size (HB.out))); have n1_ := Aside0.mk (below_step (HB.out) hb); clear HB; have HO709 := n0_; have HB := n1_; clear n0_ n1_))
  go_ret2
  exact ⟨_, rfl, by first | exact Kd.S_nil _ _ _ _ _ | exact Kd.N_nil _ _ _ _ _ | exact Kd.V_nil _ _ _ _ _ | exact Kd.Q_nil _ _ _ _ _ | exact Kd.R_nil _ _ _ _ _, HB.out⟩

mutual
def lgon.l0 : Nat → List (List Int) → List Int → List Int → Int → Int → Option (List Int)
 | 0, _, _, _, _, _ => none
 | k + 1, x0, x1, x5, x13, x14 => if x14 < x13 then ((line_never_int.f).bind fun t758 => (lgon.l1 k x0 x1 x5 x14 t758 x13 x14 (x0.length : Int) 0)) else (some x5)
def lgon.l1 : Nat → List (List Int) → List Int → List Int → Int → Int → Int → Int → Int → Int → Option (List Int)
 | 0, _, _, _, _, _, _, _, _, _ => none
 | k + 1, x0, x1, x5, x6, x7, x13, x14, x19, x20 => if x20 < x19 then (if 0 ≤ x6 then (if x6 < (x0.length : Int) then (if 0 ≤ x20 then (if x20 < ((rd_L1 x0 x6).length : Int) then (if x20 < (x1.length : Int) then ((line_both_int.f (rd (rd_L1 x0 x6) x20) (rd x1 x20)).bind fun t762 => (lgon.l1 k x0 x1 x5 x6 (mx x7 t762) x13 x14 x19 (wrap64 (x20 + 1)))) else (none)) else (none)) else (none)) else (none)) else (none)) else (if 0 ≤ x6 then (if x6 < (x5.length : Int) then (lgon.l0 k x0 x1 (x5.set (x6 : Int).toNat x7) x13 (wrap64 (x14 + 1))) else (none)) else (none))
end
def lgon.f (k : Nat) (l0 : List (List Int)) (l1 : List Int) : Option (List Int) := if 0 ≤ (l0.length : Int) then (if ((l0.length : Int) : Int).toNat ≤ 35184372088832 then (lgon.l0 k l0 l1 (List.replicate ((l0.length : Int) : Int).toNat 0) (l0.length : Int) 0) else (none)) else (none)
theorem lgon.mono_l : ∀ k, (∀ y0 y1 y2 y3 y4, LeO (lgon.l0 k y0 y1 y2 y3 y4) (lgon.l0 (k + 1) y0 y1 y2 y3 y4)) ∧ (∀ y0 y1 y2 y3 y4 y5 y6 y7 y8, LeO (lgon.l1 k y0 y1 y2 y3 y4 y5 y6 y7 y8) (lgon.l1 (k + 1) y0 y1 y2 y3 y4 y5 y6 y7 y8))
 | 0 => ⟨fun _ _ _ _ _ r h => by simp [lgon.l0] at h, fun _ _ _ _ _ _ _ _ _ r h => by simp [lgon.l1] at h⟩
 | k + 1 => by
  obtain ⟨ih0, ih1⟩ := lgon.mono_l k
  refine ⟨?_, ?_⟩
  ·
   intro y0 y1 y2 y3 y4
   unfold lgon.l0
   repeat' first
   | (with_reducible exact LeO.refl _)
   | (with_reducible exact LeO.none _)
   | (with_reducible refine LeO.ite ?_ ?_)
   | (with_reducible refine LeO.bind ?_ (fun _ => ?_))
   | exact ih0 _ _ _ _ _
   | exact ih1 _ _ _ _ _ _ _ _ _
   | exact LeO.none _
   | refine LeO.ite ?_ ?_
   | refine LeO.bind ?_ (fun _ => ?_)
  ·
   intro y0 y1 y2 y3 y4 y5 y6 y7 y8
   unfold lgon.l1
   repeat' first
   | (with_reducible exact LeO.refl _)
   | (with_reducible exact LeO.none _)
   | (with_reducible refine LeO.ite ?_ ?_)
   | (with_reducible refine LeO.bind ?_ (fun _ => ?_))
   | exact ih0 _ _ _ _ _
   | exact ih1 _ _ _ _ _ _ _ _ _
   | exact LeO.none _
   | refine LeO.ite ?_ ?_
   | refine LeO.bind ?_ (fun _ => ?_)
theorem lgon.mono : ∀ a0 a1 k, LeO (lgon.f k a0 a1) (lgon.f (k + 1) a0 a1) := by
 intro a0 a1 k
 obtain ⟨ih0, ih1⟩ := lgon.mono_l k
 unfold lgon.f
 repeat' first
   | (with_reducible exact LeO.refl _)
   | (with_reducible exact LeO.none _)
   | (with_reducible refine LeO.ite ?_ ?_)
   | (with_reducible refine LeO.bind ?_ (fun _ => ?_))
   | exact ih0 _ _ _ _ _
   | exact ih1 _ _ _ _ _ _ _ _ _
   | exact LeO.none _
   | refine LeO.ite ?_ ?_
   | refine LeO.bind ?_ (fun _ => ?_)
set_option maxHeartbeats 8000000 in
set_option maxRecDepth 100000 in
theorem lgon.calls (k : Nat) (A0 : Option Addr) (c0 : Nat) (l0 : List (List Int)) (A1 : Option Addr) (c1 : Nat) (l1 : List Int) (r : List Int) (w : World) (hr0 : Kd.C (Kd.slice 3 (Kd.int .i64)) w A0 l0.length l0) (hc0 : l0.length ≤ c0) (hr1 : Kd.C (Kd.int .i64) w A1 l1.length l1) (hc1 : l1.length ≤ c1) (h : lgon.f k l0 l1 = some r) :
  Calls Try.prog 70 #[.slice A0 l0.length c0, .slice A1 l1.length c1] w fun e w' => ∃ v0_ : Value, e = .returned (v0_) ∧ Kd.R (Kd.int .i64) 3 w' w.heap.size (fun _ => True) v0_ r ∧ Below w.heap.size w w' := by
 have HR0 := Aside0.mk hr0
 have HC0 := Aside0.mk hc0
 clear hr0 hc0
 have HR1 := Aside0.mk hr1
 have HC1 := Aside0.mk hc1
 clear hr1 hc1
 have HB := Aside0.mk (Below.refl w.heap.size w)
 have H : (if 0 ≤ (l0.length : Int) then (if ((l0.length : Int) : Int).toNat ≤ 35184372088832 then (lgon.l0 k l0 l1 (List.replicate ((l0.length : Int) : Int).toNat 0) (l0.length : Int) 0) else (none)) else (none)) = some r := h
 clear h
 by_cases c3 : 0 ≤ (l0.length : Int)
 ·
  rw [if_pos c3] at H
  have c3b0 := eq_true c3
  have c3b1 : decide (0 ≤ (l0.length : Int)) = true := decide_eq_true c3
  clear c3
  by_cases c4 : ((l0.length : Int) : Int).toNat ≤ 35184372088832
  ·
   rw [if_pos c4] at H
   have c4b0 := eq_true c4
   have c4b1 : decide (((l0.length : Int) : Int).toNat ≤ 35184372088832) = true := decide_eq_true c4
   clear c4
   obtain ⟨y755, hy755⟩ : ∃ y_ : List Int, y_ = (List.replicate ((l0.length : Int) : Int).toNat 0) := ⟨_, rfl⟩
   replace H : (lgon.l0 k l0 l1 y755 (l0.length : Int) 0) = some r := by first | (rw [hy755]; with_reducible exact H) | (have H2_ := (Option.bind_some _ _).symm.trans H; rw [hy755]; with_reducible exact H2_) | (have H2_ := (Option.bind_some _ _).symm.trans H; with_reducible exact H2_) | with_reducible exact H | (rw [hy755]; exact H) | exact H
   have Ny755 := Aside0.mk hy755
   clear hy755
   have H' := Aside0.mk H
   clear H
   go_enter Try.func70, Try.ntmps70
   go_wp2_with (first | ((with_reducible refine gate_dst (N := 11) rfl ?_); refine Kd.R_make (Kd.int .i64) _ 3 rfl (N := 11) rfl 26 _ _ rfl (l0.length : Int) rfl rfl Try.underlying26 (.int .i64 0) 8 info3 rfl (by decide) (by omega) 0 (ok := fun _ => True) (okp := fun _ => True) rfl (fun _ hk => hk) trivial (of_decide_eq_true (by first | (with_reducible assumption) | assumption)) (Nat.le_trans (Nat.mul_le_mul_right _ (of_decide_eq_true (by first | (with_reducible assumption) | assumption) : (l0.length : Int).toNat ≤ 35184372088832)) (by omega)) (Below.refl _ _) (Nat.le_refl _) ?_; intro v756 w5 ho6 hb hg_ hnew_; clear hg_ hnew_; (first | rw [← Ny755.out] at ho6 | (simp only [Int.reduceToNat] at ho6; rw [← Ny755.out] at ho6)); have n0_ := Aside0.mk (Kd.R_lower ho6 (below_size (by repeat (first | (with_reducible first | exact HB.out | apply below_alloc | apply pw_below_drewN | apply below_drew1) | exact HB.out)))); have n1_ := Aside0.mk (below_step (by repeat (first | (with_reducible first | exact HB.out | apply below_alloc | apply pw_below_drewN | apply below_drew1) | exact HB.out)) hb); clear HB; have HO757 := n0_; have HB := n1_; clear n0_ n1_; clear hb ho6))
   repeat (go_quiet (first | ((with_reducible refine gate_dst (N := 11) rfl ?_); refine Kd.R_make (Kd.int .i64) _ 3 rfl (N := 11) rfl 26 _ _ rfl (l0.length : Int) rfl rfl Try.underlying26 (.int .i64 0) 8 info3 rfl (by decide) (by omega) 0 (ok := fun _ => True) (okp := fun _ => True) rfl (fun _ hk => hk) trivial (of_decide_eq_true (by first | (with_reducible assumption) | assumption)) (Nat.le_trans (Nat.mul_le_mul_right _ (of_decide_eq_true (by first | (with_reducible assumption) | assumption) : (l0.length : Int).toNat ≤ 35184372088832)) (by omega)) (Below.refl _ _) (Nat.le_refl _) ?_; intro v756 w5 ho6 hb hg_ hnew_; clear hg_ hnew_; (first | rw [← Ny755.out] at ho6 | (simp only [Int.reduceToNat] at ho6; rw [← Ny755.out] at ho6)); have n0_ := Aside0.mk (Kd.R_lower ho6 (below_size (by repeat (first | (with_reducible first | exact HB.out | apply below_alloc | apply pw_below_drewN | apply below_drew1) | exact HB.out)))); have n1_ := Aside0.mk (below_step (by repeat (first | (with_reducible first | exact HB.out | apply below_alloc | apply pw_below_drewN | apply below_drew1) | exact HB.out)) hb); clear HB; have HO757 := n0_; have HB := n1_; clear n0_ n1_; clear hb ho6)); try go_wp2_with (first | ((with_reducible refine gate_dst (N := 11) rfl ?_); refine Kd.R_make (Kd.int .i64) _ 3 rfl (N := 11) rfl 26 _ _ rfl (l0.length : Int) rfl rfl Try.underlying26 (.int .i64 0) 8 info3 rfl (by decide) (by omega) 0 (ok := fun _ => True) (okp := fun _ => True) rfl (fun _ hk => hk) trivial (of_decide_eq_true (by first | (with_reducible assumption) | assumption)) (Nat.le_trans (Nat.mul_le_mul_right _ (of_decide_eq_true (by first | (with_reducible assumption) | assumption) : (l0.length : Int).toNat ≤ 35184372088832)) (by omega)) (Below.refl _ _) (Nat.le_refl _) ?_; intro v756 w5 ho6 hb hg_ hnew_; clear hg_ hnew_; (first | rw [← Ny755.out] at ho6 | (simp only [Int.reduceToNat] at ho6; rw [← Ny755.out] at ho6)); have n0_ := Aside0.mk (Kd.R_lower ho6 (below_size (by repeat (first | (with_reducible first | exact HB.out | apply below_alloc | apply pw_below_drewN | apply below_drew1) | exact HB.out)))); have n1_ := Aside0.mk (below_step (by repeat (first | (with_reducible first | exact HB.out | apply below_alloc | apply pw_below_drewN | apply below_drew1) | exact HB.out)) hb); clear HB; have HO757 := n0_; have HB := n1_; clear n0_ n1_; clear hb ho6)))
   go_loopg [14] k (fun kq v14 w' => ∃ (x5_1 : List Int) (x14_1 : Int), v14 = .int .i64 x14_1 ∧ Aside0 (lgon.l0 kq l0 l1 x5_1 (l0.length : Int) x14_1 = some r) ∧ Aside0 (kq ≤ k) ∧ Aside0 (Kd.R (Kd.int .i64) 3 w' w.heap.size (fun _ => True) v756 x5_1) ∧ Aside0 (Below w.heap.size w w'))
   case atStart => exact ⟨(y755), (0), (by first | rfl | (simp; done) | (simp [*]; done)), H', ⟨Nat.le_refl _⟩, ⟨by (with_reducible repeat (first | apply Kd.R_alloc | apply Kd.R_drewN | apply Kd.R_drew)); exact HO757.out⟩, ⟨by repeat (first | (with_reducible first | exact HB.out | apply below_alloc | apply pw_below_drewN | apply below_drew1) | exact HB.out)⟩⟩
   case round =>
    clear H'
    try clear c1
    try clear p2
    try clear c3
    try clear c3b0
    try clear c3b1
    try clear c4
    try clear c4b0
    try clear c4b1
    obtain ⟨x5_1, x14_1, rfl, HA, HK1, HO_5, HB⟩ := hrel
    cases gk with
    | zero => exact absurd HA.out (by simp [lgon.l0])
    | succ k1 =>
     have H := HA.out
     clear HA
     simp only [lgon.l0] at H
     by_cases c7 : x14_1 < (l0.length : Int)
     ·
      rw [if_pos c7] at H
      have c7b0 : decide (x14_1 < (l0.length : Int)) = true := decide_eq_true c7
      clear c7
      replace H := Option.bind_eq_some_iff.mp H
      obtain ⟨t758, A80, H⟩ := H
      replace H : (lgon.l1 k1 l0 l1 x5_1 x14_1 t758 (l0.length : Int) x14_1 (l0.length : Int) 0) = some r := H
      have A8 := Aside0.mk A80
      clear A80
      have H' := Aside0.mk H
      clear H
      go_wp2_with (first | (go_at_call 83; (with_reducible refine (line_never_int.calls  t758 _ A8.out).mono ?_); rintro e w' ⟨rfl, ⟨nd, rfl⟩⟩; (try first | exact ⟨rfl, _, World.drewN_drewN _ _ _⟩ | exact ⟨rfl, _, Eq.trans (World.drewN_drewN _ _ _) (congrArg (World.drewN _) (Nat.add_assoc _ _ _))⟩)))
      go_loopg [7, 20] k1 (fun kq v7 v20 w' => ∃ (x7_2 : Int) (x20_2 : Int), v7 = .int .i64 x7_2 ∧ v20 = .int .i64 x20_2 ∧ Aside0 (lgon.l1 kq l0 l1 x5_1 x14_1 x7_2 (l0.length : Int) x14_1 (l0.length : Int) x20_2 = some r) ∧ Aside0 (kq ≤ k1) ∧ Aside0 (Kd.R (Kd.int .i64) 3 w' w.heap.size (fun _ => True) v756 x5_1) ∧ Aside0 (Below w.heap.size w w'))
      case atStart => exact ⟨(t758), (0), rfl, rfl, H', ⟨Nat.le_refl _⟩, ⟨by exact HO_5.out⟩, ⟨by repeat (first | exact HB.out | apply below_alloc | apply pw_below_drewN | apply below_drew1)⟩⟩
      case round =>
       clear H'
       obtain ⟨x7_2, x20_2, rfl, rfl, HA, HK2, HO_5, HB⟩ := hrel
       cases gk with
       | zero => exact absurd HA.out (by simp [lgon.l1])
       | succ k2 =>
        have H := HA.out
        clear HA
        simp only [lgon.l1] at H
        by_cases c9 : x20_2 < (l0.length : Int)
        ·
         rw [if_pos c9] at H
         have c9b0 : decide (x20_2 < (l0.length : Int)) = true := decide_eq_true c9
         clear c9
         by_cases c10 : 0 ≤ x14_1
         ·
          rw [if_pos c10] at H
          have c10b0 : decide (0 ≤ x14_1) = true := decide_eq_true c10
          clear c10
          by_cases c11 : x14_1 < (l0.length : Int)
          ·
           rw [if_pos c11] at H
           have c11b0 : decide (x14_1 < (l0.length : Int)) = true := decide_eq_true c11
           clear c11
           by_cases c12 : 0 ≤ x20_2
           ·
            rw [if_pos c12] at H
            have c12b0 : decide (0 ≤ x20_2) = true := decide_eq_true c12
            clear c12
            by_cases c13 : x20_2 < ((rd_L1 l0 x14_1).length : Int)
            ·
             rw [if_pos c13] at H
             have c13b0 : decide (x20_2 < ((rd_L1 l0 x14_1).length : Int)) = true := decide_eq_true c13
             clear c13
             by_cases c14 : x20_2 < (l1.length : Int)
             ·
              rw [if_pos c14] at H
              have c14b0 : decide (x20_2 < (l1.length : Int)) = true := decide_eq_true c14
              clear c14
              replace H := Option.bind_eq_some_iff.mp H
              obtain ⟨t762, A150, H⟩ := H
              replace H : (lgon.l1 k2 l0 l1 x5_1 x14_1 (mx x7_2 t762) (l0.length : Int) x14_1 (l0.length : Int) (wrap64 (x20_2 + 1))) = some r := H
              have A15 := Aside0.mk A150
              clear A150
              obtain ⟨ji16, hji16⟩ : ∃ j_ : Int, (mx x7_2 t762) = j_ := ⟨_, rfl⟩
              replace H : (lgon.l1 k2 l0 l1 x5_1 x14_1 ji16 (l0.length : Int) x14_1 (l0.length : Int) (wrap64 (x20_2 + 1))) = some r := by first | (rw [hji16] at H; exact H) | (simp only [hji16] at H ⊢; exact H)
              (try rw [hji16] at A15)
              have hji16_ : (if x7_2 < t762 then t762 else x7_2) = ji16 := hji16
              have H' := Aside0.mk H
              clear H
              have p759 : 0 ≤ (x14_1 : Int) := of_decide_eq_true (by assumption)
              have q759 : x14_1 < (l0.length : Int) := of_decide_eq_true (by assumption)
              obtain ⟨ad759, A759_0, c759_0, e759, hx759_0, hl759_0, hi759_0⟩ := at_L1 HR0.out x14_1 p759 q759
              cases e759
              replace hx759_0 := (HB.out.cell (World.block_lt_of_cell? w _ hx759_0)).trans hx759_0
              have HR759_0 := Aside0.mk hi759_0
              have HC759_0 := Aside0.mk hl759_0
              clear hi759_0 hl759_0
              replace p759 := eq_true p759
              replace q759 := eq_true q759
              have p760 : 0 ≤ (x20_2 : Int) := of_decide_eq_true (by assumption)
              have q760 : x20_2 < ((rd_L1 l0 x14_1).length : Int) := of_decide_eq_true (by assumption)
              obtain ⟨ad760, e760, hx760_0⟩ := Kd.at_int HR759_0.out x20_2 p760 q760
              cases e760
              replace hx760_0 := (HB.out.cell (World.block_lt_of_cell? w _ hx760_0)).trans hx760_0
              replace p760 := eq_true p760
              replace q760 := eq_true q760
              have p761 : 0 ≤ (x20_2 : Int) := of_decide_eq_true (by assumption)
              have q761 : x20_2 < (l1.length : Int) := of_decide_eq_true (by assumption)
              obtain ⟨ad761, e761, hx761_0⟩ := Kd.at_int HR1.out x20_2 p761 q761
              cases e761
              replace hx761_0 := (HB.out.cell (World.block_lt_of_cell? w _ hx761_0)).trans hx761_0
              replace p761 := eq_true p761
              replace q761 := eq_true q761
              go_wp2_with (first | (go_at_call 91; (with_reducible refine (line_both_int.calls (rd (rd_L1 l0 x14_1) x20_2) (rd l1 x20_2) t762 _ A15.out).mono ?_); rintro e w' ⟨rfl, ⟨nd, rfl⟩⟩; (try first | exact ⟨rfl, _, World.drewN_drewN _ _ _⟩ | exact ⟨rfl, _, Eq.trans (World.drewN_drewN _ _ _) (congrArg (World.drewN _) (Nat.add_assoc _ _ _))⟩)))
              repeat (go_quiet (first | (go_at_call 91; (with_reducible refine (line_both_int.calls (rd (rd_L1 l0 x14_1) x20_2) (rd l1 x20_2) t762 _ A15.out).mono ?_); rintro e w' ⟨rfl, ⟨nd, rfl⟩⟩; (try first | exact ⟨rfl, _, World.drewN_drewN _ _ _⟩ | exact ⟨rfl, _, Eq.trans (World.drewN_drewN _ _ _) (congrArg (World.drewN _) (Nat.add_assoc _ _ _))⟩))); try go_wp2_with (first | (go_at_call 91; (with_reducible refine (line_both_int.calls (rd (rd_L1 l0 x14_1) x20_2) (rd l1 x20_2) t762 _ A15.out).mono ?_); rintro e w' ⟨rfl, ⟨nd, rfl⟩⟩; (try first | exact ⟨rfl, _, World.drewN_drewN _ _ _⟩ | exact ⟨rfl, _, Eq.trans (World.drewN_drewN _ _ _) (congrArg (World.drewN _) (Nat.add_assoc _ _ _))⟩))))
              go_roundg k2
              case measure => have := HK1.out; have := HK2.out; omega
              case rel => exact ⟨(ji16), (wrap64 (x20_2 + 1)), (by first | rfl | (simp; done) | (simp only [← hji16] <;> (first | rfl | simp)) | (simp [*]; done)), rfl, H', ⟨by have := HK1.out; have := HK2.out; omega⟩, ⟨by exact HO_5.out⟩, ⟨by repeat (first | exact HB.out | apply below_alloc | apply pw_below_drewN | apply below_drew1)⟩⟩
             ·
              rw [if_neg c14] at H
              exact absurd H (by simp)
            ·
             rw [if_neg c13] at H
             exact absurd H (by simp)
           ·
            rw [if_neg c12] at H
            exact absurd H (by simp)
          ·
           rw [if_neg c11] at H
           exact absurd H (by simp)
         ·
          rw [if_neg c10] at H
          exact absurd H (by simp)
        ·
         rw [if_neg c9] at H
         have c9b0 : decide (x20_2 < (l0.length : Int)) = false := decide_eq_false c9
         clear c9
         by_cases c17 : 0 ≤ x14_1
         ·
          rw [if_pos c17] at H
          have c17b0 : decide (0 ≤ x14_1) = true := decide_eq_true c17
          clear c17
          by_cases c18 : x14_1 < (x5_1.length : Int)
          ·
           rw [if_pos c18] at H
           have c18b0 : decide (x14_1 < (x5_1.length : Int)) = true := decide_eq_true c18
           clear c18
           obtain ⟨y763, hy763⟩ : ∃ y_ : List Int, y_ = (x5_1.set (x14_1 : Int).toNat x7_2) := ⟨_, rfl⟩
           replace H : (lgon.l0 k2 l0 l1 y763 (l0.length : Int) (wrap64 (x14_1 + 1))) = some r := by rw [hy763]; exact H
           have Ny763 := Aside0.mk hy763
           clear hy763
           have H' := Aside0.mk H
           clear H
           have p19 : 0 ≤ (x14_1 : Int) := of_decide_eq_true (by assumption)
           have q19 : (x14_1 : Int) < ((x5_1.length : Int) : Int) := of_decide_eq_true (by assumption)
           obtain ⟨go19, co19, eo19, gb19, gl19, cl19, HG19⟩ := Kd.R_form HO_5.out (by omega)
           (first | cases eo19 | (injection eo19 with ea_ en_ ec_; (first | subst ea_ | (injection ea_ with ea_; subst ea_)); subst ec_; clear en_))
           have GB19 := Aside0.mk gb19
           have GG19 := Aside0.mk HG19
           clear gb19 gl19 HG19
           obtain ⟨hx19_0, hf19_0⟩ := Kd.R_celln 0 HO_5.out (x14_1 : Int) p19 q19
           replace p19 := eq_true p19
           replace q19 := eq_true q19
           have HP20 := Kd.R_putg HO_5.out (x14_1 : Int) x7_2
           go_wp2_with (first | ((with_reducible refine gate_store (t := 3) (p := 41) rfl ?_); (try (rw [drewN_self wr]; generalize hq_ : World.drewN wr _ = wr; have n0_ := Aside0.mk (Kd.R_at hq_ HO_5.out); have n1_ := Aside0.mk (below_at hq_ HB.out); clear hq_ HO_5 HB; have HO_5 := n0_; have HB := n1_; clear n0_ n1_; (try (have HP20 := Kd.R_putg HO_5.out (x14_1 : Int) x7_2)))); refine store_event (t := 3) (p := 41) (v := ?vo_w21) (w1 := (wr.setCell ⟨go19, (x14_1 : Int).toNat, none⟩ (.int .i64 x7_2))) ?hg ?ho ?hn ?hr ?_; (case ho => rfl); (case hg => rfl); (case hn => rfl); (case hr => go_simp); intro w21 hw; have hg : wr.grownBy w21 (some go19) := (by rw [hw]; exact HP20.2); have hp_ : Kd.R (Kd.int .i64) 3 w21 w.heap.size (fun _ => True) (.slice (some ⟨go19, 0, none⟩) x5_1.length co19) y763 := (by rw [hw, Ny763.out]; exact HP20.1); clear HP20; have n0_ := Aside0.mk (hp_); have n1_ := Aside0.mk ((by rw [hw]; exact below_set (HB.out) GB19.out : Below w.heap.size w w21)); clear HO_5; clear HB; have HO_5 := n0_; have HB := n1_; clear n0_ n1_; clear hg hw hp_))
           go_roundg k2
           case measure => have := HK1.out; have := HK2.out; omega
           case rel => exact ⟨(y763), (wrap64 (x14_1 + 1)), rfl, H', ⟨by have := HK1.out; have := HK2.out; omega⟩, ⟨by exact HO_5.out⟩, ⟨HB.out⟩⟩
          ·
           rw [if_neg c18] at H
           exact absurd H (by simp)
         ·
          rw [if_neg c17] at H
          exact absurd H (by simp)
     ·
      rw [if_neg c7] at H
      have c7b0 : decide (x14_1 < (l0.length : Int)) = false := decide_eq_false c7
      clear c7
      obtain rfl := Option.some.inj H
      go_wp2
      go_ret
      exact ⟨_, rfl, by exact HO_5.out, HB.out⟩
  ·
   rw [if_neg c4] at H
   exact absurd H (by simp)
 ·
  rw [if_neg c3] at H
  exact absurd H (by simp)

def line_Run_1.f (a0 : Int) : Option (Bool) := if a0 = (-1152921504606846976) then (some false) else (if a0 < (-1125899906842624) then (some true) else (some (decide (a0 > 562949953421312))))
set_option maxHeartbeats 8000000 in
set_option maxRecDepth 100000 in
theorem line_Run_1.calls (a0 : Int) (r : Bool) (w : World) (h : line_Run_1.f a0 = some r) :
  Calls Try.prog 69 #[.int .i64 a0] w fun e w' => e = .returned (.bool r) ∧ Drawn0 w w' := by
 have H : (if a0 = (-1152921504606846976) then (some false) else (if a0 < (-1125899906842624) then (some true) else (some (decide (a0 > 562949953421312))))) = some r := h
 clear h
 by_cases c2 : a0 = (-1152921504606846976)
 ·
  rw [if_pos c2] at H
  have c2b0 : (a0 == (-1152921504606846976)) = true := beq_iff_eq.mpr c2
  have c2b1 : (a0 != (-1152921504606846976)) = false := bne_eq_false_iff_eq.mpr c2
  clear c2
  obtain rfl := Option.some.inj H
  go_enter Try.func69, Try.ntmps69
  go_wp2
  go_ret
  exact ⟨by first | rfl | (simp; done) | (simp [*]; done), by repeat (first | exact Drawn0.refl _ | apply Drawn0.step)⟩
 ·
  rw [if_neg c2] at H
  have c2b0 : (a0 == (-1152921504606846976)) = false := beq_eq_false_iff_ne.mpr c2
  by_cases c3 : a0 < (-1125899906842624)
  ·
   rw [if_pos c3] at H
   have c3b0 : decide (a0 < (-1125899906842624)) = true := decide_eq_true c3
   clear c3
   obtain rfl := Option.some.inj H
   go_enter Try.func69, Try.ntmps69
   go_wp2
   go_ret
   exact ⟨by first | rfl | (simp; done) | (simp [*]; done), by repeat (first | exact Drawn0.refl _ | apply Drawn0.step)⟩
  ·
   rw [if_neg c3] at H
   have c3b0 : decide (a0 < (-1125899906842624)) = false := decide_eq_false c3
   clear c3
   obtain rfl := Option.some.inj H
   go_enter Try.func69, Try.ntmps69
   go_wp2
   go_ret
   exact ⟨by first | rfl | (simp; done) | (simp [*]; done), by repeat (first | exact Drawn0.refl _ | apply Drawn0.step)⟩

def sifRun_1.l0 : Nat → List Int → Int → Int → Option (Int)
 | 0, _, _, _ => none
 | k + 1, x0, x7, x8 => if x8 < x7 then (if 0 ≤ x8 then (if x8 < (x0.length : Int) then ((line_Run_1.f (rd x0 x8)).bind fun t765 => (if t765 = true then (some x8) else (sifRun_1.l0 k x0 x7 (wrap64 (x8 + 1))))) else (none)) else (none)) else (some (-1))
def sifRun_1.f (k : Nat) (l0 : List Int) (a1 : Int) : Option (Int) := sifRun_1.l0 k l0 (l0.length : Int) 0
theorem sifRun_1.mono_l : ∀ k, (∀ y0 y1 y2, LeO (sifRun_1.l0 k y0 y1 y2) (sifRun_1.l0 (k + 1) y0 y1 y2))
 | 0 => fun _ _ _ r h => by simp [sifRun_1.l0] at h
 | k + 1 => by
  have ih0 := sifRun_1.mono_l k
  ·
   intro y0 y1 y2
   unfold sifRun_1.l0
   repeat' first
   | (with_reducible exact ih0 _ _ _)
   | (with_reducible exact LeO.refl _)
   | (with_reducible exact LeO.none _)
   | (with_reducible refine LeO.ite ?_ ?_)
   | (with_reducible refine LeO.bind ?_ (fun _ => ?_))
   | exact ih0 _ _ _
   | exact LeO.none _
   | refine LeO.ite ?_ ?_
   | refine LeO.bind ?_ (fun _ => ?_)
theorem sifRun_1.mono : ∀ a0 a1 k, LeO (sifRun_1.f k a0 a1) (sifRun_1.f (k + 1) a0 a1) := by
 intro a0 a1 k
 have ih0 := sifRun_1.mono_l k
 unfold sifRun_1.f
 repeat' first
   | exact ih0 _ _ _
   | exact LeO.none _
   | refine LeO.ite ?_ ?_
   | refine LeO.bind ?_ (fun _ => ?_)
set_option maxHeartbeats 8000000 in
set_option maxRecDepth 100000 in
theorem sifRun_1.calls (k : Nat) (A0 : Option Addr) (c0 : Nat) (l0 : List Int) (a1 : Int) (r : Int) (w : World) (hr0 : Kd.C (Kd.int .i64) w A0 l0.length l0) (hc0 : l0.length ≤ c0) (h : sifRun_1.f k l0 a1 = some r) :
  Calls Try.prog 93 #[.slice A0 l0.length c0, .func (.func 69) #[] #[]] w fun e w' => e = .returned (.int .i64 r) ∧ Drawn0 w w' := by
 have HR0 := Aside0.mk hr0
 have HC0 := Aside0.mk hc0
 clear hr0 hc0
 have H : (sifRun_1.l0 k l0 (l0.length : Int) 0) = some r := h
 clear h
 have H' := Aside0.mk H
 clear H
 go_enter Try.func93, Try.ntmps93
 go_wp2
 go_loopg [8] k (fun kq v8 w' => ∃ (x8_1 : Int), v8 = .int .i64 x8_1 ∧ Aside0 (sifRun_1.l0 kq l0 (l0.length : Int) x8_1 = some r) ∧ Aside0 (kq ≤ k) ∧ Drawn0 w w')
 case atStart => exact ⟨(0), rfl, H', ⟨Nat.le_refl _⟩, by repeat (first | exact Drawn0.refl _ | apply Drawn0.step)⟩
 case round =>
  clear H'
  obtain ⟨x8_1, rfl, HA, HK1, ⟨m1, rfl⟩⟩ := hrel
  cases gk with
  | zero => exact absurd HA.out (by simp [sifRun_1.l0])
  | succ k1 =>
   have H := HA.out
   clear HA
   simp only [sifRun_1.l0] at H
   by_cases c3 : x8_1 < (l0.length : Int)
   ·
    rw [if_pos c3] at H
    have c3b0 : decide (x8_1 < (l0.length : Int)) = true := decide_eq_true c3
    clear c3
    by_cases c4 : 0 ≤ x8_1
    ·
     rw [if_pos c4] at H
     have c4b0 : decide (0 ≤ x8_1) = true := decide_eq_true c4
     clear c4
     by_cases c5 : x8_1 < (l0.length : Int)
     ·
      rw [if_pos c5] at H
      have c5b0 : decide (x8_1 < (l0.length : Int)) = true := decide_eq_true c5
      clear c5
      replace H := Option.bind_eq_some_iff.mp H
      obtain ⟨t765, A60, H⟩ := H
      replace H : (if t765 = true then (some x8_1) else (sifRun_1.l0 k1 l0 (l0.length : Int) (wrap64 (x8_1 + 1)))) = some r := H
      have A6 := Aside0.mk A60
      clear A60
      by_cases c7 : t765 = true
      ·
       subst c7
       have H1 : (some x8_1) = some r := by rw [if_pos rfl] at H; exact H
       clear H
       have H := H1
       clear H1
       obtain rfl := Option.some.inj H
       have p764 : 0 ≤ (x8_1 : Int) := of_decide_eq_true (by assumption)
       have q764 : x8_1 < (l0.length : Int) := of_decide_eq_true (by assumption)
       obtain ⟨ad764, e764, hx764_0⟩ := Kd.at_int HR0.out x8_1 p764 q764
       cases e764
       replace p764 := eq_true p764
       replace q764 := eq_true q764
       go_wp2_with (first | (go_at_call 69; (with_reducible refine (line_Run_1.calls (rd l0 x8_1) true _ A6.out).mono ?_); rintro e w' ⟨rfl, ⟨nd, rfl⟩⟩))
       go_ret
       exact ⟨by first | rfl | (simp; done) | (simp [*]; done), by repeat (first | exact Drawn0.refl _ | apply Drawn0.step)⟩
      ·
       replace c7 := Bool.eq_false_iff.mpr c7
       subst c7
       have H1 : (sifRun_1.l0 k1 l0 (l0.length : Int) (wrap64 (x8_1 + 1))) = some r := by rw [if_neg (show ¬ (false = true) by decide)] at H; exact H
       clear H
       have H := H1
       clear H1
       have H' := Aside0.mk H
       clear H
       have p764 : 0 ≤ (x8_1 : Int) := of_decide_eq_true (by assumption)
       have q764 : x8_1 < (l0.length : Int) := of_decide_eq_true (by assumption)
       obtain ⟨ad764, e764, hx764_0⟩ := Kd.at_int HR0.out x8_1 p764 q764
       cases e764
       replace p764 := eq_true p764
       replace q764 := eq_true q764
       go_wp2_with (first | (go_at_call 69; (with_reducible refine (line_Run_1.calls (rd l0 x8_1) false _ A6.out).mono ?_); rintro e w' ⟨rfl, ⟨nd, rfl⟩⟩))
       go_roundg k1
       case measure => have := HK1.out; omega
       case rel => exact ⟨(wrap64 (x8_1 + 1)), rfl, H', ⟨by have := HK1.out; omega⟩, by repeat (first | exact Drawn0.refl _ | apply Drawn0.step)⟩
     ·
      rw [if_neg c5] at H
      exact absurd H (by simp)
    ·
     rw [if_neg c4] at H
     exact absurd H (by simp)
   ·
    rw [if_neg c3] at H
    have c3b0 : decide (x8_1 < (l0.length : Int)) = false := decide_eq_false c3
    clear c3
    obtain rfl := Option.some.inj H
    go_wp2
    go_ret
    exact ⟨by first | rfl | (simp; done) | (simp [*]; done), by repeat (first | exact Drawn0.refl _ | apply Drawn0.step)⟩

def scfRun_1.f (k : Nat) (l0 : List Int) (a1 : Int) : Option (Bool) := (sifRun_1.f k l0 a1).bind fun t766 => (some (decide (t766 ≥ 0)))
theorem scfRun_1.mono : ∀ a0 a1 k, LeO (scfRun_1.f k a0 a1) (scfRun_1.f (k + 1) a0 a1) := by
 intro a0 a1 k
 unfold scfRun_1.f
 repeat' first
   | (with_reducible exact sifRun_1.mono _ _ _)
   | (with_reducible exact LeO.refl _)
   | (with_reducible exact LeO.none _)
   | (with_reducible refine LeO.ite ?_ ?_)
   | (with_reducible refine LeO.bind ?_ (fun _ => ?_))
   | exact sifRun_1.mono _ _ _
   | exact LeO.none _
   | refine LeO.ite ?_ ?_
   | refine LeO.bind ?_ (fun _ => ?_)
set_option maxHeartbeats 8000000 in
set_option maxRecDepth 100000 in
theorem scfRun_1.calls (k : Nat) (A0 : Option Addr) (c0 : Nat) (l0 : List Int) (a1 : Int) (r : Bool) (w : World) (hr0 : Kd.C (Kd.int .i64) w A0 l0.length l0) (hc0 : l0.length ≤ c0) (h : scfRun_1.f k l0 a1 = some r) :
  Calls Try.prog 68 #[.slice A0 l0.length c0, .func (.func 69) #[] #[]] w fun e w' => e = .returned (.bool r) ∧ Drawn0 w w' := by
 have HR0 := Aside0.mk hr0
 have HC0 := Aside0.mk hc0
 clear hr0 hc0
 have H : ((sifRun_1.f k l0 a1).bind fun t766 => (some (decide (t766 ≥ 0)))) = some r := h
 clear h
 replace H := Option.bind_eq_some_iff.mp H
 obtain ⟨t766, A30, H⟩ := H
 replace H : (some (decide (t766 ≥ 0))) = some r := H
 have A3 := Aside0.mk A30
 clear A30
 obtain rfl := Option.some.inj H
 go_enter Try.func68, Try.ntmps68
 go_wp2_with (first | ((with_reducible refine gate_callee (f := 93) rfl ?_); refine goesL_ (some 7) rfl rfl Try.func93 (by kernel_rfl) rfl #[.slice A0 l0.length c0, .func (.func 69) #[] #[]] rfl (by (try simp only [List.map_toArray, List.map_cons, List.map_nil]); first | done | rfl | (simp only [List.length_drop, List.length_take]; rfl)) ?_; (with_reducible refine (sifRun_1.calls k _ _ l0 a1 t766 _ ?side1 ?side2 A3.out).mono ?_); (case side1 => repeat (first | exact HR0.out)); (case side2 => exact HC0.out); rintro e w' ⟨rfl, ⟨nd, rfl⟩⟩; refine ⟨_, rfl, ?_⟩))
 go_ret
 exact ⟨by first | rfl | (simp; done) | (simp [*]; done), by repeat (first | exact Drawn0.refl _ | apply Drawn0.step)⟩

def line_Run_2.f (a0 : Int) : Option (Bool) := if a0 = (-1152921504606846976) then (some false) else (if a0 < (-1125899906842624) then (some true) else (some (decide (a0 > 1125899906842624))))
set_option maxHeartbeats 8000000 in
set_option maxRecDepth 100000 in
theorem line_Run_2.calls (a0 : Int) (r : Bool) (w : World) (h : line_Run_2.f a0 = some r) :
  Calls Try.prog 71 #[.int .i64 a0] w fun e w' => e = .returned (.bool r) ∧ Drawn0 w w' := by
 have H : (if a0 = (-1152921504606846976) then (some false) else (if a0 < (-1125899906842624) then (some true) else (some (decide (a0 > 1125899906842624))))) = some r := h
 clear h
 by_cases c2 : a0 = (-1152921504606846976)
 ·
  rw [if_pos c2] at H
  have c2b0 : (a0 == (-1152921504606846976)) = true := beq_iff_eq.mpr c2
  have c2b1 : (a0 != (-1152921504606846976)) = false := bne_eq_false_iff_eq.mpr c2
  clear c2
  obtain rfl := Option.some.inj H
  go_enter Try.func71, Try.ntmps71
  go_wp2
  go_ret
  exact ⟨by first | rfl | (simp; done) | (simp [*]; done), by repeat (first | exact Drawn0.refl _ | apply Drawn0.step)⟩
 ·
  rw [if_neg c2] at H
  have c2b0 : (a0 == (-1152921504606846976)) = false := beq_eq_false_iff_ne.mpr c2
  by_cases c3 : a0 < (-1125899906842624)
  ·
   rw [if_pos c3] at H
   have c3b0 : decide (a0 < (-1125899906842624)) = true := decide_eq_true c3
   clear c3
   obtain rfl := Option.some.inj H
   go_enter Try.func71, Try.ntmps71
   go_wp2
   go_ret
   exact ⟨by first | rfl | (simp; done) | (simp [*]; done), by repeat (first | exact Drawn0.refl _ | apply Drawn0.step)⟩
  ·
   rw [if_neg c3] at H
   have c3b0 : decide (a0 < (-1125899906842624)) = false := decide_eq_false c3
   clear c3
   obtain rfl := Option.some.inj H
   go_enter Try.func71, Try.ntmps71
   go_wp2
   go_ret
   exact ⟨by first | rfl | (simp; done) | (simp [*]; done), by repeat (first | exact Drawn0.refl _ | apply Drawn0.step)⟩

def sifRun_2.l0 : Nat → List Int → Int → Int → Option (Int)
 | 0, _, _, _ => none
 | k + 1, x0, x7, x8 => if x8 < x7 then (if 0 ≤ x8 then (if x8 < (x0.length : Int) then ((line_Run_2.f (rd x0 x8)).bind fun t768 => (if t768 = true then (some x8) else (sifRun_2.l0 k x0 x7 (wrap64 (x8 + 1))))) else (none)) else (none)) else (some (-1))
def sifRun_2.f (k : Nat) (l0 : List Int) (a1 : Int) : Option (Int) := sifRun_2.l0 k l0 (l0.length : Int) 0
theorem sifRun_2.mono_l : ∀ k, (∀ y0 y1 y2, LeO (sifRun_2.l0 k y0 y1 y2) (sifRun_2.l0 (k + 1) y0 y1 y2))
 | 0 => fun _ _ _ r h => by simp [sifRun_2.l0] at h
 | k + 1 => by
  have ih0 := sifRun_2.mono_l k
  ·
   intro y0 y1 y2
   unfold sifRun_2.l0
   repeat' first
   | (with_reducible exact ih0 _ _ _)
   | (with_reducible exact LeO.refl _)
   | (with_reducible exact LeO.none _)
   | (with_reducible refine LeO.ite ?_ ?_)
   | (with_reducible refine LeO.bind ?_ (fun _ => ?_))
   | exact ih0 _ _ _
   | exact LeO.none _
   | refine LeO.ite ?_ ?_
   | refine LeO.bind ?_ (fun _ => ?_)
theorem sifRun_2.mono : ∀ a0 a1 k, LeO (sifRun_2.f k a0 a1) (sifRun_2.f (k + 1) a0 a1) := by
 intro a0 a1 k
 have ih0 := sifRun_2.mono_l k
 unfold sifRun_2.f
 repeat' first
   | exact ih0 _ _ _
   | exact LeO.none _
   | refine LeO.ite ?_ ?_
   | refine LeO.bind ?_ (fun _ => ?_)
set_option maxHeartbeats 8000000 in
set_option maxRecDepth 100000 in
theorem sifRun_2.calls (k : Nat) (A0 : Option Addr) (c0 : Nat) (l0 : List Int) (a1 : Int) (r : Int) (w : World) (hr0 : Kd.C (Kd.int .i64) w A0 l0.length l0) (hc0 : l0.length ≤ c0) (h : sifRun_2.f k l0 a1 = some r) :
  Calls Try.prog 93 #[.slice A0 l0.length c0, .func (.func 71) #[] #[]] w fun e w' => e = .returned (.int .i64 r) ∧ Drawn0 w w' := by
 have HR0 := Aside0.mk hr0
 have HC0 := Aside0.mk hc0
 clear hr0 hc0
 have H : (sifRun_2.l0 k l0 (l0.length : Int) 0) = some r := h
 clear h
 have H' := Aside0.mk H
 clear H
 go_enter Try.func93, Try.ntmps93
 go_wp2
 go_loopg [8] k (fun kq v8 w' => ∃ (x8_1 : Int), v8 = .int .i64 x8_1 ∧ Aside0 (sifRun_2.l0 kq l0 (l0.length : Int) x8_1 = some r) ∧ Aside0 (kq ≤ k) ∧ Drawn0 w w')
 case atStart => exact ⟨(0), rfl, H', ⟨Nat.le_refl _⟩, by repeat (first | exact Drawn0.refl _ | apply Drawn0.step)⟩
 case round =>
  clear H'
  obtain ⟨x8_1, rfl, HA, HK1, ⟨m1, rfl⟩⟩ := hrel
  cases gk with
  | zero => exact absurd HA.out (by simp [sifRun_2.l0])
  | succ k1 =>
   have H := HA.out
   clear HA
   simp only [sifRun_2.l0] at H
   by_cases c3 : x8_1 < (l0.length : Int)
   ·
    rw [if_pos c3] at H
    have c3b0 : decide (x8_1 < (l0.length : Int)) = true := decide_eq_true c3
    clear c3
    by_cases c4 : 0 ≤ x8_1
    ·
     rw [if_pos c4] at H
     have c4b0 : decide (0 ≤ x8_1) = true := decide_eq_true c4
     clear c4
     by_cases c5 : x8_1 < (l0.length : Int)
     ·
      rw [if_pos c5] at H
      have c5b0 : decide (x8_1 < (l0.length : Int)) = true := decide_eq_true c5
      clear c5
      replace H := Option.bind_eq_some_iff.mp H
      obtain ⟨t768, A60, H⟩ := H
      replace H : (if t768 = true then (some x8_1) else (sifRun_2.l0 k1 l0 (l0.length : Int) (wrap64 (x8_1 + 1)))) = some r := H
      have A6 := Aside0.mk A60
      clear A60
      by_cases c7 : t768 = true
      ·
       subst c7
       have H1 : (some x8_1) = some r := by rw [if_pos rfl] at H; exact H
       clear H
       have H := H1
       clear H1
       obtain rfl := Option.some.inj H
       have p767 : 0 ≤ (x8_1 : Int) := of_decide_eq_true (by assumption)
       have q767 : x8_1 < (l0.length : Int) := of_decide_eq_true (by assumption)
       obtain ⟨ad767, e767, hx767_0⟩ := Kd.at_int HR0.out x8_1 p767 q767
       cases e767
       replace p767 := eq_true p767
       replace q767 := eq_true q767
       go_wp2_with (first | (go_at_call 71; (with_reducible refine (line_Run_2.calls (rd l0 x8_1) true _ A6.out).mono ?_); rintro e w' ⟨rfl, ⟨nd, rfl⟩⟩))
       go_ret
       exact ⟨by first | rfl | (simp; done) | (simp [*]; done), by repeat (first | exact Drawn0.refl _ | apply Drawn0.step)⟩
      ·
       replace c7 := Bool.eq_false_iff.mpr c7
       subst c7
       have H1 : (sifRun_2.l0 k1 l0 (l0.length : Int) (wrap64 (x8_1 + 1))) = some r := by rw [if_neg (show ¬ (false = true) by decide)] at H; exact H
       clear H
       have H := H1
       clear H1
       have H' := Aside0.mk H
       clear H
       have p767 : 0 ≤ (x8_1 : Int) := of_decide_eq_true (by assumption)
       have q767 : x8_1 < (l0.length : Int) := of_decide_eq_true (by assumption)
       obtain ⟨ad767, e767, hx767_0⟩ := Kd.at_int HR0.out x8_1 p767 q767
       cases e767
       replace p767 := eq_true p767
       replace q767 := eq_true q767
       go_wp2_with (first | (go_at_call 71; (with_reducible refine (line_Run_2.calls (rd l0 x8_1) false _ A6.out).mono ?_); rintro e w' ⟨rfl, ⟨nd, rfl⟩⟩))
       go_roundg k1
       case measure => have := HK1.out; omega
       case rel => exact ⟨(wrap64 (x8_1 + 1)), rfl, H', ⟨by have := HK1.out; omega⟩, by repeat (first | exact Drawn0.refl _ | apply Drawn0.step)⟩
     ·
      rw [if_neg c5] at H
      exact absurd H (by simp)
    ·
     rw [if_neg c4] at H
     exact absurd H (by simp)
   ·
    rw [if_neg c3] at H
    have c3b0 : decide (x8_1 < (l0.length : Int)) = false := decide_eq_false c3
    clear c3
    obtain rfl := Option.some.inj H
    go_wp2
    go_ret
    exact ⟨by first | rfl | (simp; done) | (simp [*]; done), by repeat (first | exact Drawn0.refl _ | apply Drawn0.step)⟩

def scfRun_2.f (k : Nat) (l0 : List Int) (a1 : Int) : Option (Bool) := (sifRun_2.f k l0 a1).bind fun t769 => (some (decide (t769 ≥ 0)))
theorem scfRun_2.mono : ∀ a0 a1 k, LeO (scfRun_2.f k a0 a1) (scfRun_2.f (k + 1) a0 a1) := by
 intro a0 a1 k
 unfold scfRun_2.f
 repeat' first
   | (with_reducible exact sifRun_2.mono _ _ _)
   | (with_reducible exact LeO.refl _)
   | (with_reducible exact LeO.none _)
   | (with_reducible refine LeO.ite ?_ ?_)
   | (with_reducible refine LeO.bind ?_ (fun _ => ?_))
   | exact sifRun_2.mono _ _ _
   | exact LeO.none _
   | refine LeO.ite ?_ ?_
   | refine LeO.bind ?_ (fun _ => ?_)
set_option maxHeartbeats 8000000 in
set_option maxRecDepth 100000 in
theorem scfRun_2.calls (k : Nat) (A0 : Option Addr) (c0 : Nat) (l0 : List Int) (a1 : Int) (r : Bool) (w : World) (hr0 : Kd.C (Kd.int .i64) w A0 l0.length l0) (hc0 : l0.length ≤ c0) (h : scfRun_2.f k l0 a1 = some r) :
  Calls Try.prog 68 #[.slice A0 l0.length c0, .func (.func 71) #[] #[]] w fun e w' => e = .returned (.bool r) ∧ Drawn0 w w' := by
 have HR0 := Aside0.mk hr0
 have HC0 := Aside0.mk hc0
 clear hr0 hc0
 have H : ((sifRun_2.f k l0 a1).bind fun t769 => (some (decide (t769 ≥ 0)))) = some r := h
 clear h
 replace H := Option.bind_eq_some_iff.mp H
 obtain ⟨t769, A30, H⟩ := H
 replace H : (some (decide (t769 ≥ 0))) = some r := H
 have A3 := Aside0.mk A30
 clear A30
 obtain rfl := Option.some.inj H
 go_enter Try.func68, Try.ntmps68
 go_wp2_with (first | ((with_reducible refine gate_callee (f := 93) rfl ?_); refine goesL_ (some 7) rfl rfl Try.func93 (by kernel_rfl) rfl #[.slice A0 l0.length c0, .func (.func 71) #[] #[]] rfl (by (try simp only [List.map_toArray, List.map_cons, List.map_nil]); first | done | rfl | (simp only [List.length_drop, List.length_take]; rfl)) ?_; (with_reducible refine (sifRun_2.calls k _ _ l0 a1 t769 _ ?side1 ?side2 A3.out).mono ?_); (case side1 => repeat (first | exact HR0.out)); (case side2 => exact HC0.out); rintro e w' ⟨rfl, ⟨nd, rfl⟩⟩; refine ⟨_, rfl, ?_⟩))
 go_ret
 exact ⟨by first | rfl | (simp; done) | (simp [*]; done), by repeat (first | exact Drawn0.refl _ | apply Drawn0.step)⟩

def line_Run.j0 : Nat → List Int → Int → List (List Int) → Bool → Option (List Int × Int)
 | 0, _, _, _, _ => none
 | k + 1, x1, x2, x8, x33 => if x33 = true then (some (([] : List Int), 2)) else ((lgpower.f k x8 x2).bind fun t776 => ((lgon.f k t776 x1).bind fun t779 => ((scfRun_2.f k t779 0).bind fun t782 => (if t782 = true then (some (([] : List Int), 4)) else (some (t779, 0))))))
def line_Run.f (k : Nat) (l0 : List (List Int)) (l1 : List Int) (a2 : Int) : Option (List Int × Int) := (line_of.f k l0).bind fun bt770 => (if bt770.2 = true then ((line_steps.f a2).bind fun t774 => (if t774 = true then (if (l1.length : Int) = (l0.length : Int) then ((scfRun_1.f k l1 0).bind fun t775 => (line_Run.j0 k l1 a2 bt770.1 t775)) else (line_Run.j0 k l1 a2 bt770.1 true)) else (line_Run.j0 k l1 a2 bt770.1 true))) else (line_Run.j0 k l1 a2 bt770.1 true))
theorem line_Run.mono_l : ∀ k, (∀ y0 y1 y2 y3, LeO (line_Run.j0 k y0 y1 y2 y3) (line_Run.j0 (k + 1) y0 y1 y2 y3))
 | 0 => fun _ _ _ _ r h => by simp [line_Run.j0] at h
 | k + 1 => by
  have ih0 := line_Run.mono_l k
  ·
   intro y0 y1 y2 y3
   unfold line_Run.j0
   repeat' first
   | (with_reducible exact LeO.refl _)
   | (with_reducible exact LeO.none _)
   | (with_reducible refine LeO.ite ?_ ?_)
   | (with_reducible refine LeO.bind ?_ (fun _ => ?_))
   | exact ih0 _ _ _ _
   | exact lgon.mono _ _ _
   | exact lgpower.mono _ _ _
   | exact line_of.mono _ _
   | exact scfRun_1.mono _ _ _
   | exact scfRun_2.mono _ _ _
   | exact LeO.none _
   | refine LeO.ite ?_ ?_
   | refine LeO.bind ?_ (fun _ => ?_)
theorem line_Run.mono : ∀ a0 a1 a2 k, LeO (line_Run.f k a0 a1 a2) (line_Run.f (k + 1) a0 a1 a2) := by
 intro a0 a1 a2 k
 have ih0 := line_Run.mono_l k
 unfold line_Run.f
 repeat' first
   | (with_reducible exact LeO.refl _)
   | (with_reducible exact LeO.none _)
   | (with_reducible refine LeO.ite ?_ ?_)
   | (with_reducible refine LeO.bind ?_ (fun _ => ?_))
   | exact ih0 _ _ _ _
   | exact lgon.mono _ _ _
   | exact lgpower.mono _ _ _
   | exact line_of.mono _ _
   | exact scfRun_1.mono _ _ _
   | exact scfRun_2.mono _ _ _
   | exact LeO.none _
   | refine LeO.ite ?_ ?_
   | refine LeO.bind ?_ (fun _ => ?_)
set_option maxHeartbeats 8000000 in
set_option maxRecDepth 100000 in
theorem line_Run.calls (k : Nat) (A0 : Option Addr) (c0 : Nat) (l0 : List (List Int)) (A1 : Option Addr) (c1 : Nat) (l1 : List Int) (a2 : Int) (r1 : List Int) (r2 : Int) (w : World) (hr0 : Kd.C (Kd.slice 3 (Kd.int .i64)) w A0 l0.length l0) (hc0 : l0.length ≤ c0) (hr1 : Kd.C (Kd.int .i64) w A1 l1.length l1) (hc1 : l1.length ≤ c1) (h : line_Run.f k l0 l1 a2 = some (r1, r2)) :
  Calls Try.prog 27 #[.slice A0 l0.length c0, .slice A1 l1.length c1, .int .i64 a2] w fun e w' => ∃ v0_ : Value, e = .returned (.tuple #[v0_, .int .i64 r2]) ∧ Kd.R (Kd.int .i64) 3 w' w.heap.size (fun _ => True) v0_ r1 ∧ Below w.heap.size w w' := by
 have HR0 := Aside0.mk hr0
 have HC0 := Aside0.mk hc0
 clear hr0 hc0
 have HR1 := Aside0.mk hr1
 have HC1 := Aside0.mk hc1
 clear hr1 hc1
 have HB := Aside0.mk (Below.refl w.heap.size w)
 have H : ((line_of.f k l0).bind fun bt770 => (if bt770.2 = true then ((line_steps.f a2).bind fun t774 => (if t774 = true then (if (l1.length : Int) = (l0.length : Int) then ((scfRun_1.f k l1 0).bind fun t775 => (line_Run.j0 k l1 a2 bt770.1 t775)) else (line_Run.j0 k l1 a2 bt770.1 true)) else (line_Run.j0 k l1 a2 bt770.1 true))) else (line_Run.j0 k l1 a2 bt770.1 true))) = some (r1, r2) := h
 clear h
 replace H := Option.bind_eq_some_iff.mp H
 obtain ⟨⟨t770, t773⟩, A40, H⟩ := H
 replace H : (if t773 = true then ((line_steps.f a2).bind fun t774 => (if t774 = true then (if (l1.length : Int) = (l0.length : Int) then ((scfRun_1.f k l1 0).bind fun t775 => (line_Run.j0 k l1 a2 t770 t775)) else (line_Run.j0 k l1 a2 t770 true)) else (line_Run.j0 k l1 a2 t770 true))) else (line_Run.j0 k l1 a2 t770 true)) = some (r1, r2) := H
 have A4 := Aside0.mk A40
 clear A40
 have HC5 := Aside0.mk H
 clear H
 go_enter Try.func27, Try.ntmps27
 go_upto_region 2 with (first | ((with_reducible refine gate_callee (f := 64) rfl ?_); refine goesL_ (some 13) rfl rfl Try.func64 (by kernel_rfl) rfl #[.slice A0 l0.length c0] rfl (by (try simp only [List.map_toArray, List.map_cons, List.map_nil]); rfl) ?_; (with_reducible refine (line_of.calls k (fun k_ => k_ < w.heap.size) _ _ l0 t770 t773 _ ?side1 A4.out).mono ?_); (case side1 => exact Kd.V_mk HC0.out (Kd.F_below (Kd.C_F (Kd.heap_slice 3 (Kd.heap_int .i64)) HR0.out) (HB.out))); rintro e w6 ⟨v771, rfl, ho0, hb⟩; refine ⟨_, rfl, ?_⟩; have n0_ := Aside0.mk (Kd.V_lower (Kd.V_mono (ok' := fun k_ => True) ho0 (fun k_ hk_ => trivial)) (below_size (HB.out))); have n1_ := Aside0.mk (below_step (HB.out) hb); clear HB; have HO772 := n0_; have HB := n1_; clear n0_ n1_))
 go_cut [33] (fun v33 wc => ∃ (kq : Nat) (x33_4 : Bool), v33 = .bool x33_4 ∧ Aside0 (line_Run.j0 kq l1 a2 t770 x33_4 = some (r1, r2)) ∧ Aside0 (kq ≤ k) ∧ Aside0 (Kd.V (Kd.slice 3 (Kd.int .i64)) 26 wc w.heap.size (fun _ => True) v771 t770) ∧ Aside0 (Below w.heap.size w wc))
 case first =>
  have H := HC5.out
  clear HC5
  by_cases c7 : t773 = true
  ·
   subst c7
   have H1 : ((line_steps.f a2).bind fun t774 => (if t774 = true then (if (l1.length : Int) = (l0.length : Int) then ((scfRun_1.f k l1 0).bind fun t775 => (line_Run.j0 k l1 a2 t770 t775)) else (line_Run.j0 k l1 a2 t770 true)) else (line_Run.j0 k l1 a2 t770 true))) = some (r1, r2) := by rw [if_pos rfl] at H; exact H
   clear H
   have H := H1
   clear H1
   replace H := Option.bind_eq_some_iff.mp H
   obtain ⟨t774, A80, H⟩ := H
   replace H : (if t774 = true then (if (l1.length : Int) = (l0.length : Int) then ((scfRun_1.f k l1 0).bind fun t775 => (line_Run.j0 k l1 a2 t770 t775)) else (line_Run.j0 k l1 a2 t770 true)) else (line_Run.j0 k l1 a2 t770 true)) = some (r1, r2) := H
   have A8 := Aside0.mk A80
   clear A80
   by_cases c9 : t774 = true
   ·
    subst c9
    have H1 : (if (l1.length : Int) = (l0.length : Int) then ((scfRun_1.f k l1 0).bind fun t775 => (line_Run.j0 k l1 a2 t770 t775)) else (line_Run.j0 k l1 a2 t770 true)) = some (r1, r2) := by rw [if_pos rfl] at H; exact H
    clear H
    have H := H1
    clear H1
    by_cases c10 : (l1.length : Int) = (l0.length : Int)
    ·
     rw [if_pos c10] at H
     have c10b0 : ((l1.length : Int) == (l0.length : Int)) = true := beq_iff_eq.mpr c10
     have c10b1 : ((l1.length : Int) != (l0.length : Int)) = false := bne_eq_false_iff_eq.mpr c10
     have c10b2 : (l1.length == l0.length) = true := by first | simpa using c10 | (simp at c10 ⊢; omega)
     clear c10
     (first | rw [c10b0] | (simp only [i64_w, i32_w]; rw [c10b0]) | skip)
     replace H := Option.bind_eq_some_iff.mp H
     obtain ⟨t775, A110, H⟩ := H
     replace H : (line_Run.j0 k l1 a2 t770 t775) = some (r1, r2) := H
     have A11 := Aside0.mk A110
     clear A110
     have H' := Aside0.mk H
     clear H
     go_wp2_with (first | (go_at_call 67; (with_reducible refine (line_steps.calls a2 true _ A8.out).mono ?_); rintro e w' ⟨rfl, ⟨nd, rfl⟩⟩) | (go_at_call 68; (with_reducible refine (scfRun_1.calls k _ _ l1 0 t775 _ ?side1 ?side2 A11.out).mono ?_); (case side1 => repeat (first | exact (Kd.C_below HR1.out (by repeat (first | exact HB.out | apply below_alloc | apply pw_below_drewN | apply below_drew1))))); (case side2 => exact HC1.out); rintro e w' ⟨rfl, ⟨nd, rfl⟩⟩))
     go_meet
     case rel => exact ⟨_, (t775), rfl, H', ⟨by first | omega | exact Nat.le_refl _⟩, ⟨by exact HO772.out⟩, ⟨by repeat (first | exact HB.out | apply below_alloc | apply pw_below_drewN | apply below_drew1)⟩⟩
    ·
     rw [if_neg c10] at H
     have c10b0 : ((l1.length : Int) == (l0.length : Int)) = false := beq_eq_false_iff_ne.mpr c10
     have c10b2 : (l1.length == l0.length) = false := by first | simpa using c10 | (simp at c10 ⊢; omega)
     (first | rw [c10b0] | skip)
     have H' := Aside0.mk H
     clear H
     go_wp2_with (first | (go_at_call 67; (with_reducible refine (line_steps.calls a2 true _ A8.out).mono ?_); rintro e w' ⟨rfl, ⟨nd, rfl⟩⟩))
     go_meet
     case rel => exact ⟨_, (true), rfl, H', ⟨by first | omega | exact Nat.le_refl _⟩, ⟨by exact HO772.out⟩, ⟨by repeat (first | exact HB.out | apply below_alloc | apply pw_below_drewN | apply below_drew1)⟩⟩
   ·
    replace c9 := Bool.eq_false_iff.mpr c9
    subst c9
    have H1 : (line_Run.j0 k l1 a2 t770 true) = some (r1, r2) := by rw [if_neg (show ¬ (false = true) by decide)] at H; exact H
    clear H
    have H := H1
    clear H1
    have H' := Aside0.mk H
    clear H
    go_wp2_with (first | (go_at_call 67; (with_reducible refine (line_steps.calls a2 false _ A8.out).mono ?_); rintro e w' ⟨rfl, ⟨nd, rfl⟩⟩))
    go_meet
    case rel => exact ⟨_, (true), rfl, H', ⟨by first | omega | exact Nat.le_refl _⟩, ⟨by exact HO772.out⟩, ⟨by repeat (first | exact HB.out | apply below_alloc | apply pw_below_drewN | apply below_drew1)⟩⟩
  ·
   replace c7 := Bool.eq_false_iff.mpr c7
   subst c7
   have H1 : (line_Run.j0 k l1 a2 t770 true) = some (r1, r2) := by rw [if_neg (show ¬ (false = true) by decide)] at H; exact H
   clear H
   have H := H1
   clear H1
   have H' := Aside0.mk H
   clear H
   go_wp2
   go_meet
   case rel => exact ⟨_, (true), rfl, H', ⟨by first | omega | exact Nat.le_refl _⟩, ⟨by exact HO772.out⟩, ⟨HB.out⟩⟩
 case rest =>
  clear HC5
  obtain ⟨kq, x33_4, rfl, HA, HJ4, HO_8, HB⟩ := hcut
  cases kq with
  | zero => exact absurd HA.out (by simp [line_Run.j0])
  | succ kj4 =>
   have H := HA.out
   clear HA
   simp only [line_Run.j0] at H
   by_cases c12 : x33_4 = true
   ·
    subst c12
    have H1 : (some (([] : List Int), 2)) = some (r1, r2) := by rw [if_pos rfl] at H; exact H
    clear H
    have H := H1
    clear H1
    simp only [Option.some.injEq, Prod.mk.injEq] at H
    obtain ⟨rfl, rfl⟩ := H
    go_wp2
    go_ret2
    exact ⟨_, rfl, by first | exact Kd.R_nil _ _ _ _ _ | exact Kd.N_nil _ _ _ _ _ | exact Kd.V_nil _ _ _ _ _ | exact Kd.Q_nil _ _ _ _ _ | exact Kd.S_nil _ _ _ _ _, HB.out⟩
   ·
    replace c12 := Bool.eq_false_iff.mpr c12
    subst c12
    have H1 : ((lgpower.f kj4 t770 a2).bind fun t776 => ((lgon.f kj4 t776 l1).bind fun t779 => ((scfRun_2.f kj4 t779 0).bind fun t782 => (if t782 = true then (some (([] : List Int), 4)) else (some (t779, 0)))))) = some (r1, r2) := by rw [if_neg (show ¬ (false = true) by decide)] at H; exact H
    clear H
    have H := H1
    clear H1
    replace H := Option.bind_eq_some_iff.mp H
    obtain ⟨t776, A130, H⟩ := H
    replace H : ((lgon.f kj4 t776 l1).bind fun t779 => ((scfRun_2.f kj4 t779 0).bind fun t782 => (if t782 = true then (some (([] : List Int), 4)) else (some (t779, 0))))) = some (r1, r2) := H
    have A13 := Aside0.mk A130
    clear A130
    replace H := Option.bind_eq_some_iff.mp H
    obtain ⟨t779, A140, H⟩ := H
    replace H : ((scfRun_2.f kj4 t779 0).bind fun t782 => (if t782 = true then (some (([] : List Int), 4)) else (some (t779, 0)))) = some (r1, r2) := H
    have A14 := Aside0.mk A140
    clear A140
    replace H := Option.bind_eq_some_iff.mp H
    obtain ⟨t782, A150, H⟩ := H
    replace H : (if t782 = true then (some (([] : List Int), 4)) else (some (t779, 0))) = some (r1, r2) := H
    have A15 := Aside0.mk A150
    clear A150
    by_cases c16 : t782 = true
    ·
     subst c16
     have H1 : (some (([] : List Int), 4)) = some (r1, r2) := by rw [if_pos rfl] at H; exact H
     clear H
     have H := H1
     clear H1
     simp only [Option.some.injEq, Prod.mk.injEq] at H
     obtain ⟨rfl, rfl⟩ := H
     obtain ⟨Ao17, co17, eo17⟩ := Kd.V_slice HO_8.out
     subst eo17
     go_wp2_with (first | ((with_reducible refine gate_callee (f := 56) rfl ?_); refine goesL_ (some 36) rfl rfl Try.func56 (by kernel_rfl) rfl #[.slice Ao17 t770.length co17, .int .i64 a2] rfl (by (try simp only [List.map_toArray, List.map_cons, List.map_nil]); rfl) ?_; (with_reducible refine (lgpower.calls kj4 (fun k_ => True) _ _ t770 a2 t776 _ ?side1 A13.out).mono ?_); (case side1 => exact HO_8.out); rintro e w18 ⟨v777, rfl, ho0, hb⟩; refine ⟨_, rfl, ?_⟩; have n0_ := Aside0.mk (Kd.V_elder' (by exact HO_8.out) (Kd.S_base ho0) hb); have n1_ := Aside0.mk (Kd.S_lower (Kd.S_mono (ok' := fun k_ => True) ho0 (fun _ hk_ => trivial)) (below_size (HB.out))); have n2_ := Aside0.mk (below_step (HB.out) hb); clear HO_8; clear HB; have HO_8 := n0_; have HO778 := n1_; have HB := n2_; clear n0_ n1_ n2_; obtain ⟨Ao19, co19, eo19⟩ := Kd.S_slice HO778.out; subst eo19) | ((with_reducible refine gate_callee (f := 70) rfl ?_); refine goesL_ (some 38) rfl rfl Try.func70 (by kernel_rfl) rfl #[.slice Ao19 t776.length co19, .slice A1 l1.length c1] rfl (by (try simp only [List.map_toArray, List.map_cons, List.map_nil]); rfl) ?_; (with_reducible refine (lgon.calls kj4 _ _ t776 _ _ l1 t779 _ ?side1 ?side2 ?side3 ?side4 A14.out).mono ?_); (case side1 => repeat (first | exact (Kd.S_reads' HO778.out).2.2)); (case side2 => exact (Kd.S_reads' HO778.out).2.1); (case side3 => repeat (first | exact (Kd.C_below HR1.out HB.out))); (case side4 => exact HC1.out); rintro e w20 ⟨v780, rfl, ho0, hb⟩; refine ⟨_, rfl, ?_⟩; have n0_ := Aside0.mk (Kd.V_elder' (by exact HO_8.out) (Kd.R_base ho0) hb); have n1_ := Aside0.mk (Kd.S_elder' (by exact HO778.out) (Kd.R_base ho0) hb); have n2_ := Aside0.mk (Kd.R_lower ho0 (below_size (HB.out))); have n3_ := Aside0.mk (below_step (HB.out) hb); clear HO_8; clear HO778; clear HB; have HO_8 := n0_; have HO778 := n1_; have HO781 := n2_; have HB := n3_; clear n0_ n1_ n2_ n3_; obtain ⟨Ao21, co21, eo21⟩ := Kd.R_slice HO781.out; subst eo21) | ((with_reducible refine gate_callee (f := 68) rfl ?_); refine goesL_ (some 40) rfl rfl Try.func68 (by kernel_rfl) rfl #[.slice Ao21 t779.length co21, .func (.func 71) #[] #[]] rfl (by (try simp only [List.map_toArray, List.map_cons, List.map_nil]); rfl) ?_; (with_reducible refine (scfRun_2.calls kj4 _ _ t779 0 true _ ?side1 ?side2 A15.out).mono ?_); (case side1 => repeat (first | exact (Kd.R_reads' HO781.out).2.2)); (case side2 => exact (Kd.R_reads' HO781.out).2.1); rintro e w' ⟨rfl, ⟨nd, rfl⟩⟩; refine ⟨_, rfl, ?_⟩))
     go_ret2
     exact ⟨_, rfl, by first | exact Kd.R_nil _ _ _ _ _ | exact Kd.N_nil _ _ _ _ _ | exact Kd.V_nil _ _ _ _ _ | exact Kd.Q_nil _ _ _ _ _ | exact Kd.S_nil _ _ _ _ _, by repeat (first | exact HB.out | apply below_alloc | apply pw_below_drewN | apply below_drew1)⟩
    ·
     replace c16 := Bool.eq_false_iff.mpr c16
     subst c16
     have H1 : (some (t779, 0)) = some (r1, r2) := by rw [if_neg (show ¬ (false = true) by decide)] at H; exact H
     clear H
     have H := H1
     clear H1
     simp only [Option.some.injEq, Prod.mk.injEq] at H
     obtain ⟨rfl, rfl⟩ := H
     obtain ⟨Ao22, co22, eo22⟩ := Kd.V_slice HO_8.out
     subst eo22
     go_wp2_with (first | ((with_reducible refine gate_callee (f := 56) rfl ?_); refine goesL_ (some 36) rfl rfl Try.func56 (by kernel_rfl) rfl #[.slice Ao22 t770.length co22, .int .i64 a2] rfl (by (try simp only [List.map_toArray, List.map_cons, List.map_nil]); rfl) ?_; (with_reducible refine (lgpower.calls kj4 (fun k_ => True) _ _ t770 a2 t776 _ ?side1 A13.out).mono ?_); (case side1 => exact HO_8.out); rintro e w23 ⟨v777, rfl, ho0, hb⟩; refine ⟨_, rfl, ?_⟩; have n0_ := Aside0.mk (Kd.V_elder' (by exact HO_8.out) (Kd.S_base ho0) hb); have n1_ := Aside0.mk (Kd.S_lower (Kd.S_mono (ok' := fun k_ => True) ho0 (fun _ hk_ => trivial)) (below_size (HB.out))); have n2_ := Aside0.mk (below_step (HB.out) hb); clear HO_8; clear HB; have HO_8 := n0_; have HO778 := n1_; have HB := n2_; clear n0_ n1_ n2_; obtain ⟨Ao24, co24, eo24⟩ := Kd.S_slice HO778.out; subst eo24) | ((with_reducible refine gate_callee (f := 70) rfl ?_); refine goesL_ (some 38) rfl rfl Try.func70 (by kernel_rfl) rfl #[.slice Ao24 t776.length co24, .slice A1 l1.length c1] rfl (by (try simp only [List.map_toArray, List.map_cons, List.map_nil]); rfl) ?_; (with_reducible refine (lgon.calls kj4 _ _ t776 _ _ l1 t779 _ ?side1 ?side2 ?side3 ?side4 A14.out).mono ?_); (case side1 => repeat (first | exact (Kd.S_reads' HO778.out).2.2)); (case side2 => exact (Kd.S_reads' HO778.out).2.1); (case side3 => repeat (first | exact (Kd.C_below HR1.out HB.out))); (case side4 => exact HC1.out); rintro e w25 ⟨v780, rfl, ho0, hb⟩; refine ⟨_, rfl, ?_⟩; have n0_ := Aside0.mk (Kd.V_elder' (by exact HO_8.out) (Kd.R_base ho0) hb); have n1_ := Aside0.mk (Kd.S_elder' (by exact HO778.out) (Kd.R_base ho0) hb); have n2_ := Aside0.mk (Kd.R_lower ho0 (below_size (HB.out))); have n3_ := Aside0.mk (below_step (HB.out) hb); clear HO_8; clear HO778; clear HB; have HO_8 := n0_; have HO778 := n1_; have HO781 := n2_; have HB := n3_; clear n0_ n1_ n2_ n3_; obtain ⟨Ao26, co26, eo26⟩ := Kd.R_slice HO781.out; subst eo26) | ((with_reducible refine gate_callee (f := 68) rfl ?_); refine goesL_ (some 40) rfl rfl Try.func68 (by kernel_rfl) rfl #[.slice Ao26 t779.length co26, .func (.func 71) #[] #[]] rfl (by (try simp only [List.map_toArray, List.map_cons, List.map_nil]); rfl) ?_; (with_reducible refine (scfRun_2.calls kj4 _ _ t779 0 false _ ?side1 ?side2 A15.out).mono ?_); (case side1 => repeat (first | exact (Kd.R_reads' HO781.out).2.2)); (case side2 => exact (Kd.R_reads' HO781.out).2.1); rintro e w' ⟨rfl, ⟨nd, rfl⟩⟩; refine ⟨_, rfl, ?_⟩))
     go_ret2
     exact ⟨_, rfl, by (with_reducible repeat (first | apply Kd.R_alloc | apply Kd.R_drewN | apply Kd.R_drew)); exact HO781.out, by repeat (first | exact HB.out | apply below_alloc | apply pw_below_drewN | apply below_drew1)⟩
end Go.Proofs.Ythjmfbmffchicaa.V
