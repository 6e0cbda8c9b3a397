/- Walks of functions that the law LineStar reaches: each theorem '.calls' says that the call comes to what its printed plain function says, under the conditions that stand in it. -/
import Derived.Test.YthjmfbmffchicaaProg
import Derived.Below
import Derived.Deep.Draws
import Derived.Deep.AppendLies
import Derived.Maps.AppendAt
import Derived.OwnWalk
import Derived.Laws.BytesArg
import Derived.Laws.MakeOwn
import Derived.Laws.OwnMore
import Derived.Deep.OwnRows
import Derived.Tactics
import Derived.Lib.ConvBytes
import Derived.Laws.Slices
import Derived.WalkKit
import Derived.KernelRfl
import Derived.RowKit3
import Derived.Deep.LoopGhost
import Derived.Deep.QuietTactic
import Derived.BigQuiet
import Derived.WideLaws
import Derived.Deep.DeepCutAuto
import Derived.Deep.CutBlock
import Derived.Deep.RegionHeld3
import Derived.Laws.Rows
import Derived.Lib.AppendStr
import Derived.ArgAppend
import Derived.Laws.IdiomCopy
import Derived.OrdersHeld
import Derived.Laws.BitsLemmas
import Derived.RowKit
import Derived.Test.YthjmfbmffchicaaKSAid
import Derived.Test.YthjmfbmffchicaaKSWWords
import Derived.Test.YthjmfbmffchicaaKSWLast
import Derived.Test.YthjmfbmffchicaaKSWTab
import Derived.Test.YthjmfbmffchicaaKSWFour
import Derived.Test.YthjmfbmffchicaaKSWQPut
import Derived.Test.YthjmfbmffchicaaKSWApart
import Derived.Test.YthjmfbmffchicaaKSWArr
import Derived.Test.YthjmfbmffchicaaKSWZeros
import Derived.Test.YthjmfbmffchicaaKSWFoot
import Derived.Test.YthjmfbmffchicaaKSWKept
import Derived.Test.YthjmfbmffchicaaKSWShare
import Derived.Test.YthjmfbmffchicaaKSWN
import Derived.Test.YthjmfbmffchicaaKSWFootNe
import Derived.Test.YthjmfbmffchicaaKSWAt
import Derived.Test.YthjmfbmffchicaaKSWEqStruct
import Derived.Test.YthjmfbmffchicaaKSWRepsOne
import Derived.Test.YthjmfbmffchicaaKSWInv
import Derived.Test.YthjmfbmffchicaaKSWInvWords
import Derived.Test.YthjmfbmffchicaaKSWGuard
import Derived.Test.YthjmfbmffchicaaKSWNEv
import Derived.Test.YthjmfbmffchicaaKSWMore
import Derived.Test.YthjmfbmffchicaaKSf0
namespace Go.Proofs.Ythjmfbmffchicaa.V
open Go.RowKit Go.Proofs.YthjmfbmffchicaaW.PrintWords Go.Proofs.YthjmfbmffchicaaW.PrintLast Go.Proofs.YthjmfbmffchicaaW.PrintMore
attribute [local go_sem] max2_int min2_int max_two min_two max_three min_three max_four min_four
set_option linter.unusedVariables false
set_option linter.unusedSimpArgs false
mutual
def l5within.l0 : Nat → List (List Int) → Int → Option (Bool)
 | 0, _, _ => none
 | k + 1, x0, x3 => if x3 < (x0.length : Int) then (l5within.l1 k x0 x3 0) else (some true)
def l5within.l1 : Nat → List (List Int) → Int → Int → Option (Bool)
 | 0, _, _, _ => none
 | k + 1, x0, x3, x4 => if 0 ≤ x3 then (if x3 < (x0.length : Int) then (if x4 < ((rd_L1 x0 x3).length : Int) then (if 0 ≤ x4 then (if (rd (rd_L1 x0 x3) x4) = (-1152921504606846976) then (l5within.l1 k x0 x3 (wrap64 (x4 + 1))) else (if (rd (rd_L1 x0 x3) x4) < (-1000) then (some false) else (if (rd (rd_L1 x0 x3) x4) > 1000 then (some false) else (l5within.l1 k x0 x3 (wrap64 (x4 + 1)))))) else (none)) else (l5within.l0 k x0 (wrap64 (x3 + 1)))) else (none)) else (none)
end
def l5within.f (k : Nat) (l0 : List (List Int)) : Option (Bool) := l5within.l0 k l0 0
theorem l5within.mono_l : ∀ k, (∀ y0 y1, LeO (l5within.l0 k y0 y1) (l5within.l0 (k + 1) y0 y1)) ∧ (∀ y0 y1 y2, LeO (l5within.l1 k y0 y1 y2) (l5within.l1 (k + 1) y0 y1 y2))
 | 0 => ⟨fun _ _ r h => by simp [l5within.l0] at h, fun _ _ _ r h => by simp [l5within.l1] at h⟩
 | k + 1 => by
  obtain ⟨ih0, ih1⟩ := l5within.mono_l k
  refine ⟨?_, ?_⟩
  ·
   intro y0 y1
   unfold l5within.l0
   repeat' first
   | (with_reducible exact LeO.refl _)
   | (with_reducible exact LeO.none _)
   | (with_reducible refine LeO.ite ?_ ?_)
   | (with_reducible refine LeO.bind ?_ (fun _ => ?_))
   | exact ih0 _ _
   | exact ih1 _ _ _
   | exact LeO.none _
   | refine LeO.ite ?_ ?_
   | refine LeO.bind ?_ (fun _ => ?_)
  ·
   intro y0 y1 y2
   unfold l5within.l1
   repeat' first
   | (with_reducible exact LeO.refl _)
   | (with_reducible exact LeO.none _)
   | (with_reducible refine LeO.ite ?_ ?_)
   | (with_reducible refine LeO.bind ?_ (fun _ => ?_))
   | exact ih0 _ _
   | exact ih1 _ _ _
   | exact LeO.none _
   | refine LeO.ite ?_ ?_
   | refine LeO.bind ?_ (fun _ => ?_)
theorem l5within.mono : ∀ a0 k, LeO (l5within.f k a0) (l5within.f (k + 1) a0) := by
 intro a0 k
 obtain ⟨ih0, ih1⟩ := l5within.mono_l k
 unfold l5within.f
 repeat' first
   | (with_reducible exact LeO.refl _)
   | (with_reducible exact LeO.none _)
   | (with_reducible refine LeO.ite ?_ ?_)
   | (with_reducible refine LeO.bind ?_ (fun _ => ?_))
   | exact ih0 _ _
   | exact ih1 _ _ _
   | exact LeO.none _
   | refine LeO.ite ?_ ?_
   | refine LeO.bind ?_ (fun _ => ?_)
set_option maxHeartbeats 8000000 in
set_option maxRecDepth 100000 in
theorem l5within.calls (k : Nat) (A0 : Option Addr) (c0 : Nat) (l0 : List (List Int)) (r : Bool) (w : World) (hr0 : Kd.C (Kd.slice 3 (Kd.int .i64)) w A0 l0.length l0) (hc0 : l0.length ≤ c0) (h : l5within.f k l0 = some r) :
  Calls Try.prog 43 #[.slice A0 l0.length c0] w fun e w' => e = .returned (.bool r) ∧ Drawn0 w w' := by
 have HR0 := Aside0.mk hr0
 have HC0 := Aside0.mk hc0
 clear hr0 hc0
 have H : (l5within.l0 k l0 0) = some r := h
 clear h
 have H' := Aside0.mk H
 clear H
 go_enter Try.func43, Try.ntmps43
 go_wp2
 go_loopg [3] k (fun kq v3 w' => ∃ (x3_1 : Int), v3 = .int .i64 x3_1 ∧ Aside0 (l5within.l0 kq l0 x3_1 = some r) ∧ Aside0 (kq ≤ k) ∧ Drawn0 w w')
 case atStart => exact ⟨(0), rfl, H', ⟨Nat.le_refl _⟩, by repeat (first | exact Drawn0.refl _ | apply Drawn0.step)⟩
 case round =>
  clear H'
  obtain ⟨x3_1, rfl, HA, HK1, ⟨m1, rfl⟩⟩ := hrel
  cases gk with
  | zero => exact absurd HA.out (by simp [l5within.l0])
  | succ k1 =>
   have H := HA.out
   clear HA
   simp only [l5within.l0] at H
   by_cases c2 : x3_1 < (l0.length : Int)
   ·
    rw [if_pos c2] at H
    have c2b0 : decide (x3_1 < (l0.length : Int)) = true := decide_eq_true c2
    clear c2
    have H' := Aside0.mk H
    clear H
    go_wp2
    go_loopg [4] k1 (fun kq v4 w' => ∃ (x4_2 : Int), v4 = .int .i64 x4_2 ∧ Aside0 (l5within.l1 kq l0 x3_1 x4_2 = some r) ∧ Aside0 (kq ≤ k1) ∧ Drawn0 w w')
    case atStart => exact ⟨(0), rfl, H', ⟨Nat.le_refl _⟩, by repeat (first | exact Drawn0.refl _ | apply Drawn0.step)⟩
    case round =>
     clear H'
     obtain ⟨x4_2, rfl, HA, HK2, ⟨m2, rfl⟩⟩ := hrel
     cases gk with
     | zero => exact absurd HA.out (by simp [l5within.l1])
     | succ k2 =>
      have H := HA.out
      clear HA
      simp only [l5within.l1] at H
      by_cases c3 : 0 ≤ x3_1
      ·
       rw [if_pos c3] at H
       have c3b0 : decide (0 ≤ x3_1) = true := decide_eq_true c3
       clear c3
       by_cases c4 : x3_1 < (l0.length : Int)
       ·
        rw [if_pos c4] at H
        have c4b0 : decide (x3_1 < (l0.length : Int)) = true := decide_eq_true c4
        clear c4
        by_cases c5 : x4_2 < ((rd_L1 l0 x3_1).length : Int)
        ·
         rw [if_pos c5] at H
         have c5b0 : decide (x4_2 < ((rd_L1 l0 x3_1).length : Int)) = true := decide_eq_true c5
         clear c5
         by_cases c6 : 0 ≤ x4_2
         ·
          rw [if_pos c6] at H
          have c6b0 : decide (0 ≤ x4_2) = true := decide_eq_true c6
          clear c6
          by_cases c7 : (rd (rd_L1 l0 x3_1) x4_2) = (-1152921504606846976)
          ·
           rw [if_pos c7] at H
           have c7b0 : ((rd (rd_L1 l0 x3_1) x4_2) == (-1152921504606846976)) = true := beq_iff_eq.mpr c7
           have c7b1 : ((rd (rd_L1 l0 x3_1) x4_2) != (-1152921504606846976)) = false := bne_eq_false_iff_eq.mpr c7
           clear c7
           have H' := Aside0.mk H
           clear H
           have p1093 : 0 ≤ (x3_1 : Int) := of_decide_eq_true (by first | (with_reducible assumption) | assumption)
           have q1093 : x3_1 < (l0.length : Int) := of_decide_eq_true (by first | (with_reducible assumption) | assumption)
           obtain ⟨ad1093, A1093_0, c1093_0, e1093, hx1093_0, hl1093_0, hi1093_0⟩ := at_L1 HR0.out x3_1 p1093 q1093
           cases e1093
           have HR1093_0 := Aside0.mk hi1093_0
           have HC1093_0 := Aside0.mk hl1093_0
           clear hi1093_0 hl1093_0
           replace p1093 := eq_true p1093
           replace q1093 := eq_true q1093
           have p1094 : 0 ≤ (x3_1 : Int) := of_decide_eq_true (by assumption)
           have q1094 : x3_1 < (l0.length : Int) := of_decide_eq_true (by assumption)
           obtain ⟨ad1094, A1094_0, c1094_0, e1094, hx1094_0, hl1094_0, hi1094_0⟩ := at_L1 HR0.out x3_1 p1094 q1094
           obtain rfl : ad1093 = ad1094 := (by injection e1094)
           have HR1094_0 := Aside0.mk hi1094_0
           have HC1094_0 := Aside0.mk hl1094_0
           clear hi1094_0 hl1094_0
           replace p1094 := eq_true p1094
           replace q1094 := eq_true q1094
           have ea_ := Option.some.inj (hx1093_0.symm.trans hx1094_0)
           injection ea_ with ea_ en_ ec_
           subst ea_
           subst ec_
           clear en_
           have p1095 : 0 ≤ (x4_2 : Int) := of_decide_eq_true (by assumption)
           have q1095 : x4_2 < ((rd_L1 l0 x3_1).length : Int) := of_decide_eq_true (by assumption)
           obtain ⟨ad1095, e1095, hx1095_0⟩ := Kd.at_int HR1094_0.out x4_2 p1095 q1095
           cases e1095
           replace p1095 := eq_true p1095
           replace q1095 := eq_true q1095
           go_wp2
           go_roundg k2
           case measure => have := HK1.out; have := HK2.out; omega
           case rel => exact ⟨(wrap64 (x4_2 + 1)), rfl, H', ⟨by have := HK1.out; have := HK2.out; omega⟩, by repeat (first | exact Drawn0.refl _ | apply Drawn0.step)⟩
          ·
           rw [if_neg c7] at H
           have c7b0 : ((rd (rd_L1 l0 x3_1) x4_2) == (-1152921504606846976)) = false := beq_eq_false_iff_ne.mpr c7
           by_cases c8 : (rd (rd_L1 l0 x3_1) x4_2) < (-1000)
           ·
            rw [if_pos c8] at H
            have c8b0 : decide ((rd (rd_L1 l0 x3_1) x4_2) < (-1000)) = true := decide_eq_true c8
            clear c8
            obtain rfl := Option.some.inj H
            have p1093 : 0 ≤ (x3_1 : Int) := of_decide_eq_true (by assumption)
            have q1093 : x3_1 < (l0.length : Int) := of_decide_eq_true (by assumption)
            obtain ⟨ad1093, A1093_0, c1093_0, e1093, hx1093_0, hl1093_0, hi1093_0⟩ := at_L1 HR0.out x3_1 p1093 q1093
            cases e1093
            have HR1093_0 := Aside0.mk hi1093_0
            have HC1093_0 := Aside0.mk hl1093_0
            clear hi1093_0 hl1093_0
            replace p1093 := eq_true p1093
            replace q1093 := eq_true q1093
            have p1094 : 0 ≤ (x3_1 : Int) := of_decide_eq_true (by assumption)
            have q1094 : x3_1 < (l0.length : Int) := of_decide_eq_true (by assumption)
            obtain ⟨ad1094, A1094_0, c1094_0, e1094, hx1094_0, hl1094_0, hi1094_0⟩ := at_L1 HR0.out x3_1 p1094 q1094
            obtain rfl : ad1093 = ad1094 := (by injection e1094)
            have HR1094_0 := Aside0.mk hi1094_0
            have HC1094_0 := Aside0.mk hl1094_0
            clear hi1094_0 hl1094_0
            replace p1094 := eq_true p1094
            replace q1094 := eq_true q1094
            have ea_ := Option.some.inj (hx1093_0.symm.trans hx1094_0)
            injection ea_ with ea_ en_ ec_
            subst ea_
            subst ec_
            clear en_
            have p1095 : 0 ≤ (x4_2 : Int) := of_decide_eq_true (by assumption)
            have q1095 : x4_2 < ((rd_L1 l0 x3_1).length : Int) := of_decide_eq_true (by assumption)
            obtain ⟨ad1095, e1095, hx1095_0⟩ := Kd.at_int HR1094_0.out x4_2 p1095 q1095
            cases e1095
            replace p1095 := eq_true p1095
            replace q1095 := eq_true q1095
            have p1096 : 0 ≤ (x3_1 : Int) := of_decide_eq_true (by assumption)
            have q1096 : x3_1 < (l0.length : Int) := of_decide_eq_true (by assumption)
            obtain ⟨ad1096, A1096_0, c1096_0, e1096, hx1096_0, hl1096_0, hi1096_0⟩ := at_L1 HR0.out x3_1 p1096 q1096
            obtain rfl : ad1093 = ad1096 := (by injection e1096)
            have HR1096_0 := Aside0.mk hi1096_0
            have HC1096_0 := Aside0.mk hl1096_0
            clear hi1096_0 hl1096_0
            replace p1096 := eq_true p1096
            replace q1096 := eq_true q1096
            have ea_ := Option.some.inj (hx1093_0.symm.trans hx1096_0)
            injection ea_ with ea_ en_ ec_
            subst ea_
            subst ec_
            clear en_
            have p1097 : 0 ≤ (x4_2 : Int) := of_decide_eq_true (by assumption)
            have q1097 : x4_2 < ((rd_L1 l0 x3_1).length : Int) := of_decide_eq_true (by assumption)
            obtain ⟨ad1097, e1097, hx1097_0⟩ := Kd.at_int HR1096_0.out x4_2 p1097 q1097
            cases e1097
            replace p1097 := eq_true p1097
            replace q1097 := eq_true q1097
            go_wp2
            go_ret
            exact ⟨by first | rfl | (simp; done) | (simp [*]; done), by repeat (first | exact Drawn0.refl _ | apply Drawn0.step)⟩
           ·
            rw [if_neg c8] at H
            have c8b0 : decide ((rd (rd_L1 l0 x3_1) x4_2) < (-1000)) = false := decide_eq_false c8
            clear c8
            by_cases c9 : (rd (rd_L1 l0 x3_1) x4_2) > 1000
            ·
             rw [if_pos c9] at H
             have c9b0 : decide (1000 < (rd (rd_L1 l0 x3_1) x4_2)) = true := decide_eq_true c9
             clear c9
             obtain rfl := Option.some.inj H
             have p1093 : 0 ≤ (x3_1 : Int) := of_decide_eq_true (by assumption)
             have q1093 : x3_1 < (l0.length : Int) := of_decide_eq_true (by assumption)
             obtain ⟨ad1093, A1093_0, c1093_0, e1093, hx1093_0, hl1093_0, hi1093_0⟩ := at_L1 HR0.out x3_1 p1093 q1093
             cases e1093
             have HR1093_0 := Aside0.mk hi1093_0
             have HC1093_0 := Aside0.mk hl1093_0
             clear hi1093_0 hl1093_0
             replace p1093 := eq_true p1093
             replace q1093 := eq_true q1093
             have p1094 : 0 ≤ (x3_1 : Int) := of_decide_eq_true (by assumption)
             have q1094 : x3_1 < (l0.length : Int) := of_decide_eq_true (by assumption)
             obtain ⟨ad1094, A1094_0, c1094_0, e1094, hx1094_0, hl1094_0, hi1094_0⟩ := at_L1 HR0.out x3_1 p1094 q1094
             obtain rfl : ad1093 = ad1094 := (by injection e1094)
             have HR1094_0 := Aside0.mk hi1094_0
             have HC1094_0 := Aside0.mk hl1094_0
             clear hi1094_0 hl1094_0
             replace p1094 := eq_true p1094
             replace q1094 := eq_true q1094
             have ea_ := Option.some.inj (hx1093_0.symm.trans hx1094_0)
             injection ea_ with ea_ en_ ec_
             subst ea_
             subst ec_
             clear en_
             have p1095 : 0 ≤ (x4_2 : Int) := of_decide_eq_true (by assumption)
             have q1095 : x4_2 < ((rd_L1 l0 x3_1).length : Int) := of_decide_eq_true (by assumption)
             obtain ⟨ad1095, e1095, hx1095_0⟩ := Kd.at_int HR1094_0.out x4_2 p1095 q1095
             cases e1095
             replace p1095 := eq_true p1095
             replace q1095 := eq_true q1095
             have p1096 : 0 ≤ (x3_1 : Int) := of_decide_eq_true (by assumption)
             have q1096 : x3_1 < (l0.length : Int) := of_decide_eq_true (by assumption)
             obtain ⟨ad1096, A1096_0, c1096_0, e1096, hx1096_0, hl1096_0, hi1096_0⟩ := at_L1 HR0.out x3_1 p1096 q1096
             obtain rfl : ad1093 = ad1096 := (by injection e1096)
             have HR1096_0 := Aside0.mk hi1096_0
             have HC1096_0 := Aside0.mk hl1096_0
             clear hi1096_0 hl1096_0
             replace p1096 := eq_true p1096
             replace q1096 := eq_true q1096
             have ea_ := Option.some.inj (hx1093_0.symm.trans hx1096_0)
             injection ea_ with ea_ en_ ec_
             subst ea_
             subst ec_
             clear en_
             have p1097 : 0 ≤ (x4_2 : Int) := of_decide_eq_true (by assumption)
             have q1097 : x4_2 < ((rd_L1 l0 x3_1).length : Int) := of_decide_eq_true (by assumption)
             obtain ⟨ad1097, e1097, hx1097_0⟩ := Kd.at_int HR1096_0.out x4_2 p1097 q1097
             cases e1097
             replace p1097 := eq_true p1097
             replace q1097 := eq_true q1097
             have p1098 : 0 ≤ (x3_1 : Int) := of_decide_eq_true (by assumption)
             have q1098 : x3_1 < (l0.length : Int) := of_decide_eq_true (by assumption)
             obtain ⟨ad1098, A1098_0, c1098_0, e1098, hx1098_0, hl1098_0, hi1098_0⟩ := at_L1 HR0.out x3_1 p1098 q1098
             obtain rfl : ad1093 = ad1098 := (by injection e1098)
             have HR1098_0 := Aside0.mk hi1098_0
             have HC1098_0 := Aside0.mk hl1098_0
             clear hi1098_0 hl1098_0
             replace p1098 := eq_true p1098
             replace q1098 := eq_true q1098
             have ea_ := Option.some.inj (hx1093_0.symm.trans hx1098_0)
             injection ea_ with ea_ en_ ec_
             subst ea_
             subst ec_
             clear en_
             have p1099 : 0 ≤ (x4_2 : Int) := of_decide_eq_true (by assumption)
             have q1099 : x4_2 < ((rd_L1 l0 x3_1).length : Int) := of_decide_eq_true (by assumption)
             obtain ⟨ad1099, e1099, hx1099_0⟩ := Kd.at_int HR1098_0.out x4_2 p1099 q1099
             cases e1099
             replace p1099 := eq_true p1099
             replace q1099 := eq_true q1099
             go_wp2
             go_ret
             exact ⟨by first | rfl | (simp; done) | (simp [*]; done), by repeat (first | exact Drawn0.refl _ | apply Drawn0.step)⟩
            ·
             rw [if_neg c9] at H
             have c9b0 : decide (1000 < (rd (rd_L1 l0 x3_1) x4_2)) = false := decide_eq_false c9
             clear c9
             have H' := Aside0.mk H
             clear H
             have p1093 : 0 ≤ (x3_1 : Int) := of_decide_eq_true (by assumption)
             have q1093 : x3_1 < (l0.length : Int) := of_decide_eq_true (by assumption)
             obtain ⟨ad1093, A1093_0, c1093_0, e1093, hx1093_0, hl1093_0, hi1093_0⟩ := at_L1 HR0.out x3_1 p1093 q1093
             cases e1093
             have HR1093_0 := Aside0.mk hi1093_0
             have HC1093_0 := Aside0.mk hl1093_0
             clear hi1093_0 hl1093_0
             replace p1093 := eq_true p1093
             replace q1093 := eq_true q1093
             have p1094 : 0 ≤ (x3_1 : Int) := of_decide_eq_true (by assumption)
             have q1094 : x3_1 < (l0.length : Int) := of_decide_eq_true (by assumption)
             obtain ⟨ad1094, A1094_0, c1094_0, e1094, hx1094_0, hl1094_0, hi1094_0⟩ := at_L1 HR0.out x3_1 p1094 q1094
             obtain rfl : ad1093 = ad1094 := (by injection e1094)
             have HR1094_0 := Aside0.mk hi1094_0
             have HC1094_0 := Aside0.mk hl1094_0
             clear hi1094_0 hl1094_0
             replace p1094 := eq_true p1094
             replace q1094 := eq_true q1094
             have ea_ := Option.some.inj (hx1093_0.symm.trans hx1094_0)
             injection ea_ with ea_ en_ ec_
             subst ea_
             subst ec_
             clear en_
             have p1095 : 0 ≤ (x4_2 : Int) := of_decide_eq_true (by assumption)
             have q1095 : x4_2 < ((rd_L1 l0 x3_1).length : Int) := of_decide_eq_true (by assumption)
             obtain ⟨ad1095, e1095, hx1095_0⟩ := Kd.at_int HR1094_0.out x4_2 p1095 q1095
             cases e1095
             replace p1095 := eq_true p1095
             replace q1095 := eq_true q1095
             have p1096 : 0 ≤ (x3_1 : Int) := of_decide_eq_true (by assumption)
             have q1096 : x3_1 < (l0.length : Int) := of_decide_eq_true (by assumption)
             obtain ⟨ad1096, A1096_0, c1096_0, e1096, hx1096_0, hl1096_0, hi1096_0⟩ := at_L1 HR0.out x3_1 p1096 q1096
             obtain rfl : ad1093 = ad1096 := (by injection e1096)
             have HR1096_0 := Aside0.mk hi1096_0
             have HC1096_0 := Aside0.mk hl1096_0
             clear hi1096_0 hl1096_0
             replace p1096 := eq_true p1096
             replace q1096 := eq_true q1096
             have ea_ := Option.some.inj (hx1093_0.symm.trans hx1096_0)
             injection ea_ with ea_ en_ ec_
             subst ea_
             subst ec_
             clear en_
             have p1097 : 0 ≤ (x4_2 : Int) := of_decide_eq_true (by assumption)
             have q1097 : x4_2 < ((rd_L1 l0 x3_1).length : Int) := of_decide_eq_true (by assumption)
             obtain ⟨ad1097, e1097, hx1097_0⟩ := Kd.at_int HR1096_0.out x4_2 p1097 q1097
             cases e1097
             replace p1097 := eq_true p1097
             replace q1097 := eq_true q1097
             have p1098 : 0 ≤ (x3_1 : Int) := of_decide_eq_true (by assumption)
             have q1098 : x3_1 < (l0.length : Int) := of_decide_eq_true (by assumption)
             obtain ⟨ad1098, A1098_0, c1098_0, e1098, hx1098_0, hl1098_0, hi1098_0⟩ := at_L1 HR0.out x3_1 p1098 q1098
             obtain rfl : ad1093 = ad1098 := (by injection e1098)
             have HR1098_0 := Aside0.mk hi1098_0
             have HC1098_0 := Aside0.mk hl1098_0
             clear hi1098_0 hl1098_0
             replace p1098 := eq_true p1098
             replace q1098 := eq_true q1098
             have ea_ := Option.some.inj (hx1093_0.symm.trans hx1098_0)
             injection ea_ with ea_ en_ ec_
             subst ea_
             subst ec_
             clear en_
             have p1099 : 0 ≤ (x4_2 : Int) := of_decide_eq_true (by assumption)
             have q1099 : x4_2 < ((rd_L1 l0 x3_1).length : Int) := of_decide_eq_true (by assumption)
             obtain ⟨ad1099, e1099, hx1099_0⟩ := Kd.at_int HR1098_0.out x4_2 p1099 q1099
             cases e1099
             replace p1099 := eq_true p1099
             replace q1099 := eq_true q1099
             go_wp2
             go_roundg k2
             case measure => have := HK1.out; have := HK2.out; omega
             case rel => exact ⟨(wrap64 (x4_2 + 1)), rfl, H', ⟨by have := HK1.out; have := HK2.out; omega⟩, by repeat (first | exact Drawn0.refl _ | apply Drawn0.step)⟩
         ·
          rw [if_neg c6] at H
          exact absurd H (by simp)
        ·
         rw [if_neg c5] at H
         have c5b0 : decide (x4_2 < ((rd_L1 l0 x3_1).length : Int)) = false := decide_eq_false c5
         clear c5
         have H' := Aside0.mk H
         clear H
         have p1093 : 0 ≤ (x3_1 : Int) := of_decide_eq_true (by assumption)
         have q1093 : x3_1 < (l0.length : Int) := of_decide_eq_true (by assumption)
         obtain ⟨ad1093, A1093_0, c1093_0, e1093, hx1093_0, hl1093_0, hi1093_0⟩ := at_L1 HR0.out x3_1 p1093 q1093
         cases e1093
         have HR1093_0 := Aside0.mk hi1093_0
         have HC1093_0 := Aside0.mk hl1093_0
         clear hi1093_0 hl1093_0
         replace p1093 := eq_true p1093
         replace q1093 := eq_true q1093
         go_wp2
         go_roundg k2
         case measure => have := HK1.out; have := HK2.out; omega
         case rel => exact ⟨(wrap64 (x3_1 + 1)), rfl, H', ⟨by have := HK1.out; have := HK2.out; omega⟩, by repeat (first | exact Drawn0.refl _ | apply Drawn0.step)⟩
       ·
        rw [if_neg c4] at H
        exact absurd H (by simp)
      ·
       rw [if_neg c3] at H
       exact absurd H (by simp)
   ·
    rw [if_neg c2] at H
    have c2b0 : decide (x3_1 < (l0.length : Int)) = false := decide_eq_false c2
    clear c2
    obtain rfl := Option.some.inj H
    go_wp2
    go_ret
    exact ⟨by first | rfl | (simp; done) | (simp [*]; done), by repeat (first | exact Drawn0.refl _ | apply Drawn0.step)⟩
end Go.Proofs.Ythjmfbmffchicaa.V
