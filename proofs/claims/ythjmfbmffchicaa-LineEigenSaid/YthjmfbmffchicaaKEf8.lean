/- Walks of functions that the law LineEigen reaches: each theorem '.calls' says that the call comes to what its printed plain function says, under the conditions that stand in it. -/
import Derived.Test.YthjmfbmffchicaaProg
import Derived.Below
import Derived.Deep.Draws
import Derived.Deep.AppendLies
import Derived.Maps.AppendAt
import Derived.OwnWalk
import Derived.Laws.BytesArg
import Derived.Laws.MakeOwn
import Derived.Laws.OwnMore
import Derived.Deep.OwnRows
import Derived.Tactics
import Derived.Lib.ConvBytes
import Derived.Laws.Slices
import Derived.WalkKit
import Derived.KernelRfl
import Derived.RowKit3
import Derived.Deep.LoopGhost
import Derived.Deep.QuietTactic
import Derived.BigQuiet
import Derived.WideLaws
import Derived.Deep.DeepCutAuto
import Derived.Deep.CutBlock
import Derived.Deep.RegionHeld3
import Derived.Laws.Rows
import Derived.Lib.AppendStr
import Derived.ArgAppend
import Derived.Laws.IdiomCopy
import Derived.OrdersHeld
import Derived.Laws.BitsLemmas
import Derived.RowKit
import Derived.Test.YthjmfbmffchicaaKEAid
import Derived.Test.YthjmfbmffchicaaKEWWords
import Derived.Test.YthjmfbmffchicaaKEWLast
import Derived.Test.YthjmfbmffchicaaKEWTab
import Derived.Test.YthjmfbmffchicaaKEWFour
import Derived.Test.YthjmfbmffchicaaKEWQPut
import Derived.Test.YthjmfbmffchicaaKEWApart
import Derived.Test.YthjmfbmffchicaaKEWArr
import Derived.Test.YthjmfbmffchicaaKEWZeros
import Derived.Test.YthjmfbmffchicaaKEWFoot
import Derived.Test.YthjmfbmffchicaaKEWKept
import Derived.Test.YthjmfbmffchicaaKEWShare
import Derived.Test.YthjmfbmffchicaaKEWN
import Derived.Test.YthjmfbmffchicaaKEWFootNe
import Derived.Test.YthjmfbmffchicaaKEWAt
import Derived.Test.YthjmfbmffchicaaKEWEqStruct
import Derived.Test.YthjmfbmffchicaaKEWRepsOne
import Derived.Test.YthjmfbmffchicaaKEWInv
import Derived.Test.YthjmfbmffchicaaKEWInvWords
import Derived.Test.YthjmfbmffchicaaKEWGuard
import Derived.Test.YthjmfbmffchicaaKEWNEv
import Derived.Test.YthjmfbmffchicaaKEWMore
import Derived.Test.YthjmfbmffchicaaKEf0
namespace Go.Proofs.Ythjmfbmffchicaa.V
open Go.RowKit Go.Proofs.YthjmfbmffchicaaW.PrintWords Go.Proofs.YthjmfbmffchicaaW.PrintLast Go.Proofs.YthjmfbmffchicaaW.PrintMore
attribute [local go_sem] max2_int min2_int max_two min_two max_three min_three max_four min_four
set_option linter.unusedVariables false
set_option linter.unusedSimpArgs false
mutual
def l5within.l0 : Nat → List (List Int) → Int → Option (Bool)
 | 0, _, _ => none
 | k + 1, x0, x3 => if x3 < (x0.length : Int) then (l5within.l1 k x0 x3 0) else (some true)
def l5within.l1 : Nat → List (List Int) → Int → Int → Option (Bool)
 | 0, _, _, _ => none
 | k + 1, x0, x3, x4 => if 0 ≤ x3 then (if x3 < (x0.length : Int) then (if x4 < ((rd_L1 x0 x3).length : Int) then (if 0 ≤ x4 then (if (rd (rd_L1 x0 x3) x4) = (-1152921504606846976) then (l5within.l1 k x0 x3 (wrap64 (x4 + 1))) else (if (rd (rd_L1 x0 x3) x4) < (-1000) then (some false) else (if (rd (rd_L1 x0 x3) x4) > 1000 then (some false) else (l5within.l1 k x0 x3 (wrap64 (x4 + 1)))))) else (none)) else (l5within.l0 k x0 (wrap64 (x3 + 1)))) else (none)) else (none)
end
def l5within.f (k : Nat) (l0 : List (List Int)) : Option (Bool) := l5within.l0 k l0 0
theorem l5within.mono_l : ∀ k, (∀ y0 y1, LeO (l5within.l0 k y0 y1) (l5within.l0 (k + 1) y0 y1)) ∧ (∀ y0 y1 y2, LeO (l5within.l1 k y0 y1 y2) (l5within.l1 (k + 1) y0 y1 y2))
 | 0 => ⟨fun _ _ r h => by simp [l5within.l0] at h, fun _ _ _ r h => by simp [l5within.l1] at h⟩
 | k + 1 => by
  obtain ⟨ih0, ih1⟩ := l5within.mono_l k
  refine ⟨?_, ?_⟩
  ·
   intro y0 y1
   unfold l5within.l0
   repeat' first
   | (with_reducible exact LeO.refl _)
   | (with_reducible exact LeO.none _)
   | (with_reducible refine LeO.ite ?_ ?_)
   | (with_reducible refine LeO.bind ?_ (fun _ => ?_))
   | exact ih0 _ _
   | exact ih1 _ _ _
   | exact LeO.none _
   | refine LeO.ite ?_ ?_
   | refine LeO.bind ?_ (fun _ => ?_)
  ·
   intro y0 y1 y2
   unfold l5within.l1
   repeat' first
   | (with_reducible exact LeO.refl _)
   | (with_reducible exact LeO.none _)
   | (with_reducible refine LeO.ite ?_ ?_)
   | (with_reducible refine LeO.bind ?_ (fun _ => ?_))
   | exact ih0 _ _
   | exact ih1 _ _ _
   | exact LeO.none _
   | refine LeO.ite ?_ ?_
   | refine LeO.bind ?_ (fun _ => ?_)
theorem l5within.mono : ∀ a0 k, LeO (l5within.f k a0) (l5within.f (k + 1) a0) := by
 intro a0 k
 obtain ⟨ih0, ih1⟩ := l5within.mono_l k
 unfold l5within.f
 repeat' first
   | (with_reducible exact LeO.refl _)
   | (with_reducible exact LeO.none _)
   | (with_reducible refine LeO.ite ?_ ?_)
   | (with_reducible refine LeO.bind ?_ (fun _ => ?_))
   | exact ih0 _ _
   | exact ih1 _ _ _
   | exact LeO.none _
   | refine LeO.ite ?_ ?_
   | refine LeO.bind ?_ (fun _ => ?_)
set_option maxHeartbeats 8000000 in
set_option maxRecDepth 100000 in
theorem l5within.calls (k : Nat) (A0 : Option Addr) (c0 : Nat) (l0 : List (List Int)) (r : Bool) (w : World) (hr0 : Kd.C (Kd.slice 3 (Kd.int .i64)) w A0 l0.length l0) (hc0 : l0.length ≤ c0) (h : l5within.f k l0 = some r) :
  Calls Try.prog 43 #[.slice A0 l0.length c0] w fun e w' => e = .returned (.bool r) ∧ Drawn0 w w' := by
 have HR0 := Aside0.mk hr0
 have HC0 := Aside0.mk hc0
 clear hr0 hc0
 have H : (l5within.l0 k l0 0) = some r := h
 clear h
 have H' := Aside0.mk H
 clear H
 go_enter Try.func43, Try.ntmps43
 go_wp2
 go_loopg [3] k (fun kq v3 w' => ∃ (x3_1 : Int), v3 = .int .i64 x3_1 ∧ Aside0 (l5within.l0 kq l0 x3_1 = some r) ∧ Aside0 (kq ≤ k) ∧ Drawn0 w w')
 case atStart => exact ⟨(0), rfl, H', ⟨Nat.le_refl _⟩, by repeat (first | exact Drawn0.refl _ | apply Drawn0.step)⟩
 case round =>
  clear H'
  obtain ⟨x3_1, rfl, HA, HK1, ⟨m1, rfl⟩⟩ := hrel
  cases gk with
  | zero => exact absurd HA.out (by simp [l5within.l0])
  | succ k1 =>
   have H := HA.out
   clear HA
   simp only [l5within.l0] at H
   by_cases c2 : x3_1 < (l0.length : Int)
   ·
    rw [if_pos c2] at H
    have c2b0 : decide (x3_1 < (l0.length : Int)) = true := decide_eq_true c2
    clear c2
    have H' := Aside0.mk H
    clear H
    go_wp2
    go_loopg [4] k1 (fun kq v4 w' => ∃ (x4_2 : Int), v4 = .int .i64 x4_2 ∧ Aside0 (l5within.l1 kq l0 x3_1 x4_2 = some r) ∧ Aside0 (kq ≤ k1) ∧ Drawn0 w w')
    case atStart => exact ⟨(0), rfl, H', ⟨Nat.le_refl _⟩, by repeat (first | exact Drawn0.refl _ | apply Drawn0.step)⟩
    case round =>
     clear H'
     obtain ⟨x4_2, rfl, HA, HK2, ⟨m2, rfl⟩⟩ := hrel
     cases gk with
     | zero => exact absurd HA.out (by simp [l5within.l1])
     | succ k2 =>
      have H := HA.out
      clear HA
      simp only [l5within.l1] at H
      by_cases c3 : 0 ≤ x3_1
      ·
       rw [if_pos c3] at H
       have c3b0 : decide (0 ≤ x3_1) = true := decide_eq_true c3
       clear c3
       by_cases c4 : x3_1 < (l0.length : Int)
       ·
        rw [if_pos c4] at H
        have c4b0 : decide (x3_1 < (l0.length : Int)) = true := decide_eq_true c4
        clear c4
        by_cases c5 : x4_2 < ((rd_L1 l0 x3_1).length : Int)
        ·
         rw [if_pos c5] at H
         have c5b0 : decide (x4_2 < ((rd_L1 l0 x3_1).length : Int)) = true := decide_eq_true c5
         clear c5
         by_cases c6 : 0 ≤ x4_2
         ·
          rw [if_pos c6] at H
          have c6b0 : decide (0 ≤ x4_2) = true := decide_eq_true c6
          clear c6
          by_cases c7 : (rd (rd_L1 l0 x3_1) x4_2) = (-1152921504606846976)
          ·
           rw [if_pos c7] at H
           have c7b0 : ((rd (rd_L1 l0 x3_1) x4_2) == (-1152921504606846976)) = true := beq_iff_eq.mpr c7
           have c7b1 : ((rd (rd_L1 l0 x3_1) x4_2) != (-1152921504606846976)) = false := bne_eq_false_iff_eq.mpr c7
           clear c7
           have H' := Aside0.mk H
           clear H
           have p1093 : 0 ≤ (x3_1 : Int) := of_decide_eq_true (by first | (with_reducible assumption) | assumption)
           have q1093 : x3_1 < (l0.length : Int) := of_decide_eq_true (by first | (with_reducible assumption) | assumption)
           obtain ⟨ad1093, A1093_0, c1093_0, e1093, hx1093_0, hl1093_0, hi1093_0⟩ := at_L1 HR0.out x3_1 p1093 q1093
           cases e1093
           have HR1093_0 := Aside0.mk hi1093_0
           have HC1093_0 := Aside0.mk hl1093_0
           clear hi1093_0 hl1093_0
           replace p1093 := eq_true p1093
           replace q1093 := eq_true q1093
           have p1094 : 0 ≤ (x3_1 : Int) := of_decide_eq_true (by assumption)
           have q1094 : x3_1 < (l0.length : Int) := of_decide_eq_true (by assumption)
           obtain ⟨ad1094, A1094_0, c1094_0, e1094, hx1094_0, hl1094_0, hi1094_0⟩ := at_L1 HR0.out x3_1 p1094 q1094
           obtain rfl : ad1093 = ad1094 := (by injection e1094)
           have HR1094_0 := Aside0.mk hi1094_0
           have HC1094_0 := Aside0.mk hl1094_0
           clear hi1094_0 hl1094_0
           replace p1094 := eq_true p1094
           replace q1094 := eq_true q1094
           have ea_ := Option.some.inj (hx1093_0.symm.trans hx1094_0)
           injection ea_ with ea_ en_ ec_
           subst ea_
           subst ec_
           clear en_
           have p1095 : 0 ≤ (x4_2 : Int) := of_decide_eq_true (by assumption)
           have q1095 : x4_2 < ((rd_L1 l0 x3_1).length : Int) := of_decide_eq_true (by assumption)
           obtain ⟨ad1095, e1095, hx1095_0⟩ := Kd.at_int HR1094_0.out x4_2 p1095 q1095
           cases e1095
           replace p1095 := eq_true p1095
           replace q1095 := eq_true q1095
           go_wp2
           go_roundg k2
           case measure => have := HK1.out; have := HK2.out; omega
           case rel => exact ⟨(wrap64 (x4_2 + 1)), rfl, H', ⟨by have := HK1.out; have := HK2.out; omega⟩, by repeat (first | exact Drawn0.refl _ | apply Drawn0.step)⟩
          ·
           rw [if_neg c7] at H
           have c7b0 : ((rd (rd_L1 l0 x3_1) x4_2) == (-1152921504606846976)) = false := beq_eq_false_iff_ne.mpr c7
           by_cases c8 : (rd (rd_L1 l0 x3_1) x4_2) < (-1000)
           ·
            rw [if_pos c8] at H
            have c8b0 : decide ((rd (rd_L1 l0 x3_1) x4_2) < (-1000)) = true := decide_eq_true c8
            clear c8
            obtain rfl := Option.some.inj H
            have p1093 : 0 ≤ (x3_1 : Int) := of_decide_eq_true (by assumption)
            have q1093 : x3_1 < (l0.length : Int) := of_decide_eq_true (by assumption)
            obtain ⟨ad1093, A1093_0, c1093_0, e1093, hx1093_0, hl1093_0, hi1093_0⟩ := at_L1 HR0.out x3_1 p1093 q1093
            cases e1093
            have HR1093_0 := Aside0.mk hi1093_0
            have HC1093_0 := Aside0.mk hl1093_0
            clear hi1093_0 hl1093_0
            replace p1093 := eq_true p1093
            replace q1093 := eq_true q1093
            have p1094 : 0 ≤ (x3_1 : Int) := of_decide_eq_true (by assumption)
            have q1094 : x3_1 < (l0.length : Int) := of_decide_eq_true (by assumption)
            obtain ⟨ad1094, A1094_0, c1094_0, e1094, hx1094_0, hl1094_0, hi1094_0⟩ := at_L1 HR0.out x3_1 p1094 q1094
            obtain rfl : ad1093 = ad1094 := (by injection e1094)
            have HR1094_0 := Aside0.mk hi1094_0
            have HC1094_0 := Aside0.mk hl1094_0
            clear hi1094_0 hl1094_0
            replace p1094 := eq_true p1094
            replace q1094 := eq_true q1094
            have ea_ := Option.some.inj (hx1093_0.symm.trans hx1094_0)
            injection ea_ with ea_ en_ ec_
            subst ea_
            subst ec_
            clear en_
            have p1095 : 0 ≤ (x4_2 : Int) := of_decide_eq_true (by assumption)
            have q1095 : x4_2 < ((rd_L1 l0 x3_1).length : Int) := of_decide_eq_true (by assumption)
            obtain ⟨ad1095, e1095, hx1095_0⟩ := Kd.at_int HR1094_0.out x4_2 p1095 q1095
            cases e1095
            replace p1095 := eq_true p1095
            replace q1095 := eq_true q1095
            have p1096 : 0 ≤ (x3_1 : Int) := of_decide_eq_true (by assumption)
            have q1096 : x3_1 < (l0.length : Int) := of_decide_eq_true (by assumption)
            obtain ⟨ad1096, A1096_0, c1096_0, e1096, hx1096_0, hl1096_0, hi1096_0⟩ := at_L1 HR0.out x3_1 p1096 q1096
            obtain rfl : ad1093 = ad1096 := (by injection e1096)
            have HR1096_0 := Aside0.mk hi1096_0
            have HC1096_0 := Aside0.mk hl1096_0
            clear hi1096_0 hl1096_0
            replace p1096 := eq_true p1096
            replace q1096 := eq_true q1096
            have ea_ := Option.some.inj (hx1093_0.symm.trans hx1096_0)
            injection ea_ with ea_ en_ ec_
            subst ea_
            subst ec_
            clear en_
            have p1097 : 0 ≤ (x4_2 : Int) := of_decide_eq_true (by assumption)
            have q1097 : x4_2 < ((rd_L1 l0 x3_1).length : Int) := of_decide_eq_true (by assumption)
            obtain ⟨ad1097, e1097, hx1097_0⟩ := Kd.at_int HR1096_0.out x4_2 p1097 q1097
            cases e1097
            replace p1097 := eq_true p1097
            replace q1097 := eq_true q1097
            go_wp2
            go_ret
            exact ⟨by first | rfl | (simp; done) | (simp [*]; done), by repeat (first | exact Drawn0.refl _ | apply Drawn0.step)⟩
           ·
            rw [if_neg c8] at H
            have c8b0 : decide ((rd (rd_L1 l0 x3_1) x4_2) < (-1000)) = false := decide_eq_false c8
            clear c8
            by_cases c9 : (rd (rd_L1 l0 x3_1) x4_2) > 1000
            ·
             rw [if_pos c9] at H
             have c9b0 : decide (1000 < (rd (rd_L1 l0 x3_1) x4_2)) = true := decide_eq_true c9
             clear c9
             obtain rfl := Option.some.inj H
             have p1093 : 0 ≤ (x3_1 : Int) := of_decide_eq_true (by assumption)
             have q1093 : x3_1 < (l0.length : Int) := of_decide_eq_true (by assumption)
             obtain ⟨ad1093, A1093_0, c1093_0, e1093, hx1093_0, hl1093_0, hi1093_0⟩ := at_L1 HR0.out x3_1 p1093 q1093
             cases e1093
             have HR1093_0 := Aside0.mk hi1093_0
             have HC1093_0 := Aside0.mk hl1093_0
             clear hi1093_0 hl1093_0
             replace p1093 := eq_true p1093
             replace q1093 := eq_true q1093
             have p1094 : 0 ≤ (x3_1 : Int) := of_decide_eq_true (by assumption)
             have q1094 : x3_1 < (l0.length : Int) := of_decide_eq_true (by assumption)
             obtain ⟨ad1094, A1094_0, c1094_0, e1094, hx1094_0, hl1094_0, hi1094_0⟩ := at_L1 HR0.out x3_1 p1094 q1094
             obtain rfl : ad1093 = ad1094 := (by injection e1094)
             have HR1094_0 := Aside0.mk hi1094_0
             have HC1094_0 := Aside0.mk hl1094_0
             clear hi1094_0 hl1094_0
             replace p1094 := eq_true p1094
             replace q1094 := eq_true q1094
             have ea_ := Option.some.inj (hx1093_0.symm.trans hx1094_0)
             injection ea_ with ea_ en_ ec_
             subst ea_
             subst ec_
             clear en_
             have p1095 : 0 ≤ (x4_2 : Int) := of_decide_eq_true (by assumption)
             have q1095 : x4_2 < ((rd_L1 l0 x3_1).length : Int) := of_decide_eq_true (by assumption)
             obtain ⟨ad1095, e1095, hx1095_0⟩ := Kd.at_int HR1094_0.out x4_2 p1095 q1095
             cases e1095
             replace p1095 := eq_true p1095
             replace q1095 := eq_true q1095
             have p1096 : 0 ≤ (x3_1 : Int) := of_decide_eq_true (by assumption)
             have q1096 : x3_1 < (l0.length : Int) := of_decide_eq_true (by assumption)
             obtain ⟨ad1096, A1096_0, c1096_0, e1096, hx1096_0, hl1096_0, hi1096_0⟩ := at_L1 HR0.out x3_1 p1096 q1096
             obtain rfl : ad1093 = ad1096 := (by injection e1096)
             have HR1096_0 := Aside0.mk hi1096_0
             have HC1096_0 := Aside0.mk hl1096_0
             clear hi1096_0 hl1096_0
             replace p1096 := eq_true p1096
             replace q1096 := eq_true q1096
             have ea_ := Option.some.inj (hx1093_0.symm.trans hx1096_0)
             injection ea_ with ea_ en_ ec_
             subst ea_
             subst ec_
             clear en_
             have p1097 : 0 ≤ (x4_2 : Int) := of_decide_eq_true (by assumption)
             have q1097 : x4_2 < ((rd_L1 l0 x3_1).length : Int) := of_decide_eq_true (by assumption)
             obtain ⟨ad1097, e1097, hx1097_0⟩ := Kd.at_int HR1096_0.out x4_2 p1097 q1097
             cases e1097
             replace p1097 := eq_true p1097
             replace q1097 := eq_true q1097
             have p1098 : 0 ≤ (x3_1 : Int) := of_decide_eq_true (by assumption)
             have q1098 : x3_1 < (l0.length : Int) := of_decide_eq_true (by assumption)
             obtain ⟨ad1098, A1098_0, c1098_0, e1098, hx1098_0, hl1098_0, hi1098_0⟩ := at_L1 HR0.out x3_1 p1098 q1098
             obtain rfl : ad1093 = ad1098 := (by injection e1098)
             have HR1098_0 := Aside0.mk hi1098_0
             have HC1098_0 := Aside0.mk hl1098_0
             clear hi1098_0 hl1098_0
             replace p1098 := eq_true p1098
             replace q1098 := eq_true q1098
             have ea_ := Option.some.inj (hx1093_0.symm.trans hx1098_0)
             injection ea_ with ea_ en_ ec_
             subst ea_
             subst ec_
             clear en_
             have p1099 : 0 ≤ (x4_2 : Int) := of_decide_eq_true (by assumption)
             have q1099 : x4_2 < ((rd_L1 l0 x3_1).length : Int) := of_decide_eq_true (by assumption)
             obtain ⟨ad1099, e1099, hx1099_0⟩ := Kd.at_int HR1098_0.out x4_2 p1099 q1099
             cases e1099
             replace p1099 := eq_true p1099
             replace q1099 := eq_true q1099
             go_wp2
             go_ret
             exact ⟨by first | rfl | (simp; done) | (simp [*]; done), by repeat (first | exact Drawn0.refl _ | apply Drawn0.step)⟩
            ·
             rw [if_neg c9] at H
             have c9b0 : decide (1000 < (rd (rd_L1 l0 x3_1) x4_2)) = false := decide_eq_false c9
             clear c9
             have H' := Aside0.mk H
             clear H
             have p1093 : 0 ≤ (x3_1 : Int) := of_decide_eq_true (by assumption)
             have q1093 : x3_1 < (l0.length : Int) := of_decide_eq_true (by assumption)
             obtain ⟨ad1093, A1093_0, c1093_0, e1093, hx1093_0, hl1093_0, hi1093_0⟩ := at_L1 HR0.out x3_1 p1093 q1093
             cases e1093
             have HR1093_0 := Aside0.mk hi1093_0
             have HC1093_0 := Aside0.mk hl1093_0
             clear hi1093_0 hl1093_0
             replace p1093 := eq_true p1093
             replace q1093 := eq_true q1093
             have p1094 : 0 ≤ (x3_1 : Int) := of_decide_eq_true (by assumption)
             have q1094 : x3_1 < (l0.length : Int) := of_decide_eq_true (by assumption)
             obtain ⟨ad1094, A1094_0, c1094_0, e1094, hx1094_0, hl1094_0, hi1094_0⟩ := at_L1 HR0.out x3_1 p1094 q1094
             obtain rfl : ad1093 = ad1094 := (by injection e1094)
             have HR1094_0 := Aside0.mk hi1094_0
             have HC1094_0 := Aside0.mk hl1094_0
             clear hi1094_0 hl1094_0
             replace p1094 := eq_true p1094
             replace q1094 := eq_true q1094
             have ea_ := Option.some.inj (hx1093_0.symm.trans hx1094_0)
             injection ea_ with ea_ en_ ec_
             subst ea_
             subst ec_
             clear en_
             have p1095 : 0 ≤ (x4_2 : Int) := of_decide_eq_true (by assumption)
             have q1095 : x4_2 < ((rd_L1 l0 x3_1).length : Int) := of_decide_eq_true (by assumption)
             obtain ⟨ad1095, e1095, hx1095_0⟩ := Kd.at_int HR1094_0.out x4_2 p1095 q1095
             cases e1095
             replace p1095 := eq_true p1095
             replace q1095 := eq_true q1095
             have p1096 : 0 ≤ (x3_1 : Int) := of_decide_eq_true (by assumption)
             have q1096 : x3_1 < (l0.length : Int) := of_decide_eq_true (by assumption)
             obtain ⟨ad1096, A1096_0, c1096_0, e1096, hx1096_0, hl1096_0, hi1096_0⟩ := at_L1 HR0.out x3_1 p1096 q1096
             obtain rfl : ad1093 = ad1096 := (by injection e1096)
             have HR1096_0 := Aside0.mk hi1096_0
             have HC1096_0 := Aside0.mk hl1096_0
             clear hi1096_0 hl1096_0
             replace p1096 := eq_true p1096
             replace q1096 := eq_true q1096
             have ea_ := Option.some.inj (hx1093_0.symm.trans hx1096_0)
             injection ea_ with ea_ en_ ec_
             subst ea_
             subst ec_
             clear en_
             have p1097 : 0 ≤ (x4_2 : Int) := of_decide_eq_true (by assumption)
             have q1097 : x4_2 < ((rd_L1 l0 x3_1).length : Int) := of_decide_eq_true (by assumption)
             obtain ⟨ad1097, e1097, hx1097_0⟩ := Kd.at_int HR1096_0.out x4_2 p1097 q1097
             cases e1097
             replace p1097 := eq_true p1097
             replace q1097 := eq_true q1097
             have p1098 : 0 ≤ (x3_1 : Int) := of_decide_eq_true (by assumption)
             have q1098 : x3_1 < (l0.length : Int) := of_decide_eq_true (by assumption)
             obtain ⟨ad1098, A1098_0, c1098_0, e1098, hx1098_0, hl1098_0, hi1098_0⟩ := at_L1 HR0.out x3_1 p1098 q1098
             obtain rfl : ad1093 = ad1098 := (by injection e1098)
             have HR1098_0 := Aside0.mk hi1098_0
             have HC1098_0 := Aside0.mk hl1098_0
             clear hi1098_0 hl1098_0
             replace p1098 := eq_true p1098
             replace q1098 := eq_true q1098
             have ea_ := Option.some.inj (hx1093_0.symm.trans hx1098_0)
             injection ea_ with ea_ en_ ec_
             subst ea_
             subst ec_
             clear en_
             have p1099 : 0 ≤ (x4_2 : Int) := of_decide_eq_true (by assumption)
             have q1099 : x4_2 < ((rd_L1 l0 x3_1).length : Int) := of_decide_eq_true (by assumption)
             obtain ⟨ad1099, e1099, hx1099_0⟩ := Kd.at_int HR1098_0.out x4_2 p1099 q1099
             cases e1099
             replace p1099 := eq_true p1099
             replace q1099 := eq_true q1099
             go_wp2
             go_roundg k2
             case measure => have := HK1.out; have := HK2.out; omega
             case rel => exact ⟨(wrap64 (x4_2 + 1)), rfl, H', ⟨by have := HK1.out; have := HK2.out; omega⟩, by repeat (first | exact Drawn0.refl _ | apply Drawn0.step)⟩
         ·
          rw [if_neg c6] at H
          exact absurd H (by simp)
        ·
         rw [if_neg c5] at H
         have c5b0 : decide (x4_2 < ((rd_L1 l0 x3_1).length : Int)) = false := decide_eq_false c5
         clear c5
         have H' := Aside0.mk H
         clear H
         have p1093 : 0 ≤ (x3_1 : Int) := of_decide_eq_true (by assumption)
         have q1093 : x3_1 < (l0.length : Int) := of_decide_eq_true (by assumption)
         obtain ⟨ad1093, A1093_0, c1093_0, e1093, hx1093_0, hl1093_0, hi1093_0⟩ := at_L1 HR0.out x3_1 p1093 q1093
         cases e1093
         have HR1093_0 := Aside0.mk hi1093_0
         have HC1093_0 := Aside0.mk hl1093_0
         clear hi1093_0 hl1093_0
         replace p1093 := eq_true p1093
         replace q1093 := eq_true q1093
         go_wp2
         go_roundg k2
         case measure => have := HK1.out; have := HK2.out; omega
         case rel => exact ⟨(wrap64 (x3_1 + 1)), rfl, H', ⟨by have := HK1.out; have := HK2.out; omega⟩, by repeat (first | exact Drawn0.refl _ | apply Drawn0.step)⟩
       ·
        rw [if_neg c4] at H
        exact absurd H (by simp)
      ·
       rw [if_neg c3] at H
       exact absurd H (by simp)
   ·
    rw [if_neg c2] at H
    have c2b0 : decide (x3_1 < (l0.length : Int)) = false := decide_eq_false c2
    clear c2
    obtain rfl := Option.some.inj H
    go_wp2
    go_ret
    exact ⟨by first | rfl | (simp; done) | (simp [*]; done), by repeat (first | exact Drawn0.refl _ | apply Drawn0.step)⟩

def l5square.l0 : Nat → List (List Int) → Int → Int → Option (Bool)
 | 0, _, _, _ => none
 | k + 1, x0, x1, x5 => if x5 < (x0.length : Int) then (if 0 ≤ x5 then (if ((rd_L1 x0 x5).length : Int) = x1 then (l5square.l0 k x0 x1 (wrap64 (x5 + 1))) else (some false)) else (none)) else (some ((x0.length : Int) == x1))
def l5square.f (k : Nat) (l0 : List (List Int)) (a1 : Int) : Option (Bool) := l5square.l0 k l0 a1 0
theorem l5square.mono_l : ∀ k, (∀ y0 y1 y2, LeO (l5square.l0 k y0 y1 y2) (l5square.l0 (k + 1) y0 y1 y2))
 | 0 => fun _ _ _ r h => by simp [l5square.l0] at h
 | k + 1 => by
  have ih0 := l5square.mono_l k
  ·
   intro y0 y1 y2
   unfold l5square.l0
   repeat' first
   | (with_reducible exact ih0 _ _ _)
   | (with_reducible exact LeO.refl _)
   | (with_reducible exact LeO.none _)
   | (with_reducible refine LeO.ite ?_ ?_)
   | (with_reducible refine LeO.bind ?_ (fun _ => ?_))
   | exact ih0 _ _ _
   | exact LeO.none _
   | refine LeO.ite ?_ ?_
   | refine LeO.bind ?_ (fun _ => ?_)
theorem l5square.mono : ∀ a0 a1 k, LeO (l5square.f k a0 a1) (l5square.f (k + 1) a0 a1) := by
 intro a0 a1 k
 have ih0 := l5square.mono_l k
 unfold l5square.f
 repeat' first
   | exact ih0 _ _ _
   | exact LeO.none _
   | refine LeO.ite ?_ ?_
   | refine LeO.bind ?_ (fun _ => ?_)
set_option maxHeartbeats 8000000 in
set_option maxRecDepth 100000 in
theorem l5square.calls (k : Nat) (A0 : Option Addr) (c0 : Nat) (l0 : List (List Int)) (a1 : Int) (r : Bool) (w : World) (hr0 : Kd.C (Kd.slice 3 (Kd.int .i64)) w A0 l0.length l0) (hc0 : l0.length ≤ c0) (h : l5square.f k l0 a1 = some r) :
  Calls Try.prog 23 #[.slice A0 l0.length c0, .int .i64 a1] w fun e w' => e = .returned (.bool r) ∧ Drawn0 w w' := by
 have HR0 := Aside0.mk hr0
 have HC0 := Aside0.mk hc0
 clear hr0 hc0
 have H : (l5square.l0 k l0 a1 0) = some r := h
 clear h
 have H' := Aside0.mk H
 clear H
 go_enter Try.func23, Try.ntmps23
 go_wp2
 go_loopg [5] k (fun kq v5 w' => ∃ (x5_1 : Int), v5 = .int .i64 x5_1 ∧ Aside0 (l5square.l0 kq l0 a1 x5_1 = some r) ∧ Aside0 (kq ≤ k) ∧ Drawn0 w w')
 case atStart => exact ⟨(0), rfl, H', ⟨Nat.le_refl _⟩, by repeat (first | exact Drawn0.refl _ | apply Drawn0.step)⟩
 case round =>
  clear H'
  obtain ⟨x5_1, rfl, HA, HK1, ⟨m1, rfl⟩⟩ := hrel
  cases gk with
  | zero => exact absurd HA.out (by simp [l5square.l0])
  | succ k1 =>
   have H := HA.out
   clear HA
   simp only [l5square.l0] at H
   by_cases c3 : x5_1 < (l0.length : Int)
   ·
    rw [if_pos c3] at H
    have c3b0 : decide (x5_1 < (l0.length : Int)) = true := decide_eq_true c3
    clear c3
    by_cases c4 : 0 ≤ x5_1
    ·
     rw [if_pos c4] at H
     have c4b0 : decide (0 ≤ x5_1) = true := decide_eq_true c4
     clear c4
     by_cases c5 : ((rd_L1 l0 x5_1).length : Int) = a1
     ·
      rw [if_pos c5] at H
      have c5b0 : (((rd_L1 l0 x5_1).length : Int) == a1) = true := beq_iff_eq.mpr c5
      clear c5
      have H' := Aside0.mk H
      clear H
      have p663 : 0 ≤ (x5_1 : Int) := of_decide_eq_true (by assumption)
      have q663 : x5_1 < (l0.length : Int) := of_decide_eq_true (by assumption)
      obtain ⟨ad663, A663_0, c663_0, e663, hx663_0, hl663_0, hi663_0⟩ := at_L1 HR0.out x5_1 p663 q663
      cases e663
      have HR663_0 := Aside0.mk hi663_0
      have HC663_0 := Aside0.mk hl663_0
      clear hi663_0 hl663_0
      replace p663 := eq_true p663
      replace q663 := eq_true q663
      go_wp2
      go_roundg k1
      case measure => have := HK1.out; omega
      case rel => exact ⟨(wrap64 (x5_1 + 1)), rfl, H', ⟨by have := HK1.out; omega⟩, by repeat (first | exact Drawn0.refl _ | apply Drawn0.step)⟩
     ·
      rw [if_neg c5] at H
      have c5b0 : (((rd_L1 l0 x5_1).length : Int) == a1) = false := beq_eq_false_iff_ne.mpr c5
      obtain rfl := Option.some.inj H
      have p663 : 0 ≤ (x5_1 : Int) := of_decide_eq_true (by assumption)
      have q663 : x5_1 < (l0.length : Int) := of_decide_eq_true (by assumption)
      obtain ⟨ad663, A663_0, c663_0, e663, hx663_0, hl663_0, hi663_0⟩ := at_L1 HR0.out x5_1 p663 q663
      cases e663
      have HR663_0 := Aside0.mk hi663_0
      have HC663_0 := Aside0.mk hl663_0
      clear hi663_0 hl663_0
      replace p663 := eq_true p663
      replace q663 := eq_true q663
      go_wp2
      go_ret
      exact ⟨by first | rfl | (simp; done) | (simp [*]; done), by repeat (first | exact Drawn0.refl _ | apply Drawn0.step)⟩
    ·
     rw [if_neg c4] at H
     exact absurd H (by simp)
   ·
    rw [if_neg c3] at H
    have c3b0 : decide (x5_1 < (l0.length : Int)) = false := decide_eq_false c3
    clear c3
    obtain rfl := Option.some.inj H
    go_wp2
    go_ret
    exact ⟨by first | rfl | (simp; done) | (simp [*]; done), by repeat (first | exact Drawn0.refl _ | apply Drawn0.step)⟩

def l5plus.f (a0 : Int) (a1 : Int) : Option (Int) := if a0 = (-1152921504606846976) then (some (-1152921504606846976)) else (if a1 = (-1152921504606846976) then (some (-1152921504606846976)) else (some (wrap64 (a0 + a1))))
set_option maxHeartbeats 8000000 in
set_option maxRecDepth 100000 in
theorem l5plus.calls (a0 : Int) (a1 : Int) (r : Int) (w : World) (h : l5plus.f a0 a1 = some r) :
  Calls Try.prog 44 #[.int .i64 a0, .int .i64 a1] w fun e w' => e = .returned (.int .i64 r) ∧ Drawn0 w w' := by
 have H : (if a0 = (-1152921504606846976) then (some (-1152921504606846976)) else (if a1 = (-1152921504606846976) then (some (-1152921504606846976)) else (some (wrap64 (a0 + a1))))) = some r := h
 clear h
 by_cases c3 : a0 = (-1152921504606846976)
 ·
  rw [if_pos c3] at H
  have c3b0 : (a0 == (-1152921504606846976)) = true := beq_iff_eq.mpr c3
  clear c3
  obtain rfl := Option.some.inj H
  go_enter Try.func44, Try.ntmps44
  go_wp2
  go_ret
  exact ⟨by first | rfl | (simp; done) | (simp [*]; done), by repeat (first | exact Drawn0.refl _ | apply Drawn0.step)⟩
 ·
  rw [if_neg c3] at H
  have c3b0 : (a0 == (-1152921504606846976)) = false := beq_eq_false_iff_ne.mpr c3
  by_cases c4 : a1 = (-1152921504606846976)
  ·
   rw [if_pos c4] at H
   have c4b0 : (a1 == (-1152921504606846976)) = true := beq_iff_eq.mpr c4
   clear c4
   obtain rfl := Option.some.inj H
   go_enter Try.func44, Try.ntmps44
   go_wp2
   go_ret
   exact ⟨by first | rfl | (simp; done) | (simp [*]; done), by repeat (first | exact Drawn0.refl _ | apply Drawn0.step)⟩
  ·
   rw [if_neg c4] at H
   have c4b0 : (a1 == (-1152921504606846976)) = false := beq_eq_false_iff_ne.mpr c4
   obtain rfl := Option.some.inj H
   go_enter Try.func44, Try.ntmps44
   go_wp2
   go_ret
   exact ⟨by first | rfl | (simp; done) | (simp [*]; done), by repeat (first | exact Drawn0.refl _ | apply Drawn0.step)⟩

mutual
def l5product.l0 : Nat → List (List Int) → List (List Int) → List (List Int) → Int → Option ((List (List Int)))
 | 0, _, _, _, _ => none
 | k + 1, x0, x1, x5, x6 => if x6 < (x0.length : Int) then (l5product.l1 k x0 x1 x5 x6 ([] : List Int) 0) else (some x5)
def l5product.l1 : Nat → List (List Int) → List (List Int) → List (List Int) → Int → List Int → Int → Option ((List (List Int)))
 | 0, _, _, _, _, _, _ => none
 | k + 1, x0, x1, x5, x6, x7, x8 => if x8 < (x0.length : Int) then (l5product.l2 k x0 x1 x5 x6 x7 x8 (-1152921504606846976) 0) else (if x5.length < 5864062014805 then (l5product.l0 k x0 x1 (x5 ++ [x7]) (wrap64 (x6 + 1))) else (none))
def l5product.l2 : Nat → List (List Int) → List (List Int) → List (List Int) → Int → List Int → Int → Int → Int → Option ((List (List Int)))
 | 0, _, _, _, _, _, _, _, _ => none
 | k + 1, x0, x1, x5, x6, x7, x8, x9, x10 => if x10 < (x0.length : Int) then (if 0 ≤ x6 then (if x6 < (x0.length : Int) then (if 0 ≤ x10 then (if x10 < ((rd_L1 x0 x6).length : Int) then (if x10 < (x1.length : Int) then (if 0 ≤ x8 then (if x8 < ((rd_L1 x1 x10).length : Int) then ((l5plus.f (rd (rd_L1 x0 x6) x10) (rd (rd_L1 x1 x10) x8)).bind fun t671 => (l5product.l2 k x0 x1 x5 x6 x7 x8 (mx x9 t671) (wrap64 (x10 + 1)))) else (none)) else (none)) else (none)) else (none)) else (none)) else (none)) else (none)) else (if x7.length < 17592186044416 then (l5product.l1 k x0 x1 x5 x6 (x7 ++ [x9]) (wrap64 (x8 + 1))) else (none))
end
def l5product.f (k : Nat) (l0 : List (List Int)) (l1 : List (List Int)) : Option ((List (List Int))) := l5product.l0 k l0 l1 ([] : List (List Int)) 0
theorem l5product.mono_l : ∀ k, (∀ y0 y1 y2 y3, LeO (l5product.l0 k y0 y1 y2 y3) (l5product.l0 (k + 1) y0 y1 y2 y3)) ∧ (∀ y0 y1 y2 y3 y4 y5, LeO (l5product.l1 k y0 y1 y2 y3 y4 y5) (l5product.l1 (k + 1) y0 y1 y2 y3 y4 y5)) ∧ (∀ y0 y1 y2 y3 y4 y5 y6 y7, LeO (l5product.l2 k y0 y1 y2 y3 y4 y5 y6 y7) (l5product.l2 (k + 1) y0 y1 y2 y3 y4 y5 y6 y7))
 | 0 => ⟨fun _ _ _ _ r h => by simp [l5product.l0] at h, fun _ _ _ _ _ _ r h => by simp [l5product.l1] at h, fun _ _ _ _ _ _ _ _ r h => by simp [l5product.l2] at h⟩
 | k + 1 => by
  obtain ⟨ih0, ih1, ih2⟩ := l5product.mono_l k
  refine ⟨?_, ?_, ?_⟩
  ·
   intro y0 y1 y2 y3
   unfold l5product.l0
   repeat' first
   | (with_reducible exact LeO.refl _)
   | (with_reducible exact LeO.none _)
   | (with_reducible refine LeO.ite ?_ ?_)
   | (with_reducible refine LeO.bind ?_ (fun _ => ?_))
   | exact ih0 _ _ _ _
   | exact ih1 _ _ _ _ _ _
   | exact ih2 _ _ _ _ _ _ _ _
   | exact LeO.none _
   | refine LeO.ite ?_ ?_
   | refine LeO.bind ?_ (fun _ => ?_)
  ·
   intro y0 y1 y2 y3 y4 y5
   unfold l5product.l1
   repeat' first
   | (with_reducible exact LeO.refl _)
   | (with_reducible exact LeO.none _)
   | (with_reducible refine LeO.ite ?_ ?_)
   | (with_reducible refine LeO.bind ?_ (fun _ => ?_))
   | exact ih0 _ _ _ _
   | exact ih1 _ _ _ _ _ _
   | exact ih2 _ _ _ _ _ _ _ _
   | exact LeO.none _
   | refine LeO.ite ?_ ?_
   | refine LeO.bind ?_ (fun _ => ?_)
  ·
   intro y0 y1 y2 y3 y4 y5 y6 y7
   unfold l5product.l2
   repeat' first
   | (with_reducible exact LeO.refl _)
   | (with_reducible exact LeO.none _)
   | (with_reducible refine LeO.ite ?_ ?_)
   | (with_reducible refine LeO.bind ?_ (fun _ => ?_))
   | exact ih0 _ _ _ _
   | exact ih1 _ _ _ _ _ _
   | exact ih2 _ _ _ _ _ _ _ _
   | exact LeO.none _
   | refine LeO.ite ?_ ?_
   | refine LeO.bind ?_ (fun _ => ?_)
theorem l5product.mono : ∀ a0 a1 k, LeO (l5product.f k a0 a1) (l5product.f (k + 1) a0 a1) := by
 intro a0 a1 k
 obtain ⟨ih0, ih1, ih2⟩ := l5product.mono_l k
 unfold l5product.f
 repeat' first
   | (with_reducible exact LeO.refl _)
   | (with_reducible exact LeO.none _)
   | (with_reducible refine LeO.ite ?_ ?_)
   | (with_reducible refine LeO.bind ?_ (fun _ => ?_))
   | exact ih0 _ _ _ _
   | exact ih1 _ _ _ _ _ _
   | exact ih2 _ _ _ _ _ _ _ _
   | exact LeO.none _
   | refine LeO.ite ?_ ?_
   | refine LeO.bind ?_ (fun _ => ?_)
set_option maxHeartbeats 8000000 in
set_option maxRecDepth 100000 in
theorem l5product.calls (k : Nat) (A0 : Option Addr) (c0 : Nat) (l0 : List (List Int)) (A1 : Option Addr) (c1 : Nat) (l1 : List (List Int)) (r : List (List Int)) (w : World) (hr0 : Kd.C (Kd.slice 3 (Kd.int .i64)) w A0 l0.length l0) (hc0 : l0.length ≤ c0) (hr1 : Kd.C (Kd.slice 3 (Kd.int .i64)) w A1 l1.length l1) (hc1 : l1.length ≤ c1) (h : l5product.f k l0 l1 = some r) :
  Calls Try.prog 24 #[.slice A0 l0.length c0, .slice A1 l1.length c1] w fun e w' => ∃ v0_ : Value, e = .returned (v0_) ∧ Kd.S (Kd.slice 3 (Kd.int .i64)) 26 w' w.heap.size (fun _ => True) v0_ r ∧ Below w.heap.size w w' := by
 have HR0 := Aside0.mk hr0
 have HC0 := Aside0.mk hc0
 clear hr0 hc0
 have HR1 := Aside0.mk hr1
 have HC1 := Aside0.mk hc1
 clear hr1 hc1
 have HB := Aside0.mk (Below.refl w.heap.size w)
 have H : (l5product.l0 k l0 l1 ([] : List (List Int)) 0) = some r := h
 clear h
 have H' := Aside0.mk H
 clear H
 go_enter Try.func24, Try.ntmps24
 go_wp2
 go_loopg [5, 6] k (fun kq v5 v6 w' => ∃ (x5_1 : List (List Int)) (x6_1 : Int), v6 = .int .i64 x6_1 ∧ Aside0 (l5product.l0 kq l0 l1 x5_1 x6_1 = some r) ∧ Aside0 (kq ≤ k) ∧ Aside0 (Kd.S (Kd.slice 3 (Kd.int .i64)) 26 w' w.heap.size (fun _ => True) v5 x5_1) ∧ Aside0 (Below w.heap.size w w'))
 case atStart => exact ⟨(([] : List (List Int))), (0), rfl, H', ⟨Nat.le_refl _⟩, ⟨by first | exact Kd.S_nil _ _ _ _ _ | exact Kd.N_nil _ _ _ _ _ | exact Kd.V_nil _ _ _ _ _ | exact Kd.Q_nil _ _ _ _ _ | exact Kd.R_nil _ _ _ _ _⟩, ⟨HB.out⟩⟩
 case round =>
  clear H'
  obtain ⟨x5_1, x6_1, rfl, HA, HK1, HO_5, HB⟩ := hrel
  cases gk with
  | zero => exact absurd HA.out (by simp [l5product.l0])
  | succ k1 =>
   have H := HA.out
   clear HA
   simp only [l5product.l0] at H
   by_cases c3 : x6_1 < (l0.length : Int)
   ·
    rw [if_pos c3] at H
    have c3b0 : decide (x6_1 < (l0.length : Int)) = true := decide_eq_true c3
    clear c3
    have H' := Aside0.mk H
    clear H
    go_wp2
    go_loopg [7, 8] k1 (fun kq v7 v8 w' => ∃ (x7_2 : List Int) (x8_2 : Int), v8 = .int .i64 x8_2 ∧ Aside0 (l5product.l1 kq l0 l1 x5_1 x6_1 x7_2 x8_2 = some r) ∧ Aside0 (kq ≤ k1) ∧ Aside0 (Kd.S (Kd.slice 3 (Kd.int .i64)) 26 w' w.heap.size (fun k_ => some k_ ≠ (v7 : Value).ownBlock) u5 x5_1) ∧ Aside0 (Kd.R (Kd.int .i64) 3 w' w.heap.size (fun _ => True) v7 x7_2) ∧ Aside0 (Below w.heap.size w w'))
    case atStart => exact ⟨(([] : List Int)), (0), rfl, H', ⟨Nat.le_refl _⟩, ⟨by exact Kd.S_mono HO_5.out (fun _ hk => (by simp [Value.ownBlock]))⟩, ⟨by first | exact Kd.R_nil _ _ _ _ _ | exact Kd.N_nil _ _ _ _ _ | exact Kd.V_nil _ _ _ _ _ | exact Kd.Q_nil _ _ _ _ _ | exact Kd.S_nil _ _ _ _ _⟩, ⟨HB.out⟩⟩
    case round =>
     clear H'
     obtain ⟨x7_2, x8_2, rfl, HA, HK2, HO_5, HO_7, HB⟩ := hrel
     cases gk with
     | zero => exact absurd HA.out (by simp [l5product.l1])
     | succ k2 =>
      have H := HA.out
      clear HA
      simp only [l5product.l1] at H
      by_cases c4 : x8_2 < (l0.length : Int)
      ·
       rw [if_pos c4] at H
       have c4b0 : decide (x8_2 < (l0.length : Int)) = true := decide_eq_true c4
       clear c4
       have H' := Aside0.mk H
       clear H
       go_wp2
       go_loopg [9, 10] k2 (fun kq v9 v10 w' => ∃ (x9_3 : Int) (x10_3 : Int), v9 = .int .i64 x9_3 ∧ v10 = .int .i64 x10_3 ∧ Aside0 (l5product.l2 kq l0 l1 x5_1 x6_1 x7_2 x8_2 x9_3 x10_3 = some r) ∧ Aside0 (kq ≤ k2) ∧ Aside0 (Kd.S (Kd.slice 3 (Kd.int .i64)) 26 w' w.heap.size (fun k_ => some k_ ≠ (u7 : Value).ownBlock) u5 x5_1) ∧ Aside0 (Kd.R (Kd.int .i64) 3 w' w.heap.size (fun _ => True) u7 x7_2) ∧ Aside0 (Below w.heap.size w w'))
       case atStart => exact ⟨((-1152921504606846976)), (0), rfl, rfl, H', ⟨Nat.le_refl _⟩, ⟨by exact HO_5.out⟩, ⟨by exact HO_7.out⟩, ⟨HB.out⟩⟩
       case round =>
        clear H'
        obtain ⟨x9_3, x10_3, rfl, rfl, HA, HK3, HO_5, HO_7, HB⟩ := hrel
        cases gk with
        | zero => exact absurd HA.out (by simp [l5product.l2])
        | succ k3 =>
         have H := HA.out
         clear HA
         simp only [l5product.l2] at H
         by_cases c5 : x10_3 < (l0.length : Int)
         ·
          rw [if_pos c5] at H
          have c5b0 : decide (x10_3 < (l0.length : Int)) = true := decide_eq_true c5
          clear c5
          by_cases c6 : 0 ≤ x6_1
          ·
           rw [if_pos c6] at H
           have c6b0 : decide (0 ≤ x6_1) = true := decide_eq_true c6
           clear c6
           by_cases c7 : x6_1 < (l0.length : Int)
           ·
            rw [if_pos c7] at H
            have c7b0 : decide (x6_1 < (l0.length : Int)) = true := decide_eq_true c7
            clear c7
            by_cases c8 : 0 ≤ x10_3
            ·
             rw [if_pos c8] at H
             have c8b0 : decide (0 ≤ x10_3) = true := decide_eq_true c8
             clear c8
             by_cases c9 : x10_3 < ((rd_L1 l0 x6_1).length : Int)
             ·
              rw [if_pos c9] at H
              have c9b0 : decide (x10_3 < ((rd_L1 l0 x6_1).length : Int)) = true := decide_eq_true c9
              clear c9
              by_cases c10 : x10_3 < (l1.length : Int)
              ·
               rw [if_pos c10] at H
               have c10b0 : decide (x10_3 < (l1.length : Int)) = true := decide_eq_true c10
               clear c10
               by_cases c11 : 0 ≤ x8_2
               ·
                rw [if_pos c11] at H
                have c11b0 : decide (0 ≤ x8_2) = true := decide_eq_true c11
                clear c11
                by_cases c12 : x8_2 < ((rd_L1 l1 x10_3).length : Int)
                ·
                 rw [if_pos c12] at H
                 have c12b0 : decide (x8_2 < ((rd_L1 l1 x10_3).length : Int)) = true := decide_eq_true c12
                 clear c12
                 replace H := Option.bind_eq_some_iff.mp H
                 obtain ⟨t671, A130, H⟩ := H
                 replace H : (l5product.l2 k3 l0 l1 x5_1 x6_1 x7_2 x8_2 (mx x9_3 t671) (wrap64 (x10_3 + 1))) = some r := H
                 have A13 := Aside0.mk A130
                 clear A130
                 obtain ⟨ji14, hji14⟩ : ∃ j_ : Int, (mx x9_3 t671) = j_ := ⟨_, rfl⟩
                 replace H : (l5product.l2 k3 l0 l1 x5_1 x6_1 x7_2 x8_2 ji14 (wrap64 (x10_3 + 1))) = some r := by first | (rw [hji14] at H; exact H) | (simp only [hji14] at H ⊢; exact H)
                 (try rw [hji14] at A13)
                 have hji14_ : (if x9_3 < t671 then t671 else x9_3) = ji14 := hji14
                 have H' := Aside0.mk H
                 clear H
                 have p667 : 0 ≤ (x6_1 : Int) := of_decide_eq_true (by assumption)
                 have q667 : x6_1 < (l0.length : Int) := of_decide_eq_true (by assumption)
                 obtain ⟨ad667, A667_0, c667_0, e667, hx667_0, hl667_0, hi667_0⟩ := at_L1 HR0.out x6_1 p667 q667
                 cases e667
                 replace hx667_0 := (HB.out.cell (World.block_lt_of_cell? w _ hx667_0)).trans hx667_0
                 have HR667_0 := Aside0.mk hi667_0
                 have HC667_0 := Aside0.mk hl667_0
                 clear hi667_0 hl667_0
                 replace p667 := eq_true p667
                 replace q667 := eq_true q667
                 have p668 : 0 ≤ (x10_3 : Int) := of_decide_eq_true (by assumption)
                 have q668 : x10_3 < ((rd_L1 l0 x6_1).length : Int) := of_decide_eq_true (by assumption)
                 obtain ⟨ad668, e668, hx668_0⟩ := Kd.at_int HR667_0.out x10_3 p668 q668
                 cases e668
                 replace hx668_0 := (HB.out.cell (World.block_lt_of_cell? w _ hx668_0)).trans hx668_0
                 replace p668 := eq_true p668
                 replace q668 := eq_true q668
                 have p669 : 0 ≤ (x10_3 : Int) := of_decide_eq_true (by assumption)
                 have q669 : x10_3 < (l1.length : Int) := of_decide_eq_true (by assumption)
                 obtain ⟨ad669, A669_0, c669_0, e669, hx669_0, hl669_0, hi669_0⟩ := at_L1 HR1.out x10_3 p669 q669
                 cases e669
                 replace hx669_0 := (HB.out.cell (World.block_lt_of_cell? w _ hx669_0)).trans hx669_0
                 have HR669_0 := Aside0.mk hi669_0
                 have HC669_0 := Aside0.mk hl669_0
                 clear hi669_0 hl669_0
                 replace p669 := eq_true p669
                 replace q669 := eq_true q669
                 have p670 : 0 ≤ (x8_2 : Int) := of_decide_eq_true (by assumption)
                 have q670 : x8_2 < ((rd_L1 l1 x10_3).length : Int) := of_decide_eq_true (by assumption)
                 obtain ⟨ad670, e670, hx670_0⟩ := Kd.at_int HR669_0.out x8_2 p670 q670
                 cases e670
                 replace hx670_0 := (HB.out.cell (World.block_lt_of_cell? w _ hx670_0)).trans hx670_0
                 replace p670 := eq_true p670
                 replace q670 := eq_true q670
                 go_wp2_with (first | (go_at_call 44; (with_reducible refine (l5plus.calls (rd (rd_L1 l0 x6_1) x10_3) (rd (rd_L1 l1 x10_3) x8_2) t671 _ A13.out).mono ?_); rintro e w' ⟨rfl, ⟨nd, rfl⟩⟩; (try first | exact ⟨rfl, _, World.drewN_drewN _ _ _⟩ | exact ⟨rfl, _, Eq.trans (World.drewN_drewN _ _ _) (congrArg (World.drewN _) (Nat.add_assoc _ _ _))⟩)))
                 repeat (go_quiet (first | (go_at_call 44; (with_reducible refine (l5plus.calls (rd (rd_L1 l0 x6_1) x10_3) (rd (rd_L1 l1 x10_3) x8_2) t671 _ A13.out).mono ?_); rintro e w' ⟨rfl, ⟨nd, rfl⟩⟩; (try first | exact ⟨rfl, _, World.drewN_drewN _ _ _⟩ | exact ⟨rfl, _, Eq.trans (World.drewN_drewN _ _ _) (congrArg (World.drewN _) (Nat.add_assoc _ _ _))⟩))); try go_wp2_with (first | (go_at_call 44; (with_reducible refine (l5plus.calls (rd (rd_L1 l0 x6_1) x10_3) (rd (rd_L1 l1 x10_3) x8_2) t671 _ A13.out).mono ?_); rintro e w' ⟨rfl, ⟨nd, rfl⟩⟩; (try first | exact ⟨rfl, _, World.drewN_drewN _ _ _⟩ | exact ⟨rfl, _, Eq.trans (World.drewN_drewN _ _ _) (congrArg (World.drewN _) (Nat.add_assoc _ _ _))⟩))))
                 go_roundg k3
                 case measure => have := HK1.out; have := HK2.out; have := HK3.out; omega
                 case rel => exact ⟨(ji14), (wrap64 (x10_3 + 1)), (by first | rfl | (simp; done) | (simp only [← hji14] <;> (first | rfl | simp)) | (simp [*]; done)), rfl, H', ⟨by have := HK1.out; have := HK2.out; have := HK3.out; omega⟩, ⟨by exact HO_5.out⟩, ⟨by exact HO_7.out⟩, ⟨by repeat (first | exact HB.out | apply below_alloc | apply pw_below_drewN | apply below_drew1)⟩⟩
                ·
                 rw [if_neg c12] at H
                 exact absurd H (by simp)
               ·
                rw [if_neg c11] at H
                exact absurd H (by simp)
              ·
               rw [if_neg c10] at H
               exact absurd H (by simp)
             ·
              rw [if_neg c9] at H
              exact absurd H (by simp)
            ·
             rw [if_neg c8] at H
             exact absurd H (by simp)
           ·
            rw [if_neg c7] at H
            exact absurd H (by simp)
          ·
           rw [if_neg c6] at H
           exact absurd H (by simp)
         ·
          rw [if_neg c5] at H
          have c5b0 : decide (x10_3 < (l0.length : Int)) = false := decide_eq_false c5
          clear c5
          by_cases c15 : x7_2.length < 17592186044416
          ·
           rw [if_pos c15] at H
           have LMc15 := Aside0.mk c15
           clear c15
           obtain ⟨y672, hy672⟩ : ∃ y_ : List Int, y_ = (x7_2 ++ [x9_3]) := ⟨_, rfl⟩
           replace H : (l5product.l1 k3 l0 l1 x5_1 x6_1 y672 (wrap64 (x8_2 + 1))) = some r := by rw [hy672]; exact H
           have Ny672 := Aside0.mk hy672
           clear hy672
           have H' := Aside0.mk H
           clear H
           go_wp2_with (first | ((with_reducible refine gate_builtin (b := .append) (xs := #[.tmp 46, .tmp 48]) rfl ?_); at_builtin; refine Kd.R_append (Kd.int .i64) (w0 := w) w.heap.size rfl (.tmp 46) (.tmp 48) 26 3 (.int .i64 0) 8 rfl Try.underlying26 info3 rfl (by decide) (by omega) u7 x7_2 x9_3 [.int .i64 x9_3] (fun _ => True) (fun _ => False) rfl rfl ?aP (fun _ hk => hk.elim) ?aF ?aO ?aB ?aS ?aL ?_; (case aP => exact rfl); (case aB => exact (HB.out)); (case aF => exact (fun _ _ => trivial)); (case aO => exact (by exact HO_7.out)); (case aS => exact (below_size (HB.out))); (case aL => have := LMc15.out; omega); intro v673 w16 ho hb hg hat; rw [← Ny672.out] at ho; have n0_ := Aside0.mk (Kd.S_after (ok := (fun _ => True)) (by exact Kd.S_mono HO_5.out (fun _ hk => ⟨trivial, hk⟩)) hg hat); have n1_ := Aside0.mk (hb); have n2_ := Aside0.mk (ho); clear HO_5; clear HB; clear HO_7; have HO_5 := n0_; have HB := n1_; have HO674 := n2_; clear n0_ n1_ n2_; clear ho hb hg hat))
           go_roundg k3
           case measure => have := HK1.out; have := HK2.out; have := HK3.out; omega
           case rel => exact ⟨(y672), (wrap64 (x8_2 + 1)), rfl, H', ⟨by have := HK1.out; have := HK2.out; have := HK3.out; omega⟩, ⟨by exact Kd.S_mono HO_5.out (fun _ hk => hk.2)⟩, ⟨by exact HO674.out⟩, ⟨HB.out⟩⟩
          ·
           rw [if_neg c15] at H
           exact absurd H (by simp)
      ·
       rw [if_neg c4] at H
       have c4b0 : decide (x8_2 < (l0.length : Int)) = false := decide_eq_false c4
       clear c4
       by_cases c17 : x5_1.length < 5864062014805
       ·
        rw [if_pos c17] at H
        have LMc17 := Aside0.mk c17
        clear c17
        obtain ⟨y664, hy664⟩ : ∃ y_ : List (List Int), y_ = (x5_1 ++ [x7_2]) := ⟨_, rfl⟩
        replace H : (l5product.l0 k2 l0 l1 y664 (wrap64 (x6_1 + 1))) = some r := by rw [hy664]; exact H
        have Ny664 := Aside0.mk hy664
        clear hy664
        have H' := Aside0.mk H
        clear H
        obtain ⟨Ao19, co19, eo19⟩ := Kd.R_slice HO_7.out
        subst eo19
        go_wp2_with (first | ((with_reducible refine gate_builtin (b := .append) (xs := #[.tmp 50, .tmp 52]) rfl ?_); at_builtin; refine Kd.S_append (Kd.slice 3 (Kd.int .i64)) (w0 := w) w.heap.size rfl (.tmp 50) (.tmp 52) 22 26 (.slice none 0 0) 24 rfl Try.underlying22 info26 rfl (by decide) (by omega) u5 x5_1 x7_2 [.slice Ao19 x7_2.length co19] (fun _ => True) (fun k_ => some k_ = (.slice Ao19 x7_2.length co19 : Value).ownBlock) rfl rfl ?aP (fun k_ hk_ => ((Kd.R_mono (ok' := fun k_ => ((fun _ => True)) k_ ∧ some k_ ≠ (u5 : Value).ownBlock) (Kd.R_apart' (HO_7.out) (Kd.S_typed HO_5.out) (by decide)) (fun k_ hk => ⟨trivial, hk.2⟩))).1 k_ hk_.symm) ?aF ?aO ?aB ?aS ?aL ?_; (case aP => exact Kd.M_row (Kd.R_mono (Kd.R_tight rfl (Kd.R_mono (ok' := fun k_ => ((fun _ => True)) k_ ∧ some k_ ≠ (u5 : Value).ownBlock) (Kd.R_apart' (HO_7.out) (Kd.S_typed HO_5.out) (by decide)) (fun k_ hk => ⟨trivial, hk.2⟩))) (fun _ h_ => h_))); (case aB => exact (HB.out)); (case aF => exact (fun _ _ => trivial)); (case aO => exact (by exact Kd.S_mono HO_5.out (fun k_ hk => ⟨trivial, fun e_ => hk e_⟩))); (case aS => exact (below_size (HB.out))); (case aL => have := LMc17.out; omega); intro v665 w18 ho hb hg hat; rw [← Ny664.out] at ho; have n0_ := Aside0.mk (hb); have n1_ := Aside0.mk (ho); clear HB; clear HO_5; clear HO_7; have HB := n0_; have HO666 := n1_; clear n0_ n1_; clear ho hb hg hat))
        go_roundg k2
        case measure => have := HK1.out; have := HK2.out; omega
        case rel => exact ⟨(y664), (wrap64 (x6_1 + 1)), rfl, H', ⟨by have := HK1.out; have := HK2.out; omega⟩, ⟨by exact HO666.out⟩, ⟨HB.out⟩⟩
       ·
        rw [if_neg c17] at H
        exact absurd H (by simp)
   ·
    rw [if_neg c3] at H
    have c3b0 : decide (x6_1 < (l0.length : Int)) = false := decide_eq_false c3
    clear c3
    obtain rfl := Option.some.inj H
    go_wp2
    go_ret
    exact ⟨_, rfl, by exact HO_5.out, HB.out⟩
end Go.Proofs.Ythjmfbmffchicaa.V
