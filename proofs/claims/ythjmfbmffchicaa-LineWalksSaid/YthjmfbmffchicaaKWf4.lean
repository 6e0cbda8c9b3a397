/- Walks of functions that the law LineWalks reaches: each theorem '.calls' says that the call comes to what its printed plain function says, under the conditions that stand in it. -/
import Derived.Test.YthjmfbmffchicaaKWHub
import Derived.Test.YthjmfbmffchicaaKWf0
import Derived.Test.YthjmfbmffchicaaKWf2
import Derived.Test.YthjmfbmffchicaaKWf3
namespace Go.Proofs.Ythjmfbmffchicaa.V
open Go.RowKit Go.Proofs.YthjmfbmffchicaaW.PrintWords Go.Proofs.YthjmfbmffchicaaW.PrintLast Go.Proofs.YthjmfbmffchicaaW.PrintMore
attribute [local go_sem] max2_int min2_int max_two min_two max_three min_three max_four min_four
set_option linter.unusedVariables false
set_option linter.unusedSimpArgs false
mutual
def r5walks.l0 : Nat → List (List Int) → List (List Int) → List (List Int) → Int → Option ((List (List Int)))
 | 0, _, _, _, _ => none
 | k + 1, x0, x3, x4, x5 => if x5 < (x0.length : Int) then ((r5Product.f k x0 x4).bind fun t521 => (r5walks.l1 k x0 x3 t521 x5 0)) else (some x3)
def r5walks.l1 : Nat → List (List Int) → List (List Int) → List (List Int) → Int → Int → Option ((List (List Int)))
 | 0, _, _, _, _, _ => none
 | k + 1, x0, x3, x4, x5, x6 => if x6 < (x0.length : Int) then (r5walks.l2 k x0 x3 x4 x5 x6 0) else (r5walks.l0 k x0 x3 x4 (wrap64 (x5 + 1)))
def r5walks.l2 : Nat → List (List Int) → List (List Int) → List (List Int) → Int → Int → Int → Option ((List (List Int)))
 | 0, _, _, _, _, _, _ => none
 | k + 1, x0, x3, x4, x5, x6, x7 => if x7 < (x0.length : Int) then (if 0 ≤ x6 then (if x6 < (x3.length : Int) then (if 0 ≤ x7 then (if x7 < ((rd_L1 x3 x6).length : Int) then (if x6 < (x4.length : Int) then (if x7 < ((rd_L1 x4 x6).length : Int) then (r5walks.l2 k x0 (x3.set (x6 : Int).toNat ((rd_L1 x3 x6).set (x7 : Int).toNat (mx (rd (rd_L1 x3 x6) x7) (rd (rd_L1 x4 x6) x7)))) x4 x5 x6 (wrap64 (x7 + 1))) else (none)) else (none)) else (none)) else (none)) else (none)) else (none)) else (r5walks.l1 k x0 x3 x4 x5 (wrap64 (x6 + 1)))
end
def r5walks.f (k : Nat) (l0 : List (List Int)) : Option ((List (List Int))) := (r5One.f k (l0.length : Int)).bind fun t515 => ((r5One.f k (l0.length : Int)).bind fun t518 => (r5walks.l0 k l0 t515 t518 1))
def r5walks.T13 : Bool × List (List Nat × List Nat) := (true, [([], []), ([], []), ([0, 1], [0, 1]), ([2], [2]), ([], []), ([], []), ([], []), ([5, 6], [5, 6]), ([7], [7]), ([], []), ([8, 9], [8, 9]), ([10], [10]), ([], []), ([], []), ([12, 13], [12, 13]), ([14], [14]), ([], []), ([15, 16], [15, 16]), ([17], [17]), ([11, 18], [11, 18]), ([3, 4, 0, 1, 2, 3, 4, 5, 6, 7, 8, 9, 10, 11, 12, 13, 14, 15, 16, 17, 18, 19], [3, 4]), ([20, 19, 0, 1, 2, 3, 4, 5, 6, 7, 8, 9, 10, 11, 12, 13, 14, 15, 16, 17, 18, 19], [19, 20])])
def r5walks.B13 : List Nat := [0, 0, 3, 7, 0, 0, 0, 96, 224, 0, 992, 2016, 0, 0, 12288, 28672, 0, 126976, 258048, 524256, 1048575, 2097151]
theorem r5walks.tab13 : rtab .any (opsOf Try.f52 13) = r5walks.T13 := by kernel_rfl
theorem r5walks.bits13 : waitsOk r5walks.T13.2 r5walks.B13 = true := by kernel_rfl
set_option maxHeartbeats 8000000 in
set_option maxRecDepth 100000 in
theorem r5walks.calls (k : Nat) (A0 : Option Addr) (c0 : Nat) (l0 : List (List Int)) (r : List (List Int)) (w : World) (hr0 : Kd.C (Kd.slice 3 (Kd.int .i64)) w A0 l0.length l0) (hc0 : l0.length ≤ c0) (h : r5walks.f k l0 = some r) :
  Calls Try.prog 52 #[.slice A0 l0.length c0] w fun e w' => ∃ v0_ : Value, e = .returned (v0_) ∧ Kd.S (Kd.slice 3 (Kd.int .i64)) 26 w' w.heap.size (fun _ => True) v0_ r ∧ Below w.heap.size w w' := by
 have HR0 := xA.mk hr0
 have HC0 := xA.mk hc0
 clear hr0 hc0
 have HB := xA.mk (Below.refl w.heap.size w)
 have H : ((r5One.f k (l0.length : Int)).bind fun t515 => ((r5One.f k (l0.length : Int)).bind fun t518 => (r5walks.l0 k l0 t515 t518 1))) = some r := h
 clear h
 replace H := qq H
 obtain ⟨t515, A20, H⟩ := H
 replace H : ((r5One.f k (l0.length : Int)).bind fun t518 => (r5walks.l0 k l0 t515 t518 1)) = some r := H
 have A2 := xA.mk A20
 clear A20
 replace H := qq H
 obtain ⟨t518, A30, H⟩ := H
 replace H : (r5walks.l0 k l0 t515 t518 1) = some r := H
 have A3 := xA.mk A30
 clear A30
 have H' := xA.mk H
 clear H
 go_enter Try.func52, Try.ntmps52
 go_wp2_with (first | ((with_reducible refine xG (f := 61) rfl ?_); refine xP (some 10) rfl rfl Try.func61 (by kernel_rfl) rfl #[.int .i64 (l0.length : Int)] rfl qd ?_; (with_reducible refine (r5One.calls k (l0.length : Int) t515 _ A2.out).mono ?_); rintro e w4 ⟨v516, rfl, ho0, hb⟩; refine ⟨_, rfl, ?_⟩; have n0_ := xA.mk (Kd.xR (ok' := fun k_ => k_ < w4.heap.size) (Kd.S_bound (Kd.xZ ho0 (xB (HB.out)))) (fun k_ hk_ => hk_.2.2.1)); have HB4 := xA.mk (Below.refl w.heap.size w4); have n1_ := xA.mk (xE (HB.out) hb); clear HB; have HO517 := n0_; have HB := n1_; clear n0_ n1_) | ((with_reducible refine xG (f := 61) rfl ?_); refine xP (some 13) rfl rfl Try.func61 (by kernel_rfl) rfl #[.int .i64 (l0.length : Int)] rfl qd ?_; (with_reducible refine (r5One.calls k (l0.length : Int) t518 _ A3.out).mono ?_); rintro e w5 ⟨v519, rfl, ho0, hb⟩; refine ⟨_, rfl, ?_⟩; have n0_ := xA.mk (Kd.S_below (by exact HO517.out) hb); have n1_ := xA.mk (Kd.xZ ho0 ((by repeat (first | exact HB4.out | apply xD | apply xH) : Below w.heap.size w4 _).size)); have n2_ := xA.mk (xE (HB.out) hb); replace HB4 := xA.mk (below_then (by repeat (first | exact HB4.out | apply xD | apply xH)) (xB (HB.out)) hb); clear HO517; clear HB; have HO517 := n0_; have HO520 := n1_; have HB := n2_; clear n0_ n1_ n2_))
 go_loopg [4, 5] k (fun kq v4 v5 w' => ∃ (x3_1 : List (List Int)) (x4_1 : List (List Int)) (x5_1 : Int), v5 = .int .i64 x5_1 ∧ xA (r5walks.l0 kq l0 x3_1 x4_1 x5_1 = some r) ∧ xA (kq ≤ k) ∧ xA (Kd.S (Kd.slice 3 (Kd.int .i64)) 26 w' w.heap.size (fun k_ => k_ < w4.heap.size) v516 x3_1) ∧ xA (Kd.S (Kd.slice 3 (Kd.int .i64)) 26 w' w4.heap.size (fun _ => True) v4 x4_1) ∧ xA (Below w.heap.size w w') ∧ xA (Below w.heap.size w4 w'))
 case atStart => exact ⟨(t515), (t518), (1), rfl, H', ⟨Nat.le_refl _⟩, ⟨by exact HO517.out⟩, ⟨by exact HO520.out⟩, ⟨HB.out⟩, ⟨by repeat (first | exact HB4.out | apply xD | apply xH)⟩⟩
 case round =>
  clear H'
  obtain ⟨x3_1, x4_1, x5_1, rfl, HA, HK1, HO_3, HO_4, HB, HB4⟩ := hrel
  obtain _ | k1 := gk
  · exact absurd HA.out (by simp [r5walks.l0])
  have H := HA.out
  clear HA
  simp only [r5walks.l0] at H
  by_cases c6 : x5_1 < (l0.length : Int)
  rotate_left
  ·
   rw [if_neg c6] at H
   have c6b0 : decide (x5_1 < (l0.length : Int)) = false := qp c6
   clear c6
   obtain rfl := qr H
   go_wp2
   go_ret
   exact ⟨_, rfl, by exact Kd.xR HO_3.out (fun _ _ => trivial), HB.out⟩
  rw [if_pos c6] at H
  have c6b0 : decide (x5_1 < (l0.length : Int)) = true := qo c6
  clear c6
  replace H := qq H
  obtain ⟨t521, A70, H⟩ := H
  replace H : (r5walks.l1 k1 l0 x3_1 t521 x5_1 0) = some r := H
  have A7 := xA.mk A70
  clear A70
  have H' := xA.mk H
  clear H
  obtain ⟨Ao8, co8, eo8⟩ := Kd.yA HO_4.out
  subst eo8
  go_wp2_with (first | ((with_reducible refine xG (f := 62) rfl ?_); refine xP (some 22) rfl rfl Try.func62 (by kernel_rfl) rfl #[.slice A0 l0.length c0, .slice Ao8 x4_1.length co8] rfl qd ?_; (with_reducible refine (r5Product.calls k1 _ _ l0 _ _ x4_1 t521 _ ?side1 ?side2 ?side3 ?side4 A7.out).mono ?_); (case side1 => repeat (first | exact (Kd.xW HR0.out HB.out))); (case side2 => exact HC0.out); (case side3 => repeat (first | exact (Kd.xN HO_4.out).2.2)); (case side4 => exact (Kd.xN HO_4.out).2.1); rintro e w9 ⟨v522, rfl, ho0, hb⟩; refine ⟨_, rfl, ?_⟩; have n0_ := xA.mk (Kd.S_below (by exact HO_3.out) hb); have n1_ := xA.mk (Kd.yB (by exact HO_4.out) (Kd.S_base ho0) hb); have n2_ := xA.mk (Kd.xZ (Kd.S_new' ho0 (Kd.S_lt (by exact HO_4.out))) ((by repeat (first | exact HB4.out | apply xD | apply xH) : Below w.heap.size w4 _).size)); have n3_ := xA.mk (xE (HB.out) hb); replace HB4 := xA.mk (below_then (by repeat (first | exact HB4.out | apply xD | apply xH)) (xB (HB.out)) hb); clear HO_3; clear HO_4; clear HB; have HO_3 := n0_; have HO_4 := n1_; have HO523 := n2_; have HB := n3_; clear n0_ n1_ n2_ n3_))
  go_loopg [6] k1 (fun kq v6 w' => ∃ (x3_2 : List (List Int)) (x6_2 : Int), v6 = .int .i64 x6_2 ∧ xA (r5walks.l1 kq l0 x3_2 t521 x5_1 x6_2 = some r) ∧ xA (kq ≤ k1) ∧ xA (Kd.S (Kd.slice 3 (Kd.int .i64)) 26 w' w.heap.size (fun k_ => k_ < w4.heap.size) v516 x3_2) ∧ xA (Kd.S (Kd.slice 3 (Kd.int .i64)) 26 w' w4.heap.size (fun _ => True) v522 t521) ∧ xA (Below w.heap.size w w') ∧ xA (Below w.heap.size w4 w'))
  case atStart => exact ⟨(x3_1), (0), rfl, H', ⟨Nat.le_refl _⟩, ⟨by exact HO_3.out⟩, ⟨by exact Kd.xR HO523.out (fun _ hk => trivial)⟩, ⟨HB.out⟩, ⟨by repeat (first | exact HB4.out | apply xD | apply xH)⟩⟩
  case round =>
   clear H'
   obtain ⟨x3_2, x6_2, rfl, HA, HK2, HO_3, HO_4, HB, HB4⟩ := hrel
   obtain _ | k2 := gk
   · exact absurd HA.out (by simp [r5walks.l1])
   have H := HA.out
   clear HA
   simp only [r5walks.l1] at H
   by_cases c10 : x6_2 < (l0.length : Int)
   rotate_left
   ·
    rw [if_neg c10] at H
    have c10b0 : decide (x6_2 < (l0.length : Int)) = false := qp c10
    clear c10
    have H' := xA.mk H
    clear H
    go_wp2
    go_roundg k2
    case measure => have := HK1.out; have := HK2.out; omega
    case rel => exact ⟨(x3_2), (t521), (wrap64 (x5_1 + 1)), rfl, H', ⟨by have := HK1.out; have := HK2.out; omega⟩, ⟨by exact HO_3.out⟩, ⟨by exact HO_4.out⟩, ⟨HB.out⟩, ⟨by repeat (first | exact HB4.out | apply xD | apply xH)⟩⟩
   rw [if_pos c10] at H
   have c10b0 : decide (x6_2 < (l0.length : Int)) = true := qo c10
   clear c10
   have H' := xA.mk H
   clear H
   go_wp2
   go_loopg [7] k2 (fun kq v7 w' => ∃ (x3_3 : List (List Int)) (x7_3 : Int), v7 = .int .i64 x7_3 ∧ xA (r5walks.l2 kq l0 x3_3 t521 x5_1 x6_2 x7_3 = some r) ∧ xA (kq ≤ k2) ∧ xA (Kd.S (Kd.slice 3 (Kd.int .i64)) 26 w' w.heap.size (fun k_ => k_ < w4.heap.size) v516 x3_3) ∧ xA (Kd.S (Kd.slice 3 (Kd.int .i64)) 26 w' w4.heap.size (fun _ => True) v522 t521) ∧ xA (Below w.heap.size w w') ∧ xA (Below w.heap.size w4 w'))
   case atStart => exact ⟨(x3_2), (0), rfl, H', ⟨Nat.le_refl _⟩, ⟨by exact HO_3.out⟩, ⟨by exact HO_4.out⟩, ⟨HB.out⟩, ⟨by repeat (first | exact HB4.out | apply xD | apply xH)⟩⟩
   case round =>
    clear H'
    obtain ⟨x3_3, x7_3, rfl, HA, HK3, HO_3, HO_4, HB, HB4⟩ := hrel
    obtain _ | k3 := gk
    · exact absurd HA.out (by simp [r5walks.l2])
    have H := HA.out
    clear HA
    simp only [r5walks.l2] at H
    by_cases c11 : x7_3 < (l0.length : Int)
    rotate_left
    ·
     rw [if_neg c11] at H
     have c11b0 : decide (x7_3 < (l0.length : Int)) = false := qp c11
     clear c11
     have H' := xA.mk H
     clear H
     go_wp2
     go_roundg k3
     case measure => have := HK1.out; have := HK2.out; have := HK3.out; omega
     case rel => exact ⟨(x3_3), (wrap64 (x6_2 + 1)), rfl, H', ⟨by have := HK1.out; have := HK2.out; have := HK3.out; omega⟩, ⟨by exact HO_3.out⟩, ⟨by exact HO_4.out⟩, ⟨HB.out⟩, ⟨by repeat (first | exact HB4.out | apply xD | apply xH)⟩⟩
    rw [if_pos c11] at H
    have c11b0 : decide (x7_3 < (l0.length : Int)) = true := qo c11
    clear c11
    obtain ⟨c12b0, H⟩ := xO H
    obtain ⟨c13b0, H⟩ := xO H
    obtain ⟨c14b0, H⟩ := xO H
    obtain ⟨c15b0, H⟩ := xO H
    obtain ⟨c16b0, H⟩ := xO H
    obtain ⟨c17b0, H⟩ := xO H
    obtain ⟨ji18, hji18⟩ : ∃ j_ : Int, (mx (rd (rd_L1 x3_3 x6_2) x7_3) (rd (rd_L1 t521 x6_2) x7_3)) = j_ := ⟨_, rfl⟩
    replace H : (r5walks.l2 k3 l0 (x3_3.set (x6_2 : Int).toNat ((rd_L1 x3_3 x6_2).set (x7_3 : Int).toNat (ji18))) t521 x5_1 x6_2 (wrap64 (x7_3 + 1))) = some r := by first | (rw [hji18] at H; exact H) | (simp only [hji18] at H ⊢; exact H)
    have hji18_ : (if (rd (rd_L1 x3_3 x6_2) x7_3) < (rd (rd_L1 t521 x6_2) x7_3) then (rd (rd_L1 t521 x6_2) x7_3) else (rd (rd_L1 x3_3 x6_2) x7_3)) = ji18 := hji18
    obtain ⟨y529, hy529⟩ : ∃ y_ : List Int, y_ = ((rd_L1 x3_3 x6_2).set (x7_3 : Int).toNat (ji18)) := ⟨_, rfl⟩
    replace H : (r5walks.l2 k3 l0 (x3_3.set (x6_2 : Int).toNat y529) t521 x5_1 x6_2 (wrap64 (x7_3 + 1))) = some r := by rw [hy529]; exact H
    have Ny529 := xA.mk hy529
    clear hy529
    obtain ⟨y531, hy531⟩ : ∃ y_ : List (List Int), y_ = (x3_3.set (x6_2 : Int).toNat y529) := ⟨_, rfl⟩
    replace H : (r5walks.l2 k3 l0 y531 t521 x5_1 x6_2 (wrap64 (x7_3 + 1))) = some r := by rw [hy531]; exact H
    have Ny531 := xA.mk hy531
    clear hy531
    have H' := xA.mk H
    clear H
    try go_wp2
    have n0_ := xA.mk (Kd.S_drew HO_3.out)
    have n1_ := xA.mk (Kd.S_drew HO_4.out)
    have n2_ := xA.mk (xH HB.out)
    have n5_ := xA.mk (xH HB4.out)
    clear HO_3
    clear HO_4
    clear HB
    have HO_3 := n0_
    have HO_4 := n1_
    have HB := n2_
    clear HB4
    have HB4 := n5_
    clear n5_
    clear n0_ n1_ n2_
    obtain ⟨Ao21, co21, eo21⟩ := Kd.yA HO_3.out
    (first | subst eo21 | (injection eo21 with f1_ f2_ f3_; have f4_ := f1_.symm; have f5_ := f3_.symm; clear f1_ f2_ f3_; subst f4_; subst f5_))
    have p524 : 0 ≤ (x6_2 : Int) := qn (by assumption)
    have q524 : x6_2 < (x3_3.length : Int) := qn (by assumption)
    obtain ⟨ad524, A524_0, c524_0, e524, hx524_0, hl524_0, hi524_0⟩ := at_L1 (Kd.xN HO_3.out).2.2 x6_2 p524 q524
    cases e524
    obtain ⟨ce524, hce524, hMe524, hcc524⟩ := Kd.S_get HO_3.out [] x6_2 p524 (by first | exact q524 | exact qn (by assumption) | (have e_ := (Kd.xN HO_3.out).1; omega))
    obtain ⟨ve524_0, rfl, ge524_0⟩ := hMe524
    have hv524_0 := hcc524 0 _ rfl
    rw [Nat.add_zero, show ((Kd.slice 3 (Kd.int .i64))).sz = 1 from rfl, Nat.mul_one] at hv524_0
    replace hv524_0 := qr (hv524_0.symm.trans hx524_0)
    rw [hv524_0] at ge524_0
    have HL524_0 := xA.mk (show Kd.R (Kd.int .i64) 3 _ _ _ _ (rd_L1 x3_3 x6_2) from ge524_0)
    clear hv524_0 ge524_0
    have HX524_0 := xA.mk hx524_0
    clear hcc524 hce524
    have HR524_0 := xA.mk hi524_0
    have HC524_0 := xA.mk hl524_0
    clear hi524_0 hl524_0
    replace p524 := eq_true p524
    replace q524 := eq_true q524
    have p525 : 0 ≤ (x6_2 : Int) := qn (by assumption)
    have q525 : x6_2 < (x3_3.length : Int) := qn (by assumption)
    obtain ⟨ad525, A525_0, c525_0, e525, hx525_0, hl525_0, hi525_0⟩ := at_L1 (Kd.xN HO_3.out).2.2 x6_2 p525 q525
    obtain rfl : ad524 = ad525 := (by injection e525)
    obtain ⟨ce525, hce525, hMe525, hcc525⟩ := Kd.S_get HO_3.out [] x6_2 p525 (by first | exact q525 | exact qn (by assumption) | (have e_ := (Kd.xN HO_3.out).1; omega))
    obtain ⟨ve525_0, rfl, ge525_0⟩ := hMe525
    have hv525_0 := hcc525 0 _ rfl
    rw [Nat.add_zero, show ((Kd.slice 3 (Kd.int .i64))).sz = 1 from rfl, Nat.mul_one] at hv525_0
    replace hv525_0 := qr (hv525_0.symm.trans hx525_0)
    rw [hv525_0] at ge525_0
    have HL525_0 := xA.mk (show Kd.R (Kd.int .i64) 3 _ _ _ _ (rd_L1 x3_3 x6_2) from ge525_0)
    clear hv525_0 ge525_0
    have HX525_0 := xA.mk hx525_0
    clear hcc525 hce525
    have HR525_0 := xA.mk hi525_0
    have HC525_0 := xA.mk hl525_0
    clear hi525_0 hl525_0
    replace p525 := eq_true p525
    replace q525 := eq_true q525
    have ea_ := qr (hx524_0.symm.trans hx525_0)
    injection ea_ with ea_ en_ ec_
    subst ea_
    subst ec_
    clear en_
    have p526 : 0 ≤ (x7_3 : Int) := qn (by assumption)
    have q526 : x7_3 < ((rd_L1 x3_3 x6_2).length : Int) := qn (by assumption)
    obtain ⟨ad526, e526, hx526_0⟩ := Kd.xU (by repeat (first | (with_reducible exact HR525_0.out) | exact HR525_0.out)) x7_3 p526 q526
    cases e526
    replace p526 := eq_true p526
    replace q526 := eq_true q526
    obtain ⟨Ao22, co22, eo22⟩ := Kd.yA HO_4.out
    (first | subst eo22 | (injection eo22 with f1_ f2_ f3_; have f4_ := f1_.symm; have f5_ := f3_.symm; clear f1_ f2_ f3_; subst f4_; subst f5_))
    have p527 : 0 ≤ (x6_2 : Int) := qn (by assumption)
    have q527 : x6_2 < (t521.length : Int) := qn (by assumption)
    obtain ⟨ad527, A527_0, c527_0, e527, hx527_0, hl527_0, hi527_0⟩ := at_L1 (Kd.xN HO_4.out).2.2 x6_2 p527 q527
    cases e527
    obtain ⟨ce527, hce527, hMe527, hcc527⟩ := Kd.S_get HO_4.out [] x6_2 p527 (by first | exact q527 | exact qn (by assumption) | (have e_ := (Kd.xN HO_4.out).1; omega))
    obtain ⟨ve527_0, rfl, ge527_0⟩ := hMe527
    have hv527_0 := hcc527 0 _ rfl
    rw [Nat.add_zero, show ((Kd.slice 3 (Kd.int .i64))).sz = 1 from rfl, Nat.mul_one] at hv527_0
    replace hv527_0 := qr (hv527_0.symm.trans hx527_0)
    rw [hv527_0] at ge527_0
    have HL527_0 := xA.mk (show Kd.R (Kd.int .i64) 3 _ _ _ _ (rd_L1 t521 x6_2) from ge527_0)
    clear hv527_0 ge527_0
    have HX527_0 := xA.mk hx527_0
    clear hcc527 hce527
    have HR527_0 := xA.mk hi527_0
    have HC527_0 := xA.mk hl527_0
    clear hi527_0 hl527_0
    replace p527 := eq_true p527
    replace q527 := eq_true q527
    have p528 : 0 ≤ (x7_3 : Int) := qn (by assumption)
    have q528 : x7_3 < ((rd_L1 t521 x6_2).length : Int) := qn (by assumption)
    obtain ⟨ad528, e528, hx528_0⟩ := Kd.xU (by repeat (first | (with_reducible exact HR527_0.out) | exact HR527_0.out)) x7_3 p528 q528
    cases e528
    replace p528 := eq_true p528
    replace q528 := eq_true q528
    have p19 : 0 ≤ (x7_3 : Int) := qn (by assumption)
    have q19 : (x7_3 : Int) < (((rd_L1 x3_3 x6_2).length : Int) : Int) := qn (by assumption)
    obtain ⟨go19, co19, eo19, gb19, gl19, cl19, HG19⟩ := Kd.R_form HL524_0.out (by omega)
    (first | cases eo19 | (injection eo19 with ea_ en_ ec_; (first | subst ea_ | (injection ea_ with ea_; subst ea_)); subst ec_; clear en_))
    have GB19 := xA.mk gb19
    have GG19 := xA.mk HG19
    have HGO := xA.mk (show go19 < w4.heap.size from (HL524_0.out.1 go19 rfl).1)
    clear gb19 gl19 HG19
    (first | simp only [add_plain] at hx526_0 | skip)
    obtain ⟨hx19_0, hf19_0⟩ := Kd.R_celln 0 HL524_0.out (x7_3 : Int) p19 q19
    replace p19 := eq_true p19
    replace q19 := eq_true q19
    have hq23 : (x6_2 : Int) < (x3_3.length : Int) := (by have h_ : (x6_2 : Int) < ((x3_3.length : Int) : Int) := qn (by assumption); first | exact h_ | (have e_ := (Kd.xN HO_3.out).1; omega) | simpa only [List.length_set, List.length_set] using h_)
    obtain ⟨oki23, ce23, hcl23, hM23, hcc23, hok23, hbk23⟩ := Kd.S_borrow HO_3.out [] (x6_2 : Int) (qn (by assumption)) hq23
    obtain ⟨ve23_0, rfl, ge23_0⟩ := hM23
    have hv23 := hcc23 0 _ rfl
    rw [Nat.add_zero, show ((Kd.slice 3 (Kd.int .i64))).sz = 1 from rfl, Nat.mul_one] at hv23
    replace hv23 := qr (hv23.symm.trans HX524_0.out)
    subst hv23
    clear hcc23 hcl23
    replace ge23_0 := (show Kd.R (Kd.int .i64) 3 _ _ _ _ (rd_L1 x3_3 x6_2) from ge23_0)
    have HP23 := Kd.R_putg ge23_0 (x7_3 : Int) ji18
    rw [← Ny529.out] at HP23
    have HS23 := hbk23 HP23.2 (fun k_ e_ => by injection e_ with e_; subst e_; exact ge23_0.1 _ rfl) (x' := y529) (Kd.M_row HP23.1)
    rw [← Ny531.out] at HS23
    have HQ23 := xA.mk HS23
    clear HP23 HS23 hbk23 hok23
    refine start_ (n := 22) (S := fun w' => w'.cell? (ad524.add (x6_2).toNat) = some (.slice (some ⟨go19, 0, none⟩) (rd_L1 x3_3 x6_2).length c524_0) ∧ w'.cell? (ad524.add (x6_2).toNat) = some (.slice (some ⟨go19, 0, none⟩) (rd_L1 x3_3 x6_2).length c524_0) ∧ w'.cell? ⟨go19, (x7_3).toNat, none⟩ = some (.int .i64 (rd (rd_L1 x3_3 x6_2) x7_3)) ∧ w'.cell? (ad527.add (x6_2).toNat) = some (.slice (some ad528) (rd_L1 t521 x6_2).length c527_0) ∧ w'.cell? (ad528.add (x7_3).toNat) = some (.int .i64 (rd (rd_L1 t521 x6_2) x7_3))) (ds := [21]) #[false, false, false, false, false, false, false, false, false, false, false, false, false, false, false, false, false, false, false, false, false, false] (by kernel_rfl) rfl rfl ⟨hx524_0, hx525_0, hx526_0, hx527_0, hx528_0⟩ (fun hHeld => ?_); refine with_tabW r5walks.tab13 r5walks.bits13 (fun HT_ HW_ => ?_)
    generalize wr.drew = w20 at HO_3 HO_4 HB HB4 GG19 HL524_0 HL525_0 HL527_0 HQ23 HR524_0 HR525_0 HR527_0 HX524_0 HX525_0 HX527_0 hf19_0 hx19_0 hx524_0 hx525_0 hx526_0 hx527_0 hx528_0 hHeld ⊢
    refine pure_ (i := 0) (N := some 35) (v := ?_) (a' := ?_) #[true, false, false, false, false, false, false, false, false, false, false, false, false, false, false, false, false, false, false, false, false, false] rfl rfl (xQ HT_.out (by kernel_rfl)) (fun _ _ _ h => h) (Or.inl ⟨by rfl, ?_⟩) ?_ ?_
    rotate_left
    ·
     intro w'
     go_simp
     with_reducible rfl
    rotate_left
    ·
     simp only [Act.put, qt, qu, qv, i64_w, i32_w]
     rfl
    refine pure_ (i := 1) (N := some 36) (v := ?_) (a' := ?_) #[true, true, false, false, false, false, false, false, false, false, false, false, false, false, false, false, false, false, false, false, false, false] rfl rfl (xQ HT_.out (by kernel_rfl)) (fun _ _ _ h => h) (Or.inl ⟨by rfl, ?_⟩) ?_ ?_
    rotate_left
    ·
     intro w'
     go_simp
     with_reducible rfl
    rotate_left
    ·
     simp only [Act.put, qt, qu, qv, i64_w, i32_w]
     rfl
    refine pure_ (i := 2) (N := some 37) (v := ?_) (a' := ?_) #[true, true, true, false, false, false, false, false, false, false, false, false, false, false, false, false, false, false, false, false, false, false] rfl rfl (xQ HT_.out (by kernel_rfl)) (fun _ _ _ h => h) (Or.inl ⟨by rfl, ?_⟩) ?_ ?_
    rotate_left
    ·
     intro w'
     go_simp
     with_reducible rfl
    rotate_left
    ·
     simp only [Act.put, qt, qu, qv, i64_w, i32_w]
     rfl
    refine pure_ (i := 4) (N := some 39) (v := ?_) (a' := ?_) #[true, true, true, false, true, false, false, false, false, false, false, false, false, false, false, false, false, false, false, false, false, false] rfl rfl (xQ HT_.out (by kernel_rfl)) (fun _ _ _ h => h) (Or.inl ⟨by rfl, ?_⟩) ?_ ?_
    rotate_left
    ·
     intro w'
     go_simp
     with_reducible rfl
    rotate_left
    ·
     simp only [Act.put, qt, qu, qv, i64_w, i32_w]
     rfl
    refine pure_ (i := 5) (N := some 40) (v := ?_) (a' := ?_) #[true, true, true, false, true, true, false, false, false, false, false, false, false, false, false, false, false, false, false, false, false, false] rfl rfl (xQ HT_.out (by kernel_rfl)) (fun _ _ _ h => h) (Or.inl ⟨by rfl, ?_⟩) ?_ ?_
    rotate_left
    ·
     intro w'
     go_simp
     with_reducible rfl
    rotate_left
    ·
     simp only [Act.put, qt, qu, qv, i64_w, i32_w]
     rfl
    refine pure_ (i := 6) (N := some 41) (v := ?_) (a' := ?_) #[true, true, true, false, true, true, true, false, false, false, false, false, false, false, false, false, false, false, false, false, false, false] rfl rfl (xQ HT_.out (by kernel_rfl)) (fun _ _ _ h => h) (Or.inl ⟨by rfl, ?_⟩) ?_ ?_
    rotate_left
    ·
     intro w'
     go_simp
     with_reducible rfl
    rotate_left
    ·
     simp only [Act.put, qt, qu, qv, i64_w, i32_w]
     rfl
    refine pure_ (i := 7) (N := some 42) (v := ?_) (a' := ?_) #[true, true, true, false, true, true, true, true, false, false, false, false, false, false, false, false, false, false, false, false, false, false] rfl rfl (xQ HT_.out (by kernel_rfl)) (fun _ _ _ h => h) (Or.inl ⟨by rfl, ?_⟩) ?_ ?_
    rotate_left
    ·
     intro w'
     go_simp
     with_reducible rfl
    rotate_left
    ·
     simp only [Act.put, qt, qu, qv, i64_w, i32_w]
     rfl
    refine pure_ (i := 9) (N := some 44) (v := ?_) (a' := ?_) #[true, true, true, false, true, true, true, true, false, true, false, false, false, false, false, false, false, false, false, false, false, false] rfl rfl (xQ HT_.out (by kernel_rfl)) (fun _ _ _ h => h) (Or.inl ⟨by rfl, ?_⟩) ?_ ?_
    rotate_left
    ·
     intro w'
     go_simp
     with_reducible rfl
    rotate_left
    ·
     simp only [Act.put, qt, qu, qv, i64_w, i32_w]
     rfl
    refine pure_ (i := 12) (N := some 47) (v := ?_) (a' := ?_) #[true, true, true, false, true, true, true, true, false, true, false, false, true, false, false, false, false, false, false, false, false, false] rfl rfl (xQ HT_.out (by kernel_rfl)) (fun _ _ _ h => h) (Or.inl ⟨by rfl, ?_⟩) ?_ ?_
    rotate_left
    ·
     intro w'
     go_simp
     with_reducible rfl
    rotate_left
    ·
     simp only [Act.put, qt, qu, qv, i64_w, i32_w]
     rfl
    refine pure_ (i := 13) (N := some 48) (v := ?_) (a' := ?_) #[true, true, true, false, true, true, true, true, false, true, false, false, true, true, false, false, false, false, false, false, false, false] rfl rfl (xQ HT_.out (by kernel_rfl)) (fun _ _ _ h => h) (Or.inl ⟨by rfl, ?_⟩) ?_ ?_
    rotate_left
    ·
     intro w'
     go_simp
     with_reducible rfl
    rotate_left
    ·
     simp only [Act.put, qt, qu, qv, i64_w, i32_w]
     rfl
    refine pure_ (i := 14) (N := some 49) (v := ?_) (a' := ?_) #[true, true, true, false, true, true, true, true, false, true, false, false, true, true, true, false, false, false, false, false, false, false] rfl rfl (xQ HT_.out (by kernel_rfl)) (fun _ _ _ h => h) (Or.inl ⟨by rfl, ?_⟩) ?_ ?_
    rotate_left
    ·
     intro w'
     go_simp
     with_reducible rfl
    rotate_left
    ·
     simp only [Act.put, qt, qu, qv, i64_w, i32_w]
     rfl
    refine pure_ (i := 16) (N := some 51) (v := ?_) (a' := ?_) #[true, true, true, false, true, true, true, true, false, true, false, false, true, true, true, false, true, false, false, false, false, false] rfl rfl (xQ HT_.out (by kernel_rfl)) (fun _ _ _ h => h) (Or.inl ⟨by rfl, ?_⟩) ?_ ?_
    rotate_left
    ·
     intro w'
     go_simp
     with_reducible rfl
    rotate_left
    ·
     simp only [Act.put, qt, qu, qv, i64_w, i32_w]
     rfl
    refine take_ (i := 3) (N := some 38) (v := ?_) (a' := ?_) #[true, true, true, true, true, true, true, true, false, true, false, false, true, true, true, false, true, false, false, false, false, false] rfl rfl (take_ofW HT_.out HW_.out (by kernel_rfl)) (fun _ _ _ h => h) (Or.inl ⟨by rfl, ?_⟩) hHeld ?_ ?_
    rotate_left
    ·
     rintro w' ⟨s0, s1, s2, s3, s4⟩
     go_simp
     with_reducible rfl
    rotate_left
    ·
     simp only [Act.put, qt, qu, qv, i64_w, i32_w]
     rfl
    refine take_ (i := 8) (N := some 43) (v := ?_) (a' := ?_) #[true, true, true, true, true, true, true, true, true, true, false, false, true, true, true, false, true, false, false, false, false, false] rfl rfl (take_ofW HT_.out HW_.out (by kernel_rfl)) (fun _ _ _ h => h) (Or.inl ⟨by rfl, ?_⟩) hHeld ?_ ?_
    rotate_left
    ·
     rintro w' ⟨s0, s1, s2, s3, s4⟩
     go_simp
     with_reducible rfl
    rotate_left
    ·
     simp only [Act.put, qt, qu, qv, i64_w, i32_w]
     rfl
    refine pure_ (i := 10) (N := some 45) (v := ?_) (a' := ?_) #[true, true, true, true, true, true, true, true, true, true, true, false, true, true, true, false, true, false, false, false, false, false] rfl rfl (xQ HT_.out (by kernel_rfl)) (fun _ _ _ h => h) (Or.inl ⟨by rfl, ?_⟩) ?_ ?_
    rotate_left
    ·
     intro w'
     go_simp
     with_reducible rfl
    rotate_left
    ·
     simp only [Act.put, qt, qu, qv, i64_w, i32_w]
     rfl
    refine take_ (i := 11) (N := some 46) (v := ?_) (a' := ?_) #[true, true, true, true, true, true, true, true, true, true, true, true, true, true, true, false, true, false, false, false, false, false] rfl rfl (take_ofW HT_.out HW_.out (by kernel_rfl)) (fun _ _ _ h => h) (Or.inl ⟨by rfl, ?_⟩) hHeld ?_ ?_
    rotate_left
    ·
     rintro w' ⟨s0, s1, s2, s3, s4⟩
     go_simp
     with_reducible rfl
    rotate_left
    ·
     simp only [Act.put, qt, qu, qv, i64_w, i32_w]
     rfl
    refine take_ (i := 15) (N := some 50) (v := ?_) (a' := ?_) #[true, true, true, true, true, true, true, true, true, true, true, true, true, true, true, true, true, false, false, false, false, false] rfl rfl (take_ofW HT_.out HW_.out (by kernel_rfl)) (fun _ _ _ h => h) (Or.inl ⟨by rfl, ?_⟩) hHeld ?_ ?_
    rotate_left
    ·
     rintro w' ⟨s0, s1, s2, s3, s4⟩
     go_simp
     with_reducible rfl
    rotate_left
    ·
     simp only [Act.put, qt, qu, qv, i64_w, i32_w]
     rfl
    refine pure_ (i := 17) (N := some 52) (v := ?_) (a' := ?_) #[true, true, true, true, true, true, true, true, true, true, true, true, true, true, true, true, true, true, false, false, false, false] rfl rfl (xQ HT_.out (by kernel_rfl)) (fun _ _ _ h => h) (Or.inl ⟨by rfl, ?_⟩) ?_ ?_
    rotate_left
    ·
     intro w'
     go_simp
     with_reducible rfl
    rotate_left
    ·
     simp only [Act.put, qt, qu, qv, i64_w, i32_w]
     rfl
    refine take_ (i := 18) (N := some 53) (v := ?_) (a' := ?_) #[true, true, true, true, true, true, true, true, true, true, true, true, true, true, true, true, true, true, true, false, false, false] rfl rfl (take_ofW HT_.out HW_.out (by kernel_rfl)) (fun _ _ _ h => h) (Or.inl ⟨by rfl, ?_⟩) hHeld ?_ ?_
    rotate_left
    ·
     rintro w' ⟨s0, s1, s2, s3, s4⟩
     go_simp
     with_reducible rfl
    rotate_left
    ·
     simp only [Act.put, qt, qu, qv, i64_w, i32_w]
     rfl
    refine pure_ (i := 19) (N := some 54) (v := ?_) (a' := ?_) #[true, true, true, true, true, true, true, true, true, true, true, true, true, true, true, true, true, true, true, true, false, false] rfl rfl (xQ HT_.out (by kernel_rfl)) (fun _ _ _ h => h) (Or.inl ⟨by rfl, ?_⟩) ?_ ?_
    rotate_left
    ·
     intro w'
     go_simp
     with_reducible rfl
    rotate_left
    ·
     simp only [Act.put, qt, qu, qv, i64_w, i32_w]
     rfl
    refine pure_ (i := 20) (N := some 55) (v := ?_) (a' := ?_) #[true, true, true, true, true, true, true, true, true, true, true, true, true, true, true, true, true, true, true, true, true, false] rfl rfl (xQ HT_.out (by kernel_rfl)) (fun _ _ _ h => h) (Or.inl ⟨by rfl, ?_⟩) ?_ ?_
    rotate_left
    ·
     intro w'
     go_simp
     with_reducible rfl
    rotate_left
    ·
     simp only [Act.put, qt, qu, qv, i64_w, i32_w]
     rfl
    refine last_ (i := 21) (N := none) #[true, true, true, true, true, true, true, true, true, true, true, true, true, true, true, true, true, true, true, true, true, true] rfl rfl (one_of HT_.out (by kernel_rfl)) (by decide) (fun K hK => ?_)
    refine skip_ (w1 := ?_) (by rfl) rfl ?_ ?_
    rotate_left
    ·
     go_simp
     rfl
    refine hK.out _ _ ?_
    clear hK K
    refine done_ (done_of HT_.out (by kernel_rfl)) ?_
    try go_wp2
    go_roundg k3
    case measure => have := HK1.out; have := HK2.out; have := HK3.out; omega
    case rel => exact ⟨(y531), (wrap64 (x7_3 + 1)), rfl, H', ⟨by have := HK1.out; have := HK2.out; have := HK3.out; omega⟩, ⟨qh HQ23.out⟩, ⟨by (with_reducible repeat (first | apply Kd.S_alloc | apply Kd.S_drewN | apply Kd.S_drew)); exact Kd.xR (Kd.S_far (p := ⟨go19, (x7_3 : Int).toNat, none⟩) (Kd.xR (ok' := fun k_ => True ∧ k_ ≠ go19) (Kd.S_bound HO_4.out) (fun k_ hk_ => ⟨trivial, fun e_ => Nat.lt_irrefl _ (Nat.lt_of_lt_of_le HGO.out (e_ ▸ hk_.2.1))⟩)) (fun _ hk => hk.2) (.int .i64 ji18)) (fun _ hk => trivial)⟩, ⟨by repeat (first | exact HB.out | apply xL | apply xD | apply xH | refine xM ?_ GB19.out)⟩, ⟨by repeat (first | exact HB4.out | apply xD | apply xH | refine Below.setCell ?_ GB19.out _)⟩⟩
mutual
def r5scaled.l0 : Nat → List (List Int) → List (List Int) → Int → Int → Int → Option ((List (List Int)))
 | 0, _, _, _, _, _ => none
 | k + 1, x0, x5, x6, x524000, x524001 => if x6 < (x0.length : Int) then (r5scaled.l1 k x0 x5 x6 ([] : List Int) 0 x524000 x524001) else (some x5)
def r5scaled.l1 : Nat → List (List Int) → List (List Int) → Int → List Int → Int → Int → Int → Option ((List (List Int)))
 | 0, _, _, _, _, _, _, _ => none
 | k + 1, x0, x5, x6, x7, x8, x524000, x524001 => if x8 < (x0.length : Int) then (if 0 ≤ x6 then (if x6 < (x0.length : Int) then (if 0 ≤ x8 then (if x8 < ((rd_L1 x0 x6).length : Int) then (if (rd (rd_L1 x0 x6) x8) = (-1152921504606846976) then (if x7.length < 17592186044416 then (r5scaled.l1 k x0 x5 x6 (x7 ++ [(-1152921504606846976)]) (wrap64 (x8 + 1)) x524000 x524001) else (none)) else (if x7.length < 17592186044416 then (r5scaled.l1 k x0 x5 x6 (x7 ++ [wrap64 ((wrap64 (x524001 * (rd (rd_L1 x0 x6) x8))) - x524000)]) (wrap64 (x8 + 1)) x524000 x524001) else (none))) else (none)) else (none)) else (none)) else (none)) else (if x5.length < 5864062014805 then (r5scaled.l0 k x0 (x5 ++ [x7]) (wrap64 (x6 + 1)) x524000 x524001) else (none))
end
def r5scaled.f (k : Nat) (l0 : List (List Int)) (a1_0 : Int) (a1_1 : Int) : Option ((List (List Int))) := r5scaled.l0 k l0 ([] : List (List Int)) 0 a1_0 a1_1
def r5scaled.T11 : Bool × List (List Nat × List Nat) := (true, [([], []), ([], []), ([1], [1]), ([], []), ([], []), ([3, 4], [3, 4]), ([5], [5]), ([], []), ([6, 7], [6, 7]), ([8], [8]), ([2, 9], [2, 9]), ([], []), ([11], [11]), ([10, 12], [10, 12]), ([13], [13]), ([0, 14], [0, 14]), ([15, 15, 0, 1, 2, 3, 4, 5, 6, 7, 8, 9, 10, 11, 12, 13, 14, 15], [0, 15])])
def r5scaled.B11 : List Nat := [0, 0, 2, 0, 0, 24, 56, 0, 248, 504, 1022, 0, 2048, 8190, 16382, 32767, 65535]
theorem r5scaled.tab11 : rtab .any (opsOf Try.f53 11) = r5scaled.T11 := by kernel_rfl
theorem r5scaled.bits11 : waitsOk r5scaled.T11.2 r5scaled.B11 = true := by kernel_rfl
set_option maxHeartbeats 8000000 in
set_option maxRecDepth 100000 in
theorem r5scaled.calls (k : Nat) (A0 : Option Addr) (c0 : Nat) (l0 : List (List Int)) (a1_0 : Int) (a1_1 : Int) (r : List (List Int)) (w : World) (hr0 : Kd.C (Kd.slice 3 (Kd.int .i64)) w A0 l0.length l0) (hc0 : l0.length ≤ c0) (h : r5scaled.f k l0 a1_0 a1_1 = some r) :
  Calls Try.prog 53 #[.slice A0 l0.length c0, .agg #[.int .i64 a1_0, .int .i64 a1_1]] w fun e w' => ∃ v0_ : Value, e = .returned (v0_) ∧ Kd.S (Kd.slice 3 (Kd.int .i64)) 26 w' w.heap.size (fun _ => True) v0_ r ∧ Below w.heap.size w w' := by
 have hu37 := Try.underlying37
 have HR0 := xA.mk hr0
 have HC0 := xA.mk hc0
 clear hr0 hc0
 have HB := xA.mk (Below.refl w.heap.size w)
 have H : (r5scaled.l0 k l0 ([] : List (List Int)) 0 a1_0 a1_1) = some r := h
 clear h
 have H' := xA.mk H
 clear H
 go_enter Try.func53, Try.ntmps53
 go_wp2_with (first | ((with_reducible refine xX (N := 3) rfl ?_); refine yC ?hg (N := 3) ?hd (cs := #[.int .i64 a1_0, .int .i64 a1_1]) (t := 37) ?hr ?_; (case hd => rfl); (case hg => rfl); (case hr => go_simp); intro gb523 hg w3 hbox hb; have n0_ := xA.mk (xE (HB.out) hb); have n1_ := xA.mk (hbox); have n2_ := xA.mk ((by rw [hg]; exact (xB (HB.out)) : w.heap.size ≤ gb523)); have n3_ := xA.mk ((by rw [hg]; exact (xB (HB.out)) : w.heap.size ≤ gb523)); clear HB; have HB := n0_; have BK523 := n1_; have GW523 := n2_; have GE523 := n3_; clear n0_ n1_ n2_ n3_; clear hb hbox hg))
 go_loopg [5, 6] k (fun kq v5 v6 w' => ∃ (x5_1 : List (List Int)) (x6_1 : Int), v6 = .int .i64 x6_1 ∧ xA (r5scaled.l0 kq l0 x5_1 x6_1 a1_0 a1_1 = some r) ∧ xA (kq ≤ k) ∧ xA (Kd.S (Kd.slice 3 (Kd.int .i64)) 26 w' w.heap.size (fun _ => True) v5 x5_1) ∧ xA (w'.heap[gb523]? = some (.cells #[.int .i64 a1_0, .int .i64 a1_1] 37 (0, 0))) ∧ xA (Below w.heap.size w w'))
 case atStart => exact ⟨(([] : List (List Int))), (0), rfl, H', ⟨Nat.le_refl _⟩, ⟨by first | exact Kd.S_nil _ _ _ _ _ | exact Kd.N_nil _ _ _ _ _ | exact Kd.V_nil _ _ _ _ _ | exact Kd.Q_nil _ _ _ _ _ | exact Kd.R_nil _ _ _ _ _⟩, ⟨by exact BK523.out⟩, ⟨HB.out⟩⟩
 case round =>
  clear H'
  obtain ⟨x5_1, x6_1, rfl, HA, HK1, HO_5, BK523, HB⟩ := hrel
  obtain _ | k1 := gk
  · exact absurd HA.out (by simp [r5scaled.l0])
  have H := HA.out
  clear HA
  simp only [r5scaled.l0] at H
  by_cases c4 : x6_1 < (l0.length : Int)
  rotate_left
  ·
   rw [if_neg c4] at H
   have c4b0 : decide (x6_1 < (l0.length : Int)) = false := qp c4
   clear c4
   obtain rfl := qr H
   go_wp2
   go_ret
   exact ⟨_, rfl, by exact HO_5.out, HB.out⟩
  rw [if_pos c4] at H
  have c4b0 : decide (x6_1 < (l0.length : Int)) = true := qo c4
  clear c4
  have H' := xA.mk H
  clear H
  go_wp2
  go_loopg [7, 8] k1 (fun kq v7 v8 w' => ∃ (x7_2 : List Int) (x8_2 : Int), v8 = .int .i64 x8_2 ∧ xA (r5scaled.l1 kq l0 x5_1 x6_1 x7_2 x8_2 a1_0 a1_1 = some r) ∧ xA (kq ≤ k1) ∧ xA (Kd.S (Kd.slice 3 (Kd.int .i64)) 26 w' w.heap.size (fun k_ => some k_ ≠ (v7 : Value).ownBlock) u5 x5_1) ∧ xA (Kd.R (Kd.int .i64) 3 w' w.heap.size (fun _ => True) v7 x7_2) ∧ xA (w'.heap[gb523]? = some (.cells #[.int .i64 a1_0, .int .i64 a1_1] 37 (0, 0))) ∧ xA (Below w.heap.size w w'))
  case atStart => exact ⟨(([] : List Int)), (0), rfl, H', ⟨Nat.le_refl _⟩, ⟨by exact Kd.xR HO_5.out (fun _ hk => (by simp [Value.ownBlock]))⟩, ⟨by first | exact Kd.R_nil _ _ _ _ _ | exact Kd.N_nil _ _ _ _ _ | exact Kd.V_nil _ _ _ _ _ | exact Kd.Q_nil _ _ _ _ _ | exact Kd.S_nil _ _ _ _ _⟩, ⟨by exact BK523.out⟩, ⟨HB.out⟩⟩
  case round =>
   clear H'
   obtain ⟨x7_2, x8_2, rfl, HA, HK2, HO_5, HO_7, BK523, HB⟩ := hrel
   obtain _ | k2 := gk
   · exact absurd HA.out (by simp [r5scaled.l1])
   have H := HA.out
   clear HA
   simp only [r5scaled.l1] at H
   by_cases c5 : x8_2 < (l0.length : Int)
   rotate_left
   ·
    rw [if_neg c5] at H
    have c5b0 : decide (x8_2 < (l0.length : Int)) = false := qp c5
    clear c5
    obtain ⟨c16, H⟩ := yD H
    have LMc16 := xA.mk c16
    clear c16
    obtain ⟨y534, hy534⟩ : ∃ y_ : List (List Int), y_ = (x5_1 ++ [x7_2]) := ⟨_, rfl⟩
    replace H : (r5scaled.l0 k2 l0 y534 (wrap64 (x6_1 + 1)) a1_0 a1_1) = some r := by rw [hy534]; exact H
    have Ny534 := xA.mk hy534
    clear hy534
    have H' := xA.mk H
    clear H
    obtain ⟨Ao18, co18, eo18⟩ := Kd.R_slice HO_7.out
    subst eo18
    go_wp2_with (first | ((with_reducible refine gate_builtin (b := .append) (xs := #[.tmp 48, .tmp 50]) rfl ?_); at_builtin; refine Kd.S_append (Kd.slice 3 (Kd.int .i64)) (w0 := w) w.heap.size rfl (.tmp 48) (.tmp 50) 22 26 (.slice none 0 0) 24 rfl Try.underlying22 info26 rfl (by decide) (by omega) u5 x5_1 x7_2 [.slice Ao18 x7_2.length co18] (fun _ => True) (fun k_ => some k_ = (.slice Ao18 x7_2.length co18 : Value).ownBlock) rfl rfl ?aP (fun k_ hk_ => ((Kd.R_mono (ok' := fun k_ => ((fun _ => True)) k_ ∧ some k_ ≠ (u5 : Value).ownBlock) (Kd.R_apart' (HO_7.out) (Kd.S_typed HO_5.out) (by decide)) (fun k_ hk => ⟨trivial, hk.2⟩))).1 k_ hk_.symm) ?aF ?aO ?aB ?aS ?aL ?_; (case aP => exact Kd.M_row (Kd.R_mono (Kd.R_tight rfl (Kd.R_mono (ok' := fun k_ => ((fun _ => True)) k_ ∧ some k_ ≠ (u5 : Value).ownBlock) (Kd.R_apart' (HO_7.out) (Kd.S_typed HO_5.out) (by decide)) (fun k_ hk => ⟨trivial, hk.2⟩))) (fun _ h_ => h_))); (case aB => exact (HB.out)); (case aF => exact (fun _ _ => trivial)); (case aO => exact (by exact Kd.xR HO_5.out (fun k_ hk => ⟨trivial, fun e_ => hk e_⟩))); (case aS => exact (xB (HB.out))); (case aL => have := LMc16.out; omega); intro v535 w17 ho hb hg hat; rw [← Ny534.out] at ho; have n0_ := xA.mk (blk_grown (g := gb523) (o := .cells #[.int .i64 a1_0, .int .i64 a1_1] 37 (0, 0)) (by exact BK523.out) hg (Kd.S_ne HO_5.out BK523.out (by decide))); have n1_ := xA.mk (hb); have n2_ := xA.mk (ho); clear BK523; clear HB; clear HO_5; clear HO_7; have BK523 := n0_; have HB := n1_; have HO536 := n2_; clear n0_ n1_ n2_; clear ho hb hg hat))
    go_roundg k2
    case measure => have := HK1.out; have := HK2.out; omega
    case rel => exact ⟨(y534), (wrap64 (x6_1 + 1)), rfl, H', ⟨by have := HK1.out; have := HK2.out; omega⟩, ⟨by exact HO536.out⟩, ⟨by exact BK523.out⟩, ⟨HB.out⟩⟩
   rw [if_pos c5] at H
   have c5b0 : decide (x8_2 < (l0.length : Int)) = true := qo c5
   clear c5
   obtain ⟨c6b0, H⟩ := xO H
   obtain ⟨c7b0, H⟩ := xO H
   obtain ⟨c8b0, H⟩ := xO H
   obtain ⟨c9b0, H⟩ := xO H
   by_cases c10 : (rd (rd_L1 l0 x6_1) x8_2) = (-1152921504606846976)
   ·
    rw [if_pos c10] at H
    have c10b0 : ((rd (rd_L1 l0 x6_1) x8_2) == (-1152921504606846976)) = true := beq_iff_eq.mpr c10
    clear c10
    obtain ⟨c11, H⟩ := yD H
    have LMc11 := xA.mk c11
    clear c11
    obtain ⟨y526, hy526⟩ : ∃ y_ : List Int, y_ = (x7_2 ++ [(-1152921504606846976)]) := ⟨_, rfl⟩
    replace H : (r5scaled.l1 k2 l0 x5_1 x6_1 y526 (wrap64 (x8_2 + 1)) a1_0 a1_1) = some r := by rw [hy526]; exact H
    have Ny526 := xA.mk hy526
    clear hy526
    have H' := xA.mk H
    clear H
    have p524 : 0 ≤ (x6_1 : Int) := qn (by assumption)
    have q524 : x6_1 < (l0.length : Int) := qn (by assumption)
    obtain ⟨ad524, A524_0, c524_0, e524, hx524_0, hl524_0, hi524_0⟩ := at_L1 HR0.out x6_1 p524 q524
    cases e524
    replace hx524_0 := (HB.out.cell (World.block_lt_of_cell? w _ hx524_0)).trans hx524_0
    have HR524_0 := xA.mk hi524_0
    have HC524_0 := xA.mk hl524_0
    clear hi524_0 hl524_0
    replace p524 := eq_true p524
    replace q524 := eq_true q524
    have p525 : 0 ≤ (x8_2 : Int) := qn (by assumption)
    have q525 : x8_2 < ((rd_L1 l0 x6_1).length : Int) := qn (by assumption)
    obtain ⟨ad525, e525, hx525_0⟩ := Kd.xU HR524_0.out x8_2 p525 q525
    cases e525
    replace hx525_0 := (HB.out.cell (World.block_lt_of_cell? w _ hx525_0)).trans hx525_0
    replace p525 := eq_true p525
    replace q525 := eq_true q525
    go_wp2_with (first | ((with_reducible refine gate_builtin (b := .append) (xs := #[.tmp 29, .tmp 30]) rfl ?_); at_builtin; refine Kd.R_append (Kd.int .i64) (w0 := w) w.heap.size rfl (.tmp 29) (.tmp 30) 26 3 (.int .i64 0) 8 rfl Try.underlying26 info3 rfl (by decide) (by omega) u7 x7_2 (-1152921504606846976) [.int .i64 (-1152921504606846976)] (fun _ => True) (fun _ => False) rfl rfl ?aP (fun _ hk => hk.elim) ?aF ?aO ?aB ?aS ?aL ?_; (case aP => exact rfl); (case aB => exact (HB.out)); (case aF => exact (fun _ _ => trivial)); (case aO => exact (by exact HO_7.out)); (case aS => exact (xB (HB.out))); (case aL => have := LMc11.out; omega); intro v527 w12 ho hb hg hat; rw [← Ny526.out] at ho; have n0_ := xA.mk (Kd.S_after (ok := (fun _ => True)) (by exact Kd.xR HO_5.out (fun _ hk => ⟨trivial, hk⟩)) hg hat); have n1_ := xA.mk (blk_grown (g := gb523) (o := .cells #[.int .i64 a1_0, .int .i64 a1_1] 37 (0, 0)) (by exact BK523.out) hg (Kd.R_ne HO_7.out BK523.out (by decide))); have n2_ := xA.mk (hb); have n3_ := xA.mk (ho); clear HO_5; clear BK523; clear HB; clear HO_7; have HO_5 := n0_; have BK523 := n1_; have HB := n2_; have HO528 := n3_; clear n0_ n1_ n2_ n3_; clear ho hb hg hat))
    go_roundg k2
    case measure => have := HK1.out; have := HK2.out; omega
    case rel => exact ⟨(y526), (wrap64 (x8_2 + 1)), rfl, H', ⟨by have := HK1.out; have := HK2.out; omega⟩, ⟨by exact Kd.xR HO_5.out (fun _ hk => hk.2)⟩, ⟨by exact HO528.out⟩, ⟨by exact BK523.out⟩, ⟨HB.out⟩⟩
   rw [if_neg c10] at H
   have c10b0 : ((rd (rd_L1 l0 x6_1) x8_2) == (-1152921504606846976)) = false := jb c10
   obtain ⟨c13, H⟩ := yD H
   have LMc13 := xA.mk c13
   clear c13
   obtain ⟨y531, hy531⟩ : ∃ y_ : List Int, y_ = (x7_2 ++ [wrap64 ((wrap64 (a1_1 * (rd (rd_L1 l0 x6_1) x8_2))) - a1_0)]) := ⟨_, rfl⟩
   replace H : (r5scaled.l1 k2 l0 x5_1 x6_1 y531 (wrap64 (x8_2 + 1)) a1_0 a1_1) = some r := by rw [hy531]; exact H
   have Ny531 := xA.mk hy531
   clear hy531
   have H' := xA.mk H
   clear H
   have p524 : 0 ≤ (x6_1 : Int) := qn (by assumption)
   have q524 : x6_1 < (l0.length : Int) := qn (by assumption)
   obtain ⟨ad524, A524_0, c524_0, e524, hx524_0, hl524_0, hi524_0⟩ := at_L1 HR0.out x6_1 p524 q524
   cases e524
   replace hx524_0 := (HB.out.cell (World.block_lt_of_cell? w _ hx524_0)).trans hx524_0
   have HR524_0 := xA.mk hi524_0
   have HC524_0 := xA.mk hl524_0
   clear hi524_0 hl524_0
   replace p524 := eq_true p524
   replace q524 := eq_true q524
   have p525 : 0 ≤ (x8_2 : Int) := qn (by assumption)
   have q525 : x8_2 < ((rd_L1 l0 x6_1).length : Int) := qn (by assumption)
   obtain ⟨ad525, e525, hx525_0⟩ := Kd.xU HR524_0.out x8_2 p525 q525
   cases e525
   replace hx525_0 := (HB.out.cell (World.block_lt_of_cell? w _ hx525_0)).trans hx525_0
   replace p525 := eq_true p525
   replace q525 := eq_true q525
   try go_wp2
   have n0_ := xA.mk (Kd.S_drew HO_5.out)
   have n1_ := xA.mk (Kd.R_drew HO_7.out)
   have n2_ := xA.mk (xK BK523.out)
   have n3_ := xA.mk (xH HB.out)
   clear HO_5
   clear HO_7
   clear BK523
   clear HB
   have HO_5 := n0_
   have HO_7 := n1_
   have BK523 := n2_
   have HB := n3_
   clear n0_ n1_ n2_ n3_
   have p529 : 0 ≤ (x6_1 : Int) := qn (by assumption)
   have q529 : x6_1 < (l0.length : Int) := qn (by assumption)
   obtain ⟨ad529, A529_0, c529_0, e529, hx529_0, hl529_0, hi529_0⟩ := at_L1 HR0.out x6_1 p529 q529
   have hw529_0 := hx529_0
   obtain rfl : ad524 = ad529 := (by injection e529)
   replace hx529_0 := (HB.out.cell (World.block_lt_of_cell? w _ hx529_0)).trans hx529_0
   have HR529_0 := xA.mk hi529_0
   have HC529_0 := xA.mk hl529_0
   clear hi529_0 hl529_0
   replace p529 := eq_true p529
   replace q529 := eq_true q529
   have p530 : 0 ≤ (x8_2 : Int) := qn (by assumption)
   have q530 : x8_2 < ((rd_L1 l0 x6_1).length : Int) := qn (by assumption)
   obtain ⟨ad530, e530, hx530_0⟩ := Kd.xU HR529_0.out x8_2 p530 q530
   have hw530_0 := hx530_0
   cases e530
   replace hx530_0 := (HB.out.cell (World.block_lt_of_cell? w _ hx530_0)).trans hx530_0
   replace p530 := eq_true p530
   replace q530 := eq_true q530
   refine start_ (n := 17) (S := fun w' => w'.cell? ⟨gb523, 0, none⟩ = some (.int .i64 a1_0) ∧ w'.cell? ⟨gb523, 1, none⟩ = some (.int .i64 a1_1) ∧ w'.cell? (ad524.add (x6_1).toNat) = some (.slice (some ad530) (rd_L1 l0 x6_1).length c529_0) ∧ w'.cell? (ad530.add (x8_2).toNat) = some (.int .i64 (rd (rd_L1 l0 x6_1) x8_2))) (ds := []) #[false, false, false, false, false, false, false, false, false, false, false, false, false, false, false, false, false] (by kernel_rfl) rfl rfl ⟨(xF BK523.out 0).trans rfl, (xF BK523.out 1).trans rfl, ((HB.out.cell (World.block_lt_of_cell? w _ hw529_0)).trans hw529_0), ((HB.out.cell (World.block_lt_of_cell? w _ hw530_0)).trans hw530_0)⟩ (fun hHeld => ?_); refine with_tabW r5scaled.tab11 r5scaled.bits11 (fun HT_ HW_ => ?_)
   generalize wr.drew = w14 at HO_5 HO_7 BK523 HB HR529_0 hx529_0 hx530_0 hHeld ⊢
   refine pure_ (i := 0) (N := some 32) (v := ?_) (a' := ?_) #[true, false, false, false, false, false, false, false, false, false, false, false, false, false, false, false, false] rfl rfl (xQ HT_.out (by kernel_rfl)) (fun _ _ _ h => h) (Or.inl ⟨by rfl, ?_⟩) ?_ ?_
   rotate_left
   ·
    intro w'
    go_simp
    with_reducible rfl
   rotate_left
   ·
    simp only [Act.put, qt, qu, qv, i64_w, i32_w]
    rfl
   refine pure_ (i := 1) (N := some 33) (v := ?_) (a' := ?_) #[true, true, false, false, false, false, false, false, false, false, false, false, false, false, false, false, false] rfl rfl (xQ HT_.out (by kernel_rfl)) (fun _ _ _ h => h) (Or.inl ⟨by rfl, ?_⟩) ?_ ?_
   rotate_left
   ·
    intro w'
    go_simp
    with_reducible rfl
   rotate_left
   ·
    simp only [Act.put, qt, qu, qv, i64_w, i32_w]
    rfl
   refine pure_ (i := 3) (N := some 35) (v := ?_) (a' := ?_) #[true, true, false, true, false, false, false, false, false, false, false, false, false, false, false, false, false] rfl rfl (xQ HT_.out (by kernel_rfl)) (fun _ _ _ h => h) (Or.inl ⟨by rfl, ?_⟩) ?_ ?_
   rotate_left
   ·
    intro w'
    go_simp
    with_reducible rfl
   rotate_left
   ·
    simp only [Act.put, qt, qu, qv, i64_w, i32_w]
    rfl
   refine pure_ (i := 4) (N := some 36) (v := ?_) (a' := ?_) #[true, true, false, true, true, false, false, false, false, false, false, false, false, false, false, false, false] rfl rfl (xQ HT_.out (by kernel_rfl)) (fun _ _ _ h => h) (Or.inl ⟨by rfl, ?_⟩) ?_ ?_
   rotate_left
   ·
    intro w'
    go_simp
    with_reducible rfl
   rotate_left
   ·
    simp only [Act.put, qt, qu, qv, i64_w, i32_w]
    rfl
   refine pure_ (i := 5) (N := some 37) (v := ?_) (a' := ?_) #[true, true, false, true, true, true, false, false, false, false, false, false, false, false, false, false, false] rfl rfl (xQ HT_.out (by kernel_rfl)) (fun _ _ _ h => h) (Or.inl ⟨by rfl, ?_⟩) ?_ ?_
   rotate_left
   ·
    intro w'
    go_simp
    with_reducible rfl
   rotate_left
   ·
    simp only [Act.put, qt, qu, qv, i64_w, i32_w]
    rfl
   refine pure_ (i := 7) (N := some 39) (v := ?_) (a' := ?_) #[true, true, false, true, true, true, false, true, false, false, false, false, false, false, false, false, false] rfl rfl (xQ HT_.out (by kernel_rfl)) (fun _ _ _ h => h) (Or.inl ⟨by rfl, ?_⟩) ?_ ?_
   rotate_left
   ·
    intro w'
    go_simp
    with_reducible rfl
   rotate_left
   ·
    simp only [Act.put, qt, qu, qv, i64_w, i32_w]
    rfl
   refine pure_ (i := 11) (N := some 43) (v := ?_) (a' := ?_) #[true, true, false, true, true, true, false, true, false, false, false, true, false, false, false, false, false] rfl rfl (xQ HT_.out (by kernel_rfl)) (fun _ _ _ h => h) (Or.inl ⟨by rfl, ?_⟩) ?_ ?_
   rotate_left
   ·
    intro w'
    go_simp
    with_reducible rfl
   rotate_left
   ·
    simp only [Act.put, qt, qu, qv, i64_w, i32_w]
    rfl
   refine take_ (i := 2) (N := some 34) (v := ?_) (a' := ?_) #[true, true, true, true, true, true, false, true, false, false, false, true, false, false, false, false, false] rfl rfl (take_ofW HT_.out HW_.out (by kernel_rfl)) (fun _ _ _ h => h) (Or.inl ⟨by rfl, ?_⟩) hHeld ?_ ?_
   rotate_left
   ·
    rintro w' ⟨s0, s1, s2, s3⟩
    go_simp
    with_reducible rfl
   rotate_left
   ·
    simp only [Act.put, qt, qu, qv, i64_w, i32_w]
    rfl
   refine take_ (i := 6) (N := some 38) (v := ?_) (a' := ?_) #[true, true, true, true, true, true, true, true, false, false, false, true, false, false, false, false, false] rfl rfl (take_ofW HT_.out HW_.out (by kernel_rfl)) (fun _ _ _ h => h) (Or.inl ⟨by rfl, ?_⟩) hHeld ?_ ?_
   rotate_left
   ·
    rintro w' ⟨s0, s1, s2, s3⟩
    go_simp
    with_reducible rfl
   rotate_left
   ·
    simp only [Act.put, qt, qu, qv, i64_w, i32_w]
    rfl
   refine pure_ (i := 8) (N := some 40) (v := ?_) (a' := ?_) #[true, true, true, true, true, true, true, true, true, false, false, true, false, false, false, false, false] rfl rfl (xQ HT_.out (by kernel_rfl)) (fun _ _ _ h => h) (Or.inl ⟨by rfl, ?_⟩) ?_ ?_
   rotate_left
   ·
    intro w'
    go_simp
    with_reducible rfl
   rotate_left
   ·
    simp only [Act.put, qt, qu, qv, i64_w, i32_w]
    rfl
   refine take_ (i := 9) (N := some 41) (v := ?_) (a' := ?_) #[true, true, true, true, true, true, true, true, true, true, false, true, false, false, false, false, false] rfl rfl (take_ofW HT_.out HW_.out (by kernel_rfl)) (fun _ _ _ h => h) (Or.inl ⟨by rfl, ?_⟩) hHeld ?_ ?_
   rotate_left
   ·
    rintro w' ⟨s0, s1, s2, s3⟩
    go_simp
    with_reducible rfl
   rotate_left
   ·
    simp only [Act.put, qt, qu, qv, i64_w, i32_w]
    rfl
   refine pure_ (i := 10) (N := some 42) (v := ?_) (a' := ?_) #[true, true, true, true, true, true, true, true, true, true, true, true, false, false, false, false, false] rfl rfl (xQ HT_.out (by kernel_rfl)) (fun _ _ _ h => h) (Or.inl ⟨by rfl, ?_⟩) ?_ ?_
   rotate_left
   ·
    intro w'
    go_simp
    with_reducible rfl
   rotate_left
   ·
    simp only [Act.put, qt, qu, qv, i64_w, i32_w]
    rfl
   refine take_ (i := 12) (N := some 44) (v := ?_) (a' := ?_) #[true, true, true, true, true, true, true, true, true, true, true, true, true, false, false, false, false] rfl rfl (take_ofW HT_.out HW_.out (by kernel_rfl)) (fun _ _ _ h => h) (Or.inl ⟨by rfl, ?_⟩) hHeld ?_ ?_
   rotate_left
   ·
    rintro w' ⟨s0, s1, s2, s3⟩
    go_simp
    with_reducible rfl
   rotate_left
   ·
    simp only [Act.put, qt, qu, qv, i64_w, i32_w]
    rfl
   refine pure_ (i := 13) (N := some 45) (v := ?_) (a' := ?_) #[true, true, true, true, true, true, true, true, true, true, true, true, true, true, false, false, false] rfl rfl (xQ HT_.out (by kernel_rfl)) (fun _ _ _ h => h) (Or.inl ⟨by rfl, ?_⟩) ?_ ?_
   rotate_left
   ·
    intro w'
    go_simp
    with_reducible rfl
   rotate_left
   ·
    simp only [Act.put, qt, qu, qv, i64_w, i32_w]
    rfl
   refine one_ (i := 14) (N := some 46) #[true, true, true, true, true, true, true, true, true, true, true, true, true, true, true, false, false] rfl rfl (one_of HT_.out (by kernel_rfl)) (by decide) (fun K hK => ?_)
   refine value_ (w1 := ?_) (v := ?_) (by rfl) rfl ?_ ?_
   rotate_left 2
   ·
    go_simp
    constructor
    ·
     rfl
    ·
     rfl
   refine hK.out _ _ ⟨(xF (xI BK523.out _) 0).trans rfl, (xF (xI BK523.out _) 1).trans rfl, (World.cell?_alloc_lt _ _ _ (World.block_lt_of_cell? _ _ (((HB.out.cell (World.block_lt_of_cell? w _ hw529_0)).trans hw529_0)))).trans (((HB.out.cell (World.block_lt_of_cell? w _ hw529_0)).trans hw529_0)), (World.cell?_alloc_lt _ _ _ (World.block_lt_of_cell? _ _ (((HB.out.cell (World.block_lt_of_cell? w _ hw530_0)).trans hw530_0)))).trans (((HB.out.cell (World.block_lt_of_cell? w _ hw530_0)).trans hw530_0))⟩ (fun hHeld => ?_)
   clear hK K
   refine norm_ (a' := ?_) ?_ ?_
   rotate_left
   ·
    show Act.put _ (some 46) _ = _
    simp only [Act.put, qt, qu, qv, i64_w, i32_w]
    rfl
   refine one_ (i := 15) (N := some 47) #[true, true, true, true, true, true, true, true, true, true, true, true, true, true, true, true, false] rfl rfl (one_of HT_.out (by kernel_rfl)) (by decide) (fun K hK => ?_)
   refine Kd.R_append_step (Kd.int .i64) (w0 := w) w.heap.size (by rfl) (.tmp 32) (.tmp 46) 26 3 (.int .i64 0) 8 rfl Try.underlying26 info3 rfl (by decide) (by omega) u7 x7_2 (wrap64 ((wrap64 (a1_1 * (rd (rd_L1 l0 x6_1) x8_2))) - a1_0)) [.int .i64 (wrap64 ((wrap64 (a1_1 * (rd (rd_L1 l0 x6_1) x8_2))) - a1_0))] (fun _ => True) (fun _ => False) rfl rfl ?aP (fun _ hk => hk.elim) ?aF ?aO ?aB ?aS ?aL ?_
   (case aP => exact rfl)
   (case aB => exact (HB.out))
   (case aF => exact (fun _ _ => trivial))
   (case aO => exact (by exact HO_7.out))
   (case aS => exact (xB (HB.out)))
   (case aL => have := LMc13.out; omega)
   intro v532 w15 ho hb hg hat
   rw [← Ny531.out] at ho
   have n0_ := xA.mk (Kd.S_after (ok := (fun _ => True)) (by exact Kd.xR HO_5.out (fun _ hk => ⟨trivial, hk⟩)) hg hat)
   have n1_ := xA.mk (blk_grown (g := gb523) (o := .cells #[.int .i64 a1_0, .int .i64 a1_1] 37 (0, 0)) (by exact BK523.out) hg (Kd.R_ne HO_7.out BK523.out (by decide)))
   have n2_ := xA.mk (hb)
   have n3_ := xA.mk (ho)
   clear HO_5
   clear BK523
   clear HB
   clear HO_7
   have HO_5 := n0_
   have BK523 := n1_
   have HB := n2_
   have HO533 := n3_
   clear n0_ n1_ n2_ n3_
   clear ho hb hg hat
   refine hK.out _ _ ⟨(xF BK523.out 0).trans rfl, (xF BK523.out 1).trans rfl, ((HB.out.cell (World.block_lt_of_cell? w _ hw529_0)).trans hw529_0), ((HB.out.cell (World.block_lt_of_cell? w _ hw530_0)).trans hw530_0)⟩ (fun hHeld => ?_)
   clear hK K
   refine norm_ (a' := ?_) ?_ ?_
   rotate_left
   ·
    show Act.put _ (some 47) _ = _
    simp only [Act.put, qt, qu, qv, i64_w, i32_w]
    rfl
   refine pure_ (i := 16) (N := some 7) (v := ?_) (a' := ?_) #[true, true, true, true, true, true, true, true, true, true, true, true, true, true, true, true, true] rfl rfl (xQ HT_.out (by kernel_rfl)) (fun _ _ _ h => h) (Or.inl ⟨by rfl, ?_⟩) ?_ ?_
   rotate_left
   ·
    intro w'
    go_simp
    with_reducible rfl
   rotate_left
   ·
    simp only [Act.put, qt, qu, qv, i64_w, i32_w]
    rfl
   refine done_ (done_of HT_.out (by kernel_rfl)) ?_
   try go_wp2
   go_roundg k2
   case measure => have := HK1.out; have := HK2.out; omega
   case rel => exact ⟨(y531), (wrap64 (x8_2 + 1)), rfl, H', ⟨by have := HK1.out; have := HK2.out; omega⟩, ⟨by exact Kd.xR HO_5.out (fun _ hk => hk.2)⟩, ⟨by exact HO533.out⟩, ⟨by exact BK523.out⟩, ⟨HB.out⟩⟩
mutual
def r5Potential.l0 : Nat → List (List Int) → List (List Int) → List Int → Int → Option (List Int × Int)
 | 0, _, _, _, _ => none
 | k + 1, x0, x6, x7, x8 => if x8 < (x0.length : Int) then (r5Potential.l1 k x0 x6 x7 x8 0 0) else (some (x7, 0))
def r5Potential.l1 : Nat → List (List Int) → List (List Int) → List Int → Int → Int → Int → Option (List Int × Int)
 | 0, _, _, _, _, _, _ => none
 | k + 1, x0, x6, x7, x8, x9, x10 => if x10 < (x0.length : Int) then (if 0 ≤ x8 then (if x8 < (x6.length : Int) then (if 0 ≤ x10 then (if x10 < ((rd_L1 x6 x8).length : Int) then (r5Potential.l1 k x0 x6 x7 x8 (mx x9 (rd (rd_L1 x6 x8) x10)) (wrap64 (x10 + 1))) else (none)) else (none)) else (none)) else (none)) else (if x7.length < 17592186044416 then (r5Potential.l0 k x0 x6 (x7 ++ [x9]) (wrap64 (x8 + 1))) else (none))
end
def r5Potential.f (k : Nat) (l0 : List (List Int)) : Option (List Int × Int) := (r5Speed.f k l0).bind fun bt836 => (if bt836.2.2 = 0 then ((r5scaled.f k l0 bt836.1 bt836.2.1).bind fun t840 => ((r5walks.f k t840).bind fun t843 => (r5Potential.l0 k l0 t843 ([] : List Int) 0))) else (some (([] : List Int), bt836.2.2)))
set_option maxHeartbeats 8000000 in
set_option maxRecDepth 100000 in
theorem r5Potential.calls (k : Nat) (A0 : Option Addr) (c0 : Nat) (l0 : List (List Int)) (r1 : List Int) (r2 : Int) (w : World) (hr0 : Kd.C (Kd.slice 3 (Kd.int .i64)) w A0 l0.length l0) (hc0 : l0.length ≤ c0) (h : r5Potential.f k l0 = some (r1, r2)) :
  Calls Try.prog 29 #[.slice A0 l0.length c0] w fun e w' => ∃ v0_ : Value, e = .returned (.tuple #[v0_, .int .i64 r2]) ∧ Kd.R (Kd.int .i64) 3 w' w.heap.size (fun _ => True) v0_ r1 ∧ Below w.heap.size w w' := by
 have hu37 := Try.underlying37
 have HR0 := xA.mk hr0
 have HC0 := xA.mk hc0
 clear hr0 hc0
 have HB := xA.mk (Below.refl w.heap.size w)
 have H : ((r5Speed.f k l0).bind fun bt836 => (if bt836.2.2 = 0 then ((r5scaled.f k l0 bt836.1 bt836.2.1).bind fun t840 => ((r5walks.f k t840).bind fun t843 => (r5Potential.l0 k l0 t843 ([] : List Int) 0))) else (some (([] : List Int), bt836.2.2)))) = some (r1, r2) := h
 clear h
 replace H := qq H
 obtain ⟨⟨t836, t837, t838⟩, A20, H⟩ := H
 replace H : (if t838 = 0 then ((r5scaled.f k l0 t836 t837).bind fun t840 => ((r5walks.f k t840).bind fun t843 => (r5Potential.l0 k l0 t843 ([] : List Int) 0))) else (some (([] : List Int), t838))) = some (r1, r2) := H
 have A2 := xA.mk A20
 clear A20
 by_cases c3 : t838 = 0
 rotate_left
 ·
  rw [if_neg c3] at H
  have c3b0 : (t838 == 0) = false := jb c3
  simp only [Option.some.injEq, Prod.mk.injEq] at H
  obtain ⟨rfl, rfl⟩ := H
  go_enter Try.func29, Try.ntmps29
  go_wp2_with (first | ((with_reducible refine xG (f := 32) rfl ?_); refine xP (some 13) rfl rfl Try.func32 (by kernel_rfl) rfl #[.slice A0 l0.length c0] rfl qd ?_; (with_reducible refine (r5Speed.calls k _ _ l0 t836 t837 t838 _ ?side1 ?side2 A2.out).mono ?_); (case side1 => repeat (first | exact HR0.out)); (case side2 => exact HC0.out); rintro e w22 ⟨rfl, hb⟩; refine ⟨_, rfl, ?_⟩; have n0_ := xA.mk (xE (HB.out) hb); clear HB; have HB := n0_; clear n0_) | ((with_reducible refine xX (N := 4) rfl ?_); refine yC ?hg (N := 4) ?hd (cs := #[.int .i64 0, .int .i64 0]) (t := 37) ?hr ?_; (case hd => rfl); (case hg => rfl); (case hr => go_simp); intro gb839 hg w23 hbox hb; have n0_ := xA.mk (xE (HB.out) hb); have n1_ := xA.mk (hbox); have n2_ := xA.mk ((by rw [hg]; exact (xB (HB.out)) : w.heap.size ≤ gb839)); have n3_ := xA.mk ((by rw [hg]; exact (xB (HB.out)) : w.heap.size ≤ gb839)); clear HB; have HB := n0_; have BK839 := n1_; have GW839 := n2_; have GE839 := n3_; clear n0_ n1_ n2_ n3_; clear hb hbox hg; have hcz24_0 : w23.cell? ⟨gb839, 0, none⟩ = some (.int .i64 0) := (xF BK839.out 0).trans rfl; have hcz24_1 : w23.cell? ⟨gb839, 1, none⟩ = some (.int .i64 0) := (xF BK839.out 1).trans rfl; have hfz24_0 := xC BK839.out 0; have hfz24_1 := xC BK839.out 1))
  go_ret2
  exact ⟨_, rfl, by first | exact Kd.R_nil _ _ _ _ _ | exact Kd.N_nil _ _ _ _ _ | exact Kd.V_nil _ _ _ _ _ | exact Kd.Q_nil _ _ _ _ _ | exact Kd.S_nil _ _ _ _ _, by repeat (first | exact HB.out | apply xL | apply xD | apply xH | refine xM ?_ GE839.out)⟩
 rw [if_pos c3] at H
 have c3b0 : (t838 == 0) = true := beq_iff_eq.mpr c3
 have c3b1 : (t838 != 0) = false := bne_eq_false_iff_eq.mpr c3
 clear c3
 replace H := qq H
 obtain ⟨t840, A40, H⟩ := H
 replace H : ((r5walks.f k t840).bind fun t843 => (r5Potential.l0 k l0 t843 ([] : List Int) 0)) = some (r1, r2) := H
 have A4 := xA.mk A40
 clear A40
 replace H := qq H
 obtain ⟨t843, A50, H⟩ := H
 replace H : (r5Potential.l0 k l0 t843 ([] : List Int) 0) = some (r1, r2) := H
 have A5 := xA.mk A50
 clear A50
 have H' := xA.mk H
 clear H
 go_enter Try.func29, Try.ntmps29
 go_wp2_with (first | ((with_reducible refine xG (f := 32) rfl ?_); refine xP (some 13) rfl rfl Try.func32 (by kernel_rfl) rfl #[.slice A0 l0.length c0] rfl qc ?_; (with_reducible refine (r5Speed.calls k _ _ l0 t836 t837 t838 _ ?side1 ?side2 A2.out).mono ?_); (case side1 => exact qm HR0.out); (case side2 => exact HC0.out); rintro e w6 ⟨rfl, hb⟩; refine ⟨_, rfl, ?_⟩; replace HB := xA.mk (xE qa hb); (try clear hb); (try clear hb2); (try clear hk); (try clear hi)) | ((with_reducible refine xX (N := 4) rfl ?_); refine yC ?hg (N := 4) ?hd (cs := #[.int .i64 0, .int .i64 0]) (t := 37) ?hr ?_; (case hd => rfl); (case hg => rfl); (case hr => first | (go_simp; done) | (go_simp; rfl)); intro gb839 hg w7 hbox hb; have n0_ := xA.mk (xE qa hb); have n1_ := xA.mk (hbox); have n2_ := xA.mk ((by rw [hg]; exact (xB qa) : w.heap.size ≤ gb839)); have n3_ := xA.mk ((by rw [hg]; exact (xB qa) : w.heap.size ≤ gb839)); clear HB; have HB := n0_; have BK839 := n1_; have GW839 := n2_; have GE839 := n3_; clear n0_ n1_ n2_ n3_; clear hb hbox hg; have hcz8_0 : w7.cell? ⟨gb839, 0, none⟩ = some (.int .i64 0) := (xF BK839.out 0).trans rfl; have hcz8_1 : w7.cell? ⟨gb839, 1, none⟩ = some (.int .i64 0) := (xF BK839.out 1).trans rfl; have hfz8_0 := xC BK839.out 0; have hfz8_1 := xC BK839.out 1) | ((with_reducible refine xG (f := 53) rfl ?_); refine xP (some 21) rfl rfl Try.func53 (by kernel_rfl) rfl #[.slice A0 l0.length c0, .agg #[.int .i64 t836, .int .i64 t837]] rfl qc ?_; (with_reducible refine (r5scaled.calls k _ _ l0 t836 t837 t840 _ ?side1 ?side2 A4.out).mono ?_); (case side1 => exact Kd.xW HR0.out (by repeat (first | (with_reducible first | exact HB.out | apply xL | apply xD | apply xH | refine xM ?_ GE839.out) | exact HB.out))); (case side2 => exact HC0.out); rintro e w9 ⟨v841, rfl, ho0, hb⟩; refine ⟨_, rfl, ?_⟩; have n0_ := xA.mk (Kd.xZ ho0 (xB (by repeat (first | (with_reducible first | exact HB.out | apply xL | apply xD | apply xH | refine xM ?_ GE839.out) | exact HB.out)))); have n1_ := xA.mk (xT (g := gb839) (o := .cells #[.int .i64 t836, .int .i64 t837] 37 (0, 0)) (by (with_reducible repeat (first | refine xJ ?_ _ | refine xK ?_ | refine xI ?_ _)); refine xV (cs := #[.int .i64 t836, .int .i64 0]) ?_ 1 _ rfl; (with_reducible repeat (first | refine xJ ?_ _ | refine xK ?_ | refine xI ?_ _)); refine xV (cs := #[.int .i64 0, .int .i64 0]) ?_ 0 _ rfl; (with_reducible repeat (first | refine xJ ?_ _ | refine xK ?_ | refine xI ?_ _)); exact BK839.out) hb); have n2_ := xA.mk (xE (by repeat (first | (with_reducible first | exact HB.out | apply xL | apply xD | apply xH | refine xM ?_ GE839.out) | exact HB.out)) hb); clear BK839; clear HB; have HO842 := n0_; have BK839 := n1_; have HB := n2_; clear n0_ n1_ n2_; (try clear hb); (try clear hb2); (try clear hk); (try clear hi); (try clear ho0); obtain ⟨Ao10, co10, eo10⟩ := Kd.yA HO842.out; subst eo10) | ((with_reducible refine xG (f := 52) rfl ?_); refine xP (some 22) rfl rfl Try.func52 (by kernel_rfl) rfl #[.slice Ao10 t840.length co10] rfl qc ?_; (with_reducible refine (r5walks.calls k _ _ t840 t843 _ ?side1 ?side2 A5.out).mono ?_); (case side1 => exact qm (Kd.xN HO842.out).2.2); (case side2 => exact (Kd.xN HO842.out).2.1); rintro e w11 ⟨v844, rfl, ho0, hb⟩; refine ⟨_, rfl, ?_⟩; have n0_ := xA.mk (Kd.yB (qh HO842.out) (Kd.S_base ho0) hb); have n1_ := xA.mk (Kd.xZ (Kd.S_new' ho0 (Kd.S_lt (qh HO842.out))) (xB (by repeat (first | (with_reducible first | exact HB.out | apply xL | apply xD | apply xH | refine xM ?_ GE839.out) | exact HB.out)))); have n2_ := xA.mk (xT (g := gb839) (o := .cells #[.int .i64 t836, .int .i64 t837] 37 (0, 0)) (by (with_reducible repeat (first | refine xJ ?_ _ | refine xK ?_ | refine xI ?_ _)); exact BK839.out) hb); have n3_ := xA.mk (xE (by repeat (first | (with_reducible first | exact HB.out | apply xL | apply xD | apply xH | refine xM ?_ GE839.out) | exact HB.out)) hb); clear HO842; clear BK839; clear HB; have HO842 := n0_; have HO845 := n1_; have BK839 := n2_; have HB := n3_; clear n0_ n1_ n2_ n3_; (try clear hb); (try clear hb2); (try clear hk); (try clear hi); (try clear ho0)))
 go_loopg [7, 8] k (fun kq v7 v8 w' => ∃ (x7_1 : List Int) (x8_1 : Int), v8 = .int .i64 x8_1 ∧ xA (r5Potential.l0 kq l0 t843 x7_1 x8_1 = some (r1, r2)) ∧ xA (kq ≤ k) ∧ xA (Kd.S (Kd.slice 3 (Kd.int .i64)) 26 w' w.heap.size (fun k_ => some k_ ≠ (v7 : Value).ownBlock) v844 t843) ∧ xA (Kd.R (Kd.int .i64) 3 w' w.heap.size (fun _ => True) v7 x7_1) ∧ xA (w'.heap[gb839]? = some (.cells #[.int .i64 t836, .int .i64 t837] 37 (0, 0))) ∧ xA (Below w.heap.size w w'))
 case atStart => exact ⟨(([] : List Int)), (0), qf, H', ⟨Nat.le_refl _⟩, ⟨by (with_reducible repeat (first | apply Kd.S_alloc | apply Kd.S_drewN | apply Kd.S_drew)); exact Kd.xR HO845.out (fun _ hk => (by simp [Value.ownBlock]))⟩, ⟨by first | exact Kd.R_nil _ _ _ _ _ | exact Kd.N_nil _ _ _ _ _ | exact Kd.V_nil _ _ _ _ _ | exact Kd.Q_nil _ _ _ _ _ | exact Kd.S_nil _ _ _ _ _⟩, ⟨by (with_reducible repeat (first | refine xJ ?_ _ | refine xK ?_ | refine xI ?_ _)); exact BK839.out⟩, ⟨by repeat (first | (with_reducible first | exact HB.out | apply xL | apply xD | apply xH | refine xM ?_ GE839.out) | exact HB.out)⟩⟩
 case round =>
  clear H'
  try clear c2
  try clear p2
  try clear c3
  try clear c3b0
  try clear c3b1
  try clear c5
  try clear hcz8_0
  try clear hcz8_1
  obtain ⟨x7_1, x8_1, rfl, HA, HK1, HO_6, HO_7, BK839, HB⟩ := hrel
  obtain _ | k1 := gk
  · exact absurd HA.out (by simp [r5Potential.l0])
  have H := HA.out
  clear HA
  simp only [r5Potential.l0] at H
  by_cases c12 : x8_1 < (l0.length : Int)
  rotate_left
  ·
   rw [if_neg c12] at H
   have c12b0 : decide (x8_1 < (l0.length : Int)) = false := qp c12
   clear c12
   simp only [Option.some.injEq, Prod.mk.injEq] at H
   obtain ⟨rfl, rfl⟩ := H
   go_wp2
   go_ret2
   exact ⟨_, rfl, by exact HO_7.out, HB.out⟩
  rw [if_pos c12] at H
  have c12b0 : decide (x8_1 < (l0.length : Int)) = true := qo c12
  clear c12
  have H' := xA.mk H
  clear H
  go_wp2
  go_loopg [9, 10] k1 (fun kq v9 v10 w' => ∃ (x9_2 : Int) (x10_2 : Int), v9 = .int .i64 x9_2 ∧ v10 = .int .i64 x10_2 ∧ xA (r5Potential.l1 kq l0 t843 x7_1 x8_1 x9_2 x10_2 = some (r1, r2)) ∧ xA (kq ≤ k1) ∧ xA (Kd.S (Kd.slice 3 (Kd.int .i64)) 26 w' w.heap.size (fun k_ => some k_ ≠ (u7 : Value).ownBlock) v844 t843) ∧ xA (Kd.R (Kd.int .i64) 3 w' w.heap.size (fun _ => True) u7 x7_1) ∧ xA (w'.heap[gb839]? = some (.cells #[.int .i64 t836, .int .i64 t837] 37 (0, 0))) ∧ xA (Below w.heap.size w w'))
  case atStart => exact ⟨(0), (0), rfl, rfl, H', ⟨Nat.le_refl _⟩, ⟨by exact HO_6.out⟩, ⟨by exact HO_7.out⟩, ⟨by exact BK839.out⟩, ⟨HB.out⟩⟩
  case round =>
   clear H'
   obtain ⟨x9_2, x10_2, rfl, rfl, HA, HK2, HO_6, HO_7, BK839, HB⟩ := hrel
   obtain _ | k2 := gk
   · exact absurd HA.out (by simp [r5Potential.l1])
   have H := HA.out
   clear HA
   simp only [r5Potential.l1] at H
   by_cases c13 : x10_2 < (l0.length : Int)
   rotate_left
   ·
    rw [if_neg c13] at H
    have c13b0 : decide (x10_2 < (l0.length : Int)) = false := qp c13
    clear c13
    obtain ⟨c20, H⟩ := yD H
    have LMc20 := xA.mk c20
    clear c20
    obtain ⟨y848, hy848⟩ : ∃ y_ : List Int, y_ = (x7_1 ++ [x9_2]) := ⟨_, rfl⟩
    replace H : (r5Potential.l0 k2 l0 t843 y848 (wrap64 (x8_1 + 1))) = some (r1, r2) := by rw [hy848]; exact H
    have Ny848 := xA.mk hy848
    clear hy848
    have H' := xA.mk H
    clear H
    go_wp2_with (first | ((with_reducible refine gate_builtin (b := .append) (xs := #[.tmp 44, .tmp 46]) rfl ?_); at_builtin; refine Kd.R_append (Kd.int .i64) (w0 := w) w.heap.size rfl (.tmp 44) (.tmp 46) 26 3 (.int .i64 0) 8 rfl Try.underlying26 info3 rfl (by decide) (by omega) u7 x7_1 x9_2 [.int .i64 x9_2] (fun _ => True) (fun _ => False) rfl rfl ?aP (fun _ hk => hk.elim) ?aF ?aO ?aB ?aS ?aL ?_; (case aP => exact rfl); (case aB => exact (HB.out)); (case aF => exact (fun _ _ => trivial)); (case aO => exact (by exact HO_7.out)); (case aS => exact (xB (HB.out))); (case aL => have := LMc20.out; omega); intro v849 w21 ho hb hg hat; rw [← Ny848.out] at ho; have n0_ := xA.mk (Kd.S_after (ok := (fun _ => True)) (by exact Kd.xR HO_6.out (fun _ hk => ⟨trivial, hk⟩)) hg hat); have n1_ := xA.mk (blk_grown (g := gb839) (o := .cells #[.int .i64 t836, .int .i64 t837] 37 (0, 0)) (by exact BK839.out) hg (Kd.R_ne HO_7.out BK839.out (by decide))); have n2_ := xA.mk (hb); have n3_ := xA.mk (ho); clear HO_6; clear BK839; clear HB; clear HO_7; have HO_6 := n0_; have BK839 := n1_; have HB := n2_; have HO850 := n3_; clear n0_ n1_ n2_ n3_; clear ho hb hg hat))
    go_roundg k2
    case measure => have := HK1.out; have := HK2.out; omega
    case rel => exact ⟨(y848), (wrap64 (x8_1 + 1)), rfl, H', ⟨by have := HK1.out; have := HK2.out; omega⟩, ⟨by exact Kd.xR HO_6.out (fun _ hk => hk.2)⟩, ⟨by exact HO850.out⟩, ⟨by exact BK839.out⟩, ⟨HB.out⟩⟩
   rw [if_pos c13] at H
   have c13b0 : decide (x10_2 < (l0.length : Int)) = true := qo c13
   clear c13
   obtain ⟨c14b0, H⟩ := xO H
   obtain ⟨c15b0, H⟩ := xO H
   obtain ⟨c16b0, H⟩ := xO H
   obtain ⟨c17b0, H⟩ := xO H
   obtain ⟨ji18, hji18⟩ : ∃ j_ : Int, (mx x9_2 (rd (rd_L1 t843 x8_1) x10_2)) = j_ := ⟨_, rfl⟩
   replace H : (r5Potential.l1 k2 l0 t843 x7_1 x8_1 ji18 (wrap64 (x10_2 + 1))) = some (r1, r2) := by first | (rw [hji18] at H; exact H) | (simp only [hji18] at H ⊢; exact H)
   have hji18_ : (if x9_2 < (rd (rd_L1 t843 x8_1) x10_2) then (rd (rd_L1 t843 x8_1) x10_2) else x9_2) = ji18 := hji18
   have H' := xA.mk H
   clear H
   obtain ⟨Ao19, co19, eo19⟩ := Kd.yA HO_6.out
   subst eo19
   have p846 : 0 ≤ (x8_1 : Int) := qn (by assumption)
   have q846 : x8_1 < (t843.length : Int) := qn (by assumption)
   obtain ⟨ad846, A846_0, c846_0, e846, hx846_0, hl846_0, hi846_0⟩ := at_L1 (Kd.xN HO_6.out).2.2 x8_1 p846 q846
   cases e846
   obtain ⟨ce846, hce846, hMe846, hcc846⟩ := Kd.S_get HO_6.out [] x8_1 p846 (by first | exact q846 | exact qn (by assumption) | (have e_ := (Kd.xN HO_6.out).1; omega))
   obtain ⟨ve846_0, rfl, ge846_0⟩ := hMe846
   have hv846_0 := hcc846 0 _ rfl
   rw [Nat.add_zero, show ((Kd.slice 3 (Kd.int .i64))).sz = 1 from rfl, Nat.mul_one] at hv846_0
   replace hv846_0 := qr (hv846_0.symm.trans hx846_0)
   rw [hv846_0] at ge846_0
   have HL846_0 := xA.mk (show Kd.R (Kd.int .i64) 3 _ _ _ _ (rd_L1 t843 x8_1) from ge846_0)
   clear hv846_0 ge846_0
   clear hcc846 hce846
   have HR846_0 := xA.mk hi846_0
   have HC846_0 := xA.mk hl846_0
   clear hi846_0 hl846_0
   replace p846 := eq_true p846
   replace q846 := eq_true q846
   have p847 : 0 ≤ (x10_2 : Int) := qn (by assumption)
   have q847 : x10_2 < ((rd_L1 t843 x8_1).length : Int) := qn (by assumption)
   obtain ⟨ad847, e847, hx847_0⟩ := Kd.xU (by repeat (first | (with_reducible exact HR846_0.out) | exact HR846_0.out)) x10_2 p847 q847
   cases e847
   replace p847 := eq_true p847
   replace q847 := eq_true q847
   go_wp2
   go_roundg k2
   case measure => have := HK1.out; have := HK2.out; omega
   case rel => exact ⟨(ji18), (wrap64 (x10_2 + 1)), (by first | rfl | (simp; done) | (simp only [← hji18] <;> (first | rfl | simp)) | (simp [*]; done)), rfl, H', ⟨by have := HK1.out; have := HK2.out; omega⟩, ⟨by exact HO_6.out⟩, ⟨by exact HO_7.out⟩, ⟨by exact BK839.out⟩, ⟨HB.out⟩⟩
def r5Star.f (k : Nat) (l0 : List (List Int)) : Option ((List (List Int)) × Int) := (r5Matrix.f k l0).bind fun t851 => (if t851 = true then ((r5best.f k l0).bind fun t852 => (if (t852.length : Int) = 0 then ((r5walks.f k l0).bind fun t855 => (some (t855, 0))) else ((r5weight.f k l0 t852).bind fun t858 => (if t858 > 0 then (some (([] : List (List Int)), 11)) else ((r5walks.f k l0).bind fun t859 => (some (t859, 0))))))) else (some (([] : List (List Int)), 2)))
set_option maxHeartbeats 8000000 in
set_option maxRecDepth 100000 in
theorem r5Star.calls (k : Nat) (A0 : Option Addr) (c0 : Nat) (l0 : List (List Int)) (r1 : List (List Int)) (r2 : Int) (w : World) (hr0 : Kd.C (Kd.slice 3 (Kd.int .i64)) w A0 l0.length l0) (hc0 : l0.length ≤ c0) (h : r5Star.f k l0 = some (r1, r2)) :
  Calls Try.prog 30 #[.slice A0 l0.length c0] w fun e w' => ∃ v0_ : Value, e = .returned (.tuple #[v0_, .int .i64 r2]) ∧ Kd.S (Kd.slice 3 (Kd.int .i64)) 26 w' w.heap.size (fun _ => True) v0_ r1 ∧ Below w.heap.size w w' := by
 have HR0 := xA.mk hr0
 have HC0 := xA.mk hc0
 clear hr0 hc0
 have HB := xA.mk (Below.refl w.heap.size w)
 have H : ((r5Matrix.f k l0).bind fun t851 => (if t851 = true then ((r5best.f k l0).bind fun t852 => (if (t852.length : Int) = 0 then ((r5walks.f k l0).bind fun t855 => (some (t855, 0))) else ((r5weight.f k l0 t852).bind fun t858 => (if t858 > 0 then (some (([] : List (List Int)), 11)) else ((r5walks.f k l0).bind fun t859 => (some (t859, 0))))))) else (some (([] : List (List Int)), 2)))) = some (r1, r2) := h
 clear h
 replace H := qq H
 obtain ⟨t851, A20, H⟩ := H
 replace H : (if t851 = true then ((r5best.f k l0).bind fun t852 => (if (t852.length : Int) = 0 then ((r5walks.f k l0).bind fun t855 => (some (t855, 0))) else ((r5weight.f k l0 t852).bind fun t858 => (if t858 > 0 then (some (([] : List (List Int)), 11)) else ((r5walks.f k l0).bind fun t859 => (some (t859, 0))))))) else (some (([] : List (List Int)), 2))) = some (r1, r2) := H
 have A2 := xA.mk A20
 clear A20
 by_cases c3 : t851 = true
 rotate_left
 ·
  replace c3 := Bool.eq_false_iff.mpr c3
  subst c3
  have H1 : (some (([] : List (List Int)), 2)) = some (r1, r2) := by rw [if_neg (show ¬ (false = true) by decide)] at H; exact H
  clear H
  have H := H1
  clear H1
  simp only [Option.some.injEq, Prod.mk.injEq] at H
  obtain ⟨rfl, rfl⟩ := H
  go_enter Try.func30, Try.ntmps30
  go_wp2_with (first | ((with_reducible refine xG (f := 49) rfl ?_); refine xP (some 6) rfl rfl Try.func49 (by kernel_rfl) rfl #[.slice A0 l0.length c0] rfl qd ?_; (with_reducible refine (r5Matrix.calls k _ _ l0 false _ ?side1 ?side2 A2.out).mono ?_); (case side1 => repeat (first | exact HR0.out)); (case side2 => exact HC0.out); rintro e w' ⟨rfl, ⟨nd, rfl⟩⟩; refine ⟨_, rfl, ?_⟩))
  go_ret2
  exact ⟨_, rfl, by first | exact Kd.S_nil _ _ _ _ _ | exact Kd.N_nil _ _ _ _ _ | exact Kd.V_nil _ _ _ _ _ | exact Kd.Q_nil _ _ _ _ _ | exact Kd.R_nil _ _ _ _ _, qb⟩
 subst c3
 have H1 : ((r5best.f k l0).bind fun t852 => (if (t852.length : Int) = 0 then ((r5walks.f k l0).bind fun t855 => (some (t855, 0))) else ((r5weight.f k l0 t852).bind fun t858 => (if t858 > 0 then (some (([] : List (List Int)), 11)) else ((r5walks.f k l0).bind fun t859 => (some (t859, 0))))))) = some (r1, r2) := by rw [if_pos rfl] at H; exact H
 clear H
 have H := H1
 clear H1
 replace H := qq H
 obtain ⟨t852, A40, H⟩ := H
 replace H : (if (t852.length : Int) = 0 then ((r5walks.f k l0).bind fun t855 => (some (t855, 0))) else ((r5weight.f k l0 t852).bind fun t858 => (if t858 > 0 then (some (([] : List (List Int)), 11)) else ((r5walks.f k l0).bind fun t859 => (some (t859, 0)))))) = some (r1, r2) := H
 have A4 := xA.mk A40
 clear A40
 by_cases c5 : (t852.length : Int) = 0
 ·
  rw [if_pos c5] at H
  have c5b0 : ((t852.length : Int) == 0) = true := beq_iff_eq.mpr c5
  have c5b1 : ((t852.length : Int) != 0) = false := bne_eq_false_iff_eq.mpr c5
  clear c5
  replace H := qq H
  obtain ⟨t855, A60, H⟩ := H
  replace H : (some (t855, 0)) = some (r1, r2) := H
  have A6 := xA.mk A60
  clear A60
  simp only [Option.some.injEq, Prod.mk.injEq] at H
  obtain ⟨rfl, rfl⟩ := H
  go_enter Try.func30, Try.ntmps30
  go_wp2_with (first | ((with_reducible refine xG (f := 49) rfl ?_); refine xP (some 6) rfl rfl Try.func49 (by kernel_rfl) rfl #[.slice A0 l0.length c0] rfl qc ?_; (with_reducible refine (r5Matrix.calls k _ _ l0 true _ ?side1 ?side2 A2.out).mono ?_); (case side1 => exact qm HR0.out); (case side2 => exact HC0.out); rintro e w' ⟨rfl, ⟨nd, rfl⟩⟩; refine ⟨_, rfl, ?_⟩) | ((with_reducible refine xG (f := 72) rfl ?_); refine xP (some 9) rfl rfl Try.func72 (by kernel_rfl) rfl #[.slice A0 l0.length c0] rfl qc ?_; (with_reducible refine (r5best.calls k _ _ l0 t852 _ ?side1 ?side2 A4.out).mono ?_); (case side1 => exact qm HR0.out); (case side2 => exact HC0.out); rintro e w7 ⟨v853, rfl, ho0, hz0_, hb⟩; refine ⟨_, rfl, ?_⟩; have HO854 := xA.mk (Kd.V_lower (Kd.xY (ok' := fun k_ => True) ho0 (fun k_ hk_ => trivial)) (xB qa)); replace HB := xA.mk (xE qa hb); (try clear hb); (try clear hb2); (try clear hk); (try clear hi); (try clear ho0); obtain ⟨Ao8, co8, eo8⟩ := Kd.V_slice HO854.out; subst eo8; have he_ := Kd.V_eql (P := Try.prog) (t := 26) (e' := 3) Try.underlying26 HO854.out hz0_ c5b0; have hn_ := Kd.V_neq (P := Try.prog) (t := 26) (e' := 3) Try.underlying26 HO854.out hz0_ c5b1; clear hz0_) | ((with_reducible refine xG (f := 52) rfl ?_); refine xP (some 19) rfl rfl Try.func52 (by kernel_rfl) rfl #[.slice A0 l0.length c0] rfl qc ?_; (with_reducible refine (r5walks.calls k _ _ l0 t855 _ ?side1 ?side2 A6.out).mono ?_); (case side1 => exact qm (Kd.xW HR0.out HB.out)); (case side2 => exact HC0.out); rintro e w9 ⟨v856, rfl, ho0, hb⟩; refine ⟨_, rfl, ?_⟩; replace HO854 := xA.mk (Kd.V_elder' (qj HO854.out) (Kd.S_base ho0) hb); have HO857 := xA.mk (Kd.xZ ho0 (xB qa)); replace HB := xA.mk (xE qa hb); (try clear hb); (try clear hb2); (try clear hk); (try clear hi); (try clear ho0)))
  go_ret2
  exact ⟨_, qg, qh HO857.out, qa⟩
 rw [if_neg c5] at H
 have c5b0 : ((t852.length : Int) == 0) = false := jb c5
 have c5b1 : ((t852.length : Int) != 0) = true := bne_iff_ne.mpr c5
 have c5b2 : ¬ (t852 = []) := fun h_ => c5 (by rw [h_]; rfl)
 replace H := qq H
 obtain ⟨t858, A100, H⟩ := H
 replace H : (if t858 > 0 then (some (([] : List (List Int)), 11)) else ((r5walks.f k l0).bind fun t859 => (some (t859, 0)))) = some (r1, r2) := H
 have A10 := xA.mk A100
 clear A100
 by_cases c11 : t858 > 0
 ·
  rw [if_pos c11] at H
  have c11b0 : decide (0 < t858) = true := qo c11
  clear c11
  simp only [Option.some.injEq, Prod.mk.injEq] at H
  obtain ⟨rfl, rfl⟩ := H
  go_enter Try.func30, Try.ntmps30
  go_wp2_with (first | ((with_reducible refine xG (f := 49) rfl ?_); refine xP (some 6) rfl rfl Try.func49 (by kernel_rfl) rfl #[.slice A0 l0.length c0] rfl qc ?_; (with_reducible refine (r5Matrix.calls k _ _ l0 true _ ?side1 ?side2 A2.out).mono ?_); (case side1 => exact qm HR0.out); (case side2 => exact HC0.out); rintro e w' ⟨rfl, ⟨nd, rfl⟩⟩; refine ⟨_, rfl, ?_⟩) | ((with_reducible refine xG (f := 72) rfl ?_); refine xP (some 9) rfl rfl Try.func72 (by kernel_rfl) rfl #[.slice A0 l0.length c0] rfl qc ?_; (with_reducible refine (r5best.calls k _ _ l0 t852 _ ?side1 ?side2 A4.out).mono ?_); (case side1 => exact qm HR0.out); (case side2 => exact HC0.out); rintro e w12 ⟨v853, rfl, ho0, hz0_, hb⟩; refine ⟨_, rfl, ?_⟩; have HO854 := xA.mk (Kd.V_lower (Kd.xY (ok' := fun k_ => True) ho0 (fun k_ hk_ => trivial)) (xB qa)); replace HB := xA.mk (xE qa hb); (try clear hb); (try clear hb2); (try clear hk); (try clear hi); (try clear ho0); obtain ⟨Ao13, co13, eo13⟩ := Kd.V_slice HO854.out; subst eo13; have he_ := Kd.V_eql (P := Try.prog) (t := 26) (e' := 3) Try.underlying26 HO854.out hz0_ c5b0; have hn_ := Kd.V_neq (P := Try.prog) (t := 26) (e' := 3) Try.underlying26 HO854.out hz0_ c5b1; clear hz0_) | (go_at_call 73; (with_reducible refine (r5weight.calls k _ _ l0 _ _ t852 t858 _ ?side1 ?side2 ?side3 ?side4 A10.out).mono ?_); (case side1 => exact qm (Kd.xW HR0.out HB.out)); (case side2 => exact HC0.out); (case side3 => exact qm (Kd.xS HO854.out).2.2); (case side4 => exact (Kd.xS HO854.out).2.1); rintro e w' ⟨rfl, ⟨nd, rfl⟩⟩))
  go_ret2
  exact ⟨_, qg, by first | exact Kd.S_nil _ _ _ _ _ | exact Kd.N_nil _ _ _ _ _ | exact Kd.V_nil _ _ _ _ _ | exact Kd.Q_nil _ _ _ _ _ | exact Kd.R_nil _ _ _ _ _, qa⟩
 rw [if_neg c11] at H
 have c11b0 : decide (0 < t858) = false := qp c11
 clear c11
 replace H := qq H
 obtain ⟨t859, A140, H⟩ := H
 replace H : (some (t859, 0)) = some (r1, r2) := H
 have A14 := xA.mk A140
 clear A140
 simp only [Option.some.injEq, Prod.mk.injEq] at H
 obtain ⟨rfl, rfl⟩ := H
 go_enter Try.func30, Try.ntmps30
 go_wp2_with (first | ((with_reducible refine xG (f := 49) rfl ?_); refine xP (some 6) rfl rfl Try.func49 (by kernel_rfl) rfl #[.slice A0 l0.length c0] rfl qc ?_; (with_reducible refine (r5Matrix.calls k _ _ l0 true _ ?side1 ?side2 A2.out).mono ?_); (case side1 => exact qm HR0.out); (case side2 => exact HC0.out); rintro e w' ⟨rfl, ⟨nd, rfl⟩⟩; refine ⟨_, rfl, ?_⟩) | ((with_reducible refine xG (f := 72) rfl ?_); refine xP (some 9) rfl rfl Try.func72 (by kernel_rfl) rfl #[.slice A0 l0.length c0] rfl qc ?_; (with_reducible refine (r5best.calls k _ _ l0 t852 _ ?side1 ?side2 A4.out).mono ?_); (case side1 => exact qm HR0.out); (case side2 => exact HC0.out); rintro e w15 ⟨v853, rfl, ho0, hz0_, hb⟩; refine ⟨_, rfl, ?_⟩; have HO854 := xA.mk (Kd.V_lower (Kd.xY (ok' := fun k_ => True) ho0 (fun k_ hk_ => trivial)) (xB qa)); replace HB := xA.mk (xE qa hb); (try clear hb); (try clear hb2); (try clear hk); (try clear hi); (try clear ho0); obtain ⟨Ao16, co16, eo16⟩ := Kd.V_slice HO854.out; subst eo16; have he_ := Kd.V_eql (P := Try.prog) (t := 26) (e' := 3) Try.underlying26 HO854.out hz0_ c5b0; have hn_ := Kd.V_neq (P := Try.prog) (t := 26) (e' := 3) Try.underlying26 HO854.out hz0_ c5b1; clear hz0_) | (go_at_call 73; (with_reducible refine (r5weight.calls k _ _ l0 _ _ t852 t858 _ ?side1 ?side2 ?side3 ?side4 A10.out).mono ?_); (case side1 => exact qm (Kd.xW HR0.out HB.out)); (case side2 => exact HC0.out); (case side3 => exact qm (Kd.xS HO854.out).2.2); (case side4 => exact (Kd.xS HO854.out).2.1); rintro e w' ⟨rfl, ⟨nd, rfl⟩⟩) | ((with_reducible refine xG (f := 52) rfl ?_); refine xP (some 19) rfl rfl Try.func52 (by kernel_rfl) rfl #[.slice A0 l0.length c0] rfl qc ?_; (with_reducible refine (r5walks.calls k _ _ l0 t859 _ ?side1 ?side2 A14.out).mono ?_); (case side1 => repeat (first | exact (Kd.xW HR0.out qa) | (with_reducible refine Kd.C_alloc ?_ _) | (with_reducible refine Kd.C_drewN ?_ _) | (with_reducible refine Kd.C_drew ?_))); (case side2 => exact HC0.out); rintro e w17 ⟨v860, rfl, ho0, hb⟩; refine ⟨_, rfl, ?_⟩; replace HO854 := xA.mk (Kd.V_elder' (qj HO854.out) (Kd.S_base ho0) hb); have HO861 := xA.mk (Kd.xZ ho0 (xB qa)); replace HB := xA.mk (xE qa hb); (try clear hb); (try clear hb2); (try clear hk); (try clear hi); (try clear ho0)))
 go_ret2
 exact ⟨_, qg, qh HO861.out, qa⟩
def r5connected.l0 : Nat → List (List Int) → Int → Option (Bool)
 | 0, _, _ => none
 | k + 1, x4, x5 => if x5 < (x4.length : Int) then (if 0 ≤ x5 then ((r5has.f k (rd_L1 x4 x5) (-1152921504606846976)).bind fun t544 => (if t544 = true then (some false) else (r5connected.l0 k x4 (wrap64 (x5 + 1))))) else (none)) else (some true)
def r5connected.f (k : Nat) (l0 : List (List Int)) : Option (Bool) := (r5scaled.f k l0 0 0).bind fun t537 => ((r5walks.f k t537).bind fun t540 => (r5connected.l0 k t540 0))
set_option maxHeartbeats 8000000 in
set_option maxRecDepth 100000 in
theorem r5connected.calls (k : Nat) (A0 : Option Addr) (c0 : Nat) (l0 : List (List Int)) (r : Bool) (w : World) (hr0 : Kd.C (Kd.slice 3 (Kd.int .i64)) w A0 l0.length l0) (hc0 : l0.length ≤ c0) (h : r5connected.f k l0 = some r) :
  Calls Try.prog 50 #[.slice A0 l0.length c0] w fun e w' => e = .returned (.bool r) ∧ Below w.heap.size w w' := by
 have hu37 := Try.underlying37
 have HR0 := xA.mk hr0
 have HC0 := xA.mk hc0
 clear hr0 hc0
 have HB := xA.mk (Below.refl w.heap.size w)
 have H : ((r5scaled.f k l0 0 0).bind fun t537 => ((r5walks.f k t537).bind fun t540 => (r5connected.l0 k t540 0))) = some r := h
 clear h
 replace H := qq H
 obtain ⟨t537, A20, H⟩ := H
 replace H : ((r5walks.f k t537).bind fun t540 => (r5connected.l0 k t540 0)) = some r := H
 have A2 := xA.mk A20
 clear A20
 replace H := qq H
 obtain ⟨t540, A30, H⟩ := H
 replace H : (r5connected.l0 k t540 0) = some r := H
 have A3 := xA.mk A30
 clear A30
 have H' := xA.mk H
 clear H
 go_enter Try.func50, Try.ntmps50
 go_wp2_with (first | ((with_reducible refine xG (f := 53) rfl ?_); refine xP (some 8) rfl rfl Try.func53 (by kernel_rfl) rfl #[.slice A0 l0.length c0, .agg #[.int .i64 0, .int .i64 0]] rfl qd ?_; (with_reducible refine (r5scaled.calls k _ _ l0 0 0 t537 _ ?side1 ?side2 A2.out).mono ?_); (case side1 => repeat (first | exact HR0.out)); (case side2 => exact HC0.out); rintro e w4 ⟨v538, rfl, ho0, hb⟩; refine ⟨_, rfl, ?_⟩; have HO539 := xA.mk (Kd.xZ ho0 (xB (HB.out))); replace HB := xA.mk (xE (HB.out) hb); obtain ⟨Ao5, co5, eo5⟩ := Kd.yA HO539.out; subst eo5) | ((with_reducible refine xG (f := 52) rfl ?_); refine xP (some 10) rfl rfl Try.func52 (by kernel_rfl) rfl #[.slice Ao5 t537.length co5] rfl qd ?_; (with_reducible refine (r5walks.calls k _ _ t537 t540 _ ?side1 ?side2 A3.out).mono ?_); (case side1 => repeat (first | exact (Kd.xN HO539.out).2.2)); (case side2 => exact (Kd.xN HO539.out).2.1); rintro e w6 ⟨v541, rfl, ho0, hb⟩; refine ⟨_, rfl, ?_⟩; have HO542 := xA.mk (Kd.xZ (Kd.S_new' ho0 (Kd.S_lt (by exact HO539.out))) (xB (HB.out))); replace HO539 := xA.mk (Kd.yB (by exact HO539.out) (Kd.S_base ho0) hb); replace HB := xA.mk (xE (HB.out) hb)))
 go_loopg [5] k (fun kq v5 w' => ∃ (x5_1 : Int), v5 = .int .i64 x5_1 ∧ xA (r5connected.l0 kq t540 x5_1 = some r) ∧ xA (kq ≤ k) ∧ xA (Kd.S (Kd.slice 3 (Kd.int .i64)) 26 w' w.heap.size (fun _ => True) v541 t540) ∧ xA (Below w.heap.size w w'))
 case atStart => exact ⟨(0), rfl, H', ⟨Nat.le_refl _⟩, ⟨by exact Kd.xR HO542.out (fun _ hk => trivial)⟩, ⟨HB.out⟩⟩
 case round =>
  clear H'
  obtain ⟨x5_1, rfl, HA, HK1, HO_4, HB⟩ := hrel
  obtain _ | k1 := gk
  · exact absurd HA.out (by simp [r5connected.l0])
  have H := HA.out
  clear HA
  simp only [r5connected.l0] at H
  by_cases c7 : x5_1 < (t540.length : Int)
  rotate_left
  ·
   rw [if_neg c7] at H
   have c7b0 : decide (x5_1 < (t540.length : Int)) = false := qp c7
   clear c7
   obtain rfl := qr H
   obtain ⟨Ao13, co13, eo13⟩ := Kd.yA HO_4.out
   subst eo13
   go_wp2
   go_ret
   exact ⟨rfl, HB.out⟩
  rw [if_pos c7] at H
  have c7b0 : decide (x5_1 < (t540.length : Int)) = true := qo c7
  clear c7
  obtain ⟨c8b0, H⟩ := xO H
  replace H := qq H
  obtain ⟨t544, A90, H⟩ := H
  replace H : (if t544 = true then (some false) else (r5connected.l0 k1 t540 (wrap64 (x5_1 + 1)))) = some r := H
  have A9 := xA.mk A90
  clear A90
  by_cases c10 : t544 = true
  ·
   subst c10
   have H1 : (some false) = some r := by rw [if_pos rfl] at H; exact H
   clear H
   have H := H1
   clear H1
   obtain rfl := qr H
   obtain ⟨Ao11, co11, eo11⟩ := Kd.yA HO_4.out
   subst eo11
   have p543 : 0 ≤ (x5_1 : Int) := qn (by assumption)
   have q543 : x5_1 < (t540.length : Int) := qn (by assumption)
   obtain ⟨ad543, A543_0, c543_0, e543, hx543_0, hl543_0, hi543_0⟩ := at_L1 (Kd.xN HO_4.out).2.2 x5_1 p543 q543
   cases e543
   obtain ⟨ce543, hce543, hMe543, hcc543⟩ := Kd.S_get HO_4.out [] x5_1 p543 (by first | exact q543 | exact qn (by assumption) | (have e_ := (Kd.xN HO_4.out).1; omega))
   obtain ⟨ve543_0, rfl, ge543_0⟩ := hMe543
   have hv543_0 := hcc543 0 _ rfl
   rw [Nat.add_zero, show ((Kd.slice 3 (Kd.int .i64))).sz = 1 from rfl, Nat.mul_one] at hv543_0
   replace hv543_0 := qr (hv543_0.symm.trans hx543_0)
   rw [hv543_0] at ge543_0
   have HL543_0 := xA.mk (show Kd.R (Kd.int .i64) 3 _ _ _ _ (rd_L1 t540 x5_1) from ge543_0)
   clear hv543_0 ge543_0
   clear hcc543 hce543
   have HR543_0 := xA.mk hi543_0
   have HC543_0 := xA.mk hl543_0
   clear hi543_0 hl543_0
   replace p543 := eq_true p543
   replace q543 := eq_true q543
   go_wp2_with (first | ((with_reducible refine xG (f := 85) rfl ?_); refine xP (some 21) rfl rfl Try.func85 (by kernel_rfl) rfl #[.slice A543_0 (rd_L1 t540 x5_1).length c543_0, .int .i64 (-1152921504606846976)] rfl qd ?_; (with_reducible refine (r5has.calls k1 _ _ (rd_L1 t540 x5_1) (-1152921504606846976) true _ ?side1 ?side2 A9.out).mono ?_); (case side1 => repeat (first | exact (by repeat (first | (with_reducible exact HR543_0.out) | exact HR543_0.out)))); (case side2 => exact HC543_0.out); rintro e w' ⟨rfl, ⟨nd, rfl⟩⟩; refine ⟨_, rfl, ?_⟩))
   go_ret
   exact ⟨rfl, qb⟩
  replace c10 := Bool.eq_false_iff.mpr c10
  subst c10
  have H1 : (r5connected.l0 k1 t540 (wrap64 (x5_1 + 1))) = some r := by rw [if_neg (show ¬ (false = true) by decide)] at H; exact H
  clear H
  have H := H1
  clear H1
  have H' := xA.mk H
  clear H
  obtain ⟨Ao12, co12, eo12⟩ := Kd.yA HO_4.out
  subst eo12
  have p543 : 0 ≤ (x5_1 : Int) := qn (by assumption)
  have q543 : x5_1 < (t540.length : Int) := qn (by assumption)
  obtain ⟨ad543, A543_0, c543_0, e543, hx543_0, hl543_0, hi543_0⟩ := at_L1 (Kd.xN HO_4.out).2.2 x5_1 p543 q543
  cases e543
  obtain ⟨ce543, hce543, hMe543, hcc543⟩ := Kd.S_get HO_4.out [] x5_1 p543 (by first | exact q543 | exact qn (by assumption) | (have e_ := (Kd.xN HO_4.out).1; omega))
  obtain ⟨ve543_0, rfl, ge543_0⟩ := hMe543
  have hv543_0 := hcc543 0 _ rfl
  rw [Nat.add_zero, show ((Kd.slice 3 (Kd.int .i64))).sz = 1 from rfl, Nat.mul_one] at hv543_0
  replace hv543_0 := qr (hv543_0.symm.trans hx543_0)
  rw [hv543_0] at ge543_0
  have HL543_0 := xA.mk (show Kd.R (Kd.int .i64) 3 _ _ _ _ (rd_L1 t540 x5_1) from ge543_0)
  clear hv543_0 ge543_0
  clear hcc543 hce543
  have HR543_0 := xA.mk hi543_0
  have HC543_0 := xA.mk hl543_0
  clear hi543_0 hl543_0
  replace p543 := eq_true p543
  replace q543 := eq_true q543
  go_wp2_with (first | ((with_reducible refine xG (f := 85) rfl ?_); refine xP (some 21) rfl rfl Try.func85 (by kernel_rfl) rfl #[.slice A543_0 (rd_L1 t540 x5_1).length c543_0, .int .i64 (-1152921504606846976)] rfl qd ?_; (with_reducible refine (r5has.calls k1 _ _ (rd_L1 t540 x5_1) (-1152921504606846976) false _ ?side1 ?side2 A9.out).mono ?_); (case side1 => repeat (first | exact (by repeat (first | (with_reducible exact HR543_0.out) | exact HR543_0.out)))); (case side2 => exact HC543_0.out); rintro e w' ⟨rfl, ⟨nd, rfl⟩⟩; refine ⟨_, rfl, ?_⟩))
  go_roundg k1
  case measure => have := HK1.out; omega
  case rel => exact ⟨(wrap64 (x5_1 + 1)), rfl, H', ⟨by have := HK1.out; omega⟩, ⟨qh HO_4.out⟩, ⟨qb⟩⟩
def r5Connected.f (k : Nat) (l0 : List (List Int)) : Option (Bool × Int) := (r5Matrix.f k l0).bind fun t862 => (if t862 = true then ((r5connected.f k l0).bind fun t863 => (some (t863, 0))) else (some (false, 2)))
set_option maxHeartbeats 8000000 in
set_option maxRecDepth 100000 in
theorem r5Connected.calls (k : Nat) (A0 : Option Addr) (c0 : Nat) (l0 : List (List Int)) (r1 : Bool) (r2 : Int) (w : World) (hr0 : Kd.C (Kd.slice 3 (Kd.int .i64)) w A0 l0.length l0) (hc0 : l0.length ≤ c0) (h : r5Connected.f k l0 = some (r1, r2)) :
  Calls Try.prog 31 #[.slice A0 l0.length c0] w fun e w' => e = .returned (.tuple #[.bool r1, .int .i64 r2]) ∧ Below w.heap.size w w' := by
 have HR0 := xA.mk hr0
 have HC0 := xA.mk hc0
 clear hr0 hc0
 have HB := xA.mk (Below.refl w.heap.size w)
 have H : ((r5Matrix.f k l0).bind fun t862 => (if t862 = true then ((r5connected.f k l0).bind fun t863 => (some (t863, 0))) else (some (false, 2)))) = some (r1, r2) := h
 clear h
 replace H := qq H
 obtain ⟨t862, A20, H⟩ := H
 replace H : (if t862 = true then ((r5connected.f k l0).bind fun t863 => (some (t863, 0))) else (some (false, 2))) = some (r1, r2) := H
 have A2 := xA.mk A20
 clear A20
 by_cases c3 : t862 = true
 rotate_left
 ·
  replace c3 := Bool.eq_false_iff.mpr c3
  subst c3
  have H1 : (some (false, 2)) = some (r1, r2) := by rw [if_neg (show ¬ (false = true) by decide)] at H; exact H
  clear H
  have H := H1
  clear H1
  simp only [Option.some.injEq, Prod.mk.injEq] at H
  obtain ⟨rfl, rfl⟩ := H
  go_enter Try.func31, Try.ntmps31
  go_wp2_with (first | ((with_reducible refine xG (f := 49) rfl ?_); refine xP (some 5) rfl rfl Try.func49 (by kernel_rfl) rfl #[.slice A0 l0.length c0] rfl qd ?_; (with_reducible refine (r5Matrix.calls k _ _ l0 false _ ?side1 ?side2 A2.out).mono ?_); (case side1 => repeat (first | exact HR0.out)); (case side2 => exact HC0.out); rintro e w' ⟨rfl, ⟨nd, rfl⟩⟩; refine ⟨_, rfl, ?_⟩))
  go_ret2
  exact ⟨rfl, qb⟩
 subst c3
 have H1 : ((r5connected.f k l0).bind fun t863 => (some (t863, 0))) = some (r1, r2) := by rw [if_pos rfl] at H; exact H
 clear H
 have H := H1
 clear H1
 replace H := qq H
 obtain ⟨t863, A40, H⟩ := H
 replace H : (some (t863, 0)) = some (r1, r2) := H
 have A4 := xA.mk A40
 clear A40
 simp only [Option.some.injEq, Prod.mk.injEq] at H
 obtain ⟨rfl, rfl⟩ := H
 go_enter Try.func31, Try.ntmps31
 go_wp2_with (first | ((with_reducible refine xG (f := 49) rfl ?_); refine xP (some 5) rfl rfl Try.func49 (by kernel_rfl) rfl #[.slice A0 l0.length c0] rfl qc ?_; (with_reducible refine (r5Matrix.calls k _ _ l0 true _ ?side1 ?side2 A2.out).mono ?_); (case side1 => exact qm HR0.out); (case side2 => exact HC0.out); rintro e w' ⟨rfl, ⟨nd, rfl⟩⟩; refine ⟨_, rfl, ?_⟩) | ((with_reducible refine xG (f := 50) rfl ?_); refine xP (some 8) rfl rfl Try.func50 (by kernel_rfl) rfl #[.slice A0 l0.length c0] rfl qc ?_; (with_reducible refine (r5connected.calls k _ _ l0 t863 _ ?side1 ?side2 A4.out).mono ?_); (case side1 => exact qm HR0.out); (case side2 => exact HC0.out); rintro e w5 ⟨rfl, hb⟩; refine ⟨_, rfl, ?_⟩; replace HB := xA.mk (xE qa hb); (try clear hb); (try clear hb2); (try clear hk); (try clear hi)))
 go_ret2
 exact ⟨qg, qa⟩
mutual
def l5LineWalks.j0 : Nat → List (List Int) → List (List Int) → Bool → Option (Bool)
 | 0, _, _, _ => none
 | k + 1, x0, x3, x36 => if x36 = true then (some false) else ((line_Star.f k x3).bind fun bt878 => ((r5Star.f k x0).bind fun bt882 => (if bt878.2 = bt882.2 then ((l5rows.f k bt878.1 bt882.1).bind fun t886 => (l5LineWalks.j1 k x0 x3 (!t886))) else (l5LineWalks.j1 k x0 x3 true))))
def l5LineWalks.j1 : Nat → List (List Int) → List (List Int) → Bool → Option (Bool)
 | 0, _, _, _ => none
 | k + 1, x0, x3, x55 => if x55 = true then (some false) else ((line_Connected.f k x3).bind fun bt887 => ((r5Connected.f k x0).bind fun bt889 => (if (bt887.1 == bt889.1) = true then (if bt887.2 = bt889.2 then ((l5rows.f k x3 x0).bind fun t891 => (if t891 = true then ((l5alive.f k).bind fun t892 => (some t892)) else (some false))) else (some false)) else (some false))))
end
def l5LineWalks.f (k : Nat) (l0 : List (List Int)) : Option (Bool) := (l5few.f k l0).bind fun t864 => (if t864 = true then ((l5copied.f k l0).bind fun t866 => ((line_Potential.f k t866).bind fun bt869 => ((r5Potential.f k l0).bind fun bt873 => (if bt869.2 = bt873.2 then ((l5same.f k bt869.1 bt873.1).bind fun t877 => (l5LineWalks.j0 k l0 t866 (!t877))) else (l5LineWalks.j0 k l0 t866 true))))) else ((l5alive.f k).bind fun t865 => (some t865)))
set_option maxHeartbeats 8000000 in
set_option maxRecDepth 100000 in
theorem l5LineWalks.calls (k : Nat) (A0 : Option Addr) (c0 : Nat) (l0 : List (List Int)) (r : Bool) (w : World) (hr0 : Kd.C (Kd.slice 3 (Kd.int .i64)) w A0 l0.length l0) (hc0 : l0.length ≤ c0) (h : l5LineWalks.f k l0 = some r) (hr_ : xA (r = true)) :
  Calls Try.prog 7 #[.slice A0 l0.length c0] w fun e w' => e = .returned (.bool r) ∧ Below w.heap.size w w' := by
 have HR0 := xA.mk hr0
 have HC0 := xA.mk hc0
 clear hr0 hc0
 have HB := xA.mk (Below.refl w.heap.size w)
 have H : ((l5few.f k l0).bind fun t864 => (if t864 = true then ((l5copied.f k l0).bind fun t866 => ((line_Potential.f k t866).bind fun bt869 => ((r5Potential.f k l0).bind fun bt873 => (if bt869.2 = bt873.2 then ((l5same.f k bt869.1 bt873.1).bind fun t877 => (l5LineWalks.j0 k l0 t866 (!t877))) else (l5LineWalks.j0 k l0 t866 true))))) else ((l5alive.f k).bind fun t865 => (some t865)))) = some r := h
 clear h
 replace H := qq H
 obtain ⟨t864, A20, H⟩ := H
 replace H : (if t864 = true then ((l5copied.f k l0).bind fun t866 => ((line_Potential.f k t866).bind fun bt869 => ((r5Potential.f k l0).bind fun bt873 => (if bt869.2 = bt873.2 then ((l5same.f k bt869.1 bt873.1).bind fun t877 => (l5LineWalks.j0 k l0 t866 (!t877))) else (l5LineWalks.j0 k l0 t866 true))))) else ((l5alive.f k).bind fun t865 => (some t865))) = some r := H
 have A2 := xA.mk A20
 clear A20
 by_cases c3 : t864 = true
 rotate_left
 ·
  replace c3 := Bool.eq_false_iff.mpr c3
  subst c3
  have H1 : ((l5alive.f k).bind fun t865 => (some t865)) = some r := by rw [if_neg (show ¬ (false = true) by decide)] at H; exact H
  clear H
  have H := H1
  clear H1
  replace H := qq H
  obtain ⟨t865, A430, H⟩ := H
  replace H : (some t865) = some r := H
  have A43 := xA.mk A430
  clear A430
  obtain rfl := qr H
  go_enter Try.func7, Try.ntmps7
  go_wp2_with (first | ((with_reducible refine xG (f := 12) rfl ?_); refine xP (some 13) rfl rfl Try.func12 (by kernel_rfl) rfl #[.slice A0 l0.length c0] rfl qc ?_; (with_reducible refine (l5few.calls k _ _ l0 false _ ?side1 ?side2 A2.out).mono ?_); (case side1 => exact qm HR0.out); (case side2 => exact HC0.out); rintro e w' ⟨rfl, ⟨nd, rfl⟩⟩; refine ⟨_, rfl, ?_⟩) | ((with_reducible refine xG (f := 13) rfl ?_); refine xP (some 15) rfl rfl Try.func13 (by kernel_rfl) rfl #[] rfl qc ?_; (with_reducible refine (l5alive.calls k  t865 _ A43.out).mono ?_); rintro e w44 ⟨rfl, hb⟩; refine ⟨_, rfl, ?_⟩; replace HB := xA.mk (xE qa hb); (try clear hb); (try clear hb2); (try clear hk); (try clear hi)))
  go_ret
  exact ⟨qg, qa⟩
 subst c3
 have H1 : ((l5copied.f k l0).bind fun t866 => ((line_Potential.f k t866).bind fun bt869 => ((r5Potential.f k l0).bind fun bt873 => (if bt869.2 = bt873.2 then ((l5same.f k bt869.1 bt873.1).bind fun t877 => (l5LineWalks.j0 k l0 t866 (!t877))) else (l5LineWalks.j0 k l0 t866 true))))) = some r := by rw [if_pos rfl] at H; exact H
 clear H
 have H := H1
 clear H1
 replace H := qq H
 obtain ⟨t866, A40, H⟩ := H
 replace H : ((line_Potential.f k t866).bind fun bt869 => ((r5Potential.f k l0).bind fun bt873 => (if bt869.2 = bt873.2 then ((l5same.f k bt869.1 bt873.1).bind fun t877 => (l5LineWalks.j0 k l0 t866 (!t877))) else (l5LineWalks.j0 k l0 t866 true)))) = some r := H
 have A4 := xA.mk A40
 clear A40
 replace H := qq H
 obtain ⟨⟨t869, t870⟩, A50, H⟩ := H
 replace H : ((r5Potential.f k l0).bind fun bt873 => (if t870 = bt873.2 then ((l5same.f k t869 bt873.1).bind fun t877 => (l5LineWalks.j0 k l0 t866 (!t877))) else (l5LineWalks.j0 k l0 t866 true))) = some r := H
 have A5 := xA.mk A50
 clear A50
 replace H := qq H
 obtain ⟨⟨t873, t874⟩, A60, H⟩ := H
 replace H : (if t870 = t874 then ((l5same.f k t869 t873).bind fun t877 => (l5LineWalks.j0 k l0 t866 (!t877))) else (l5LineWalks.j0 k l0 t866 true)) = some r := H
 have A6 := xA.mk A60
 clear A60
 have HC7 := xA.mk H
 clear H
 go_enter Try.func7, Try.ntmps7
 go_upto_region 6 with (first | ((with_reducible refine xG (f := 12) rfl ?_); refine xP (some 13) rfl rfl Try.func12 (by kernel_rfl) rfl #[.slice A0 l0.length c0] rfl qc ?_; (with_reducible refine (l5few.calls k _ _ l0 true _ ?side1 ?side2 A2.out).mono ?_); (case side1 => exact qm HR0.out); (case side2 => exact HC0.out); rintro e w' ⟨rfl, ⟨nd, rfl⟩⟩; refine ⟨_, rfl, ?_⟩) | ((with_reducible refine xG (f := 14) rfl ?_); refine xP (some 17) rfl rfl Try.func14 (by kernel_rfl) rfl #[.slice A0 l0.length c0] rfl qc ?_; (with_reducible refine (l5copied.calls k _ _ l0 t866 _ ?side1 ?side2 A4.out).mono ?_); (case side1 => exact qm HR0.out); (case side2 => exact HC0.out); rintro e w8 ⟨v867, rfl, ho0, hb⟩; refine ⟨_, rfl, ?_⟩; have HO868 := xA.mk (Kd.xZ ho0 (xB qa)); replace HB := xA.mk (xE qa hb); (try clear hb); (try clear hb2); (try clear hk); (try clear hi); (try clear ho0); obtain ⟨Ao9, co9, eo9⟩ := Kd.yA HO868.out; subst eo9) | ((with_reducible refine xG (f := 28) rfl ?_); refine xP (some 20) rfl rfl Try.func28 (by kernel_rfl) rfl #[.slice Ao9 t866.length co9] rfl qc ?_; (with_reducible refine (line_Potential.calls k _ _ t866 t869 t870 _ ?side1 ?side2 A5.out).mono ?_); (case side1 => exact qm (Kd.xN HO868.out).2.2); (case side2 => exact (Kd.xN HO868.out).2.1); rintro e w10 ⟨v871, rfl, ho0, hb⟩; refine ⟨_, rfl, ?_⟩; replace HO868 := xA.mk (Kd.yB (qh HO868.out) (Kd.R_base ho0) hb); have HO872 := xA.mk (Kd.R_lower ho0 (xB qa)); replace HB := xA.mk (xE qa hb); (try clear hb); (try clear hb2); (try clear hk); (try clear hi); (try clear ho0)) | ((with_reducible refine xG (f := 29) rfl ?_); refine xP (some 25) rfl rfl Try.func29 (by kernel_rfl) rfl #[.slice A0 l0.length c0] rfl qc ?_; (with_reducible refine (r5Potential.calls k _ _ l0 t873 t874 _ ?side1 ?side2 A6.out).mono ?_); (case side1 => exact qm (Kd.xW HR0.out HB.out)); (case side2 => exact HC0.out); rintro e w11 ⟨v875, rfl, ho0, hb⟩; refine ⟨_, rfl, ?_⟩; replace HO868 := xA.mk (Kd.yB (qh HO868.out) (Kd.R_base ho0) hb); have HO876 := xA.mk (Kd.R_lower (Kd.R_new' ho0 (Kd.R_lt (qi HO872.out))) (xB qa)); replace HO872 := xA.mk (Kd.R_elder' (qi HO872.out) (Kd.R_base ho0) hb); replace HB := xA.mk (xE qa hb); (try clear hb); (try clear hb2); (try clear hk); (try clear hi); (try clear ho0)))
 (try simp only [Act.put, qt, qu, qv])
 go_cut [36] (fun v36 wc => ∃ (kq : Nat) (x36_6 : Bool), v36 = .bool x36_6 ∧ xA (l5LineWalks.j0 kq l0 t866 x36_6 = some r) ∧ xA (kq ≤ k) ∧ xA (Kd.S (Kd.slice 3 (Kd.int .i64)) 26 wc w.heap.size (fun _ => True) (.slice Ao9 t866.length co9) t866) ∧ xA (Below w.heap.size w wc))
 case first =>
  have H := HC7.out
  clear HC7
  by_cases c12 : t870 = t874
  rotate_left
  ·
   rw [if_neg c12] at H
   have c12b0 : (t870 == t874) = false := jb c12
   (first | rw [c12b0] | skip)
   have H' := xA.mk H
   clear H
   go_wp2
   go_meet
   case rel => exact ⟨_, (true), rfl, H', ⟨by first | omega | exact Nat.le_refl _⟩, ⟨by exact Kd.xR HO868.out (fun _ hk => trivial)⟩, ⟨HB.out⟩⟩
  rw [if_pos c12] at H
  have c12b0 : (t870 == t874) = true := beq_iff_eq.mpr c12
  have c12b1 : (t870 != t874) = false := bne_eq_false_iff_eq.mpr c12
  clear c12
  (first | rw [c12b0] | (simp only [i64_w, i32_w]; rw [c12b0]) | skip)
  replace H := qq H
  obtain ⟨t877, A130, H⟩ := H
  replace H : (l5LineWalks.j0 k l0 t866 (!t877)) = some r := H
  have A13 := xA.mk A130
  clear A130
  have H' := xA.mk H
  clear H
  obtain ⟨Ao14, co14, eo14⟩ := Kd.R_slice HO872.out
  subst eo14
  obtain ⟨Ao15, co15, eo15⟩ := Kd.R_slice HO876.out
  subst eo15
  go_wp2_with (first | (go_at_call 17; (with_reducible refine (l5same.calls k _ _ t869 _ _ t873 t877 _ ?side1 ?side2 ?side3 ?side4 A13.out).mono ?_); (case side1 => repeat (first | exact (Kd.R_reads' HO872.out).2.2)); (case side2 => exact (Kd.R_reads' HO872.out).2.1); (case side3 => repeat (first | exact (Kd.R_reads' HO876.out).2.2)); (case side4 => exact (Kd.R_reads' HO876.out).2.1); rintro e w' ⟨rfl, ⟨nd, rfl⟩⟩))
  go_meet
  case rel => exact ⟨_, (!t877), rfl, H', ⟨by first | omega | exact Nat.le_refl _⟩, ⟨by exact Kd.xR HO868.out (fun _ hk => trivial)⟩, ⟨qb⟩⟩
 case rest =>
  clear HC7
  obtain ⟨kq, x36_6, rfl, HA, HJ6, HO_3, HB⟩ := hcut
  obtain _ | kj6 := kq
  · exact absurd HA.out (by simp [l5LineWalks.j0])
  have H := HA.out
  clear HA
  simp only [l5LineWalks.j0] at H
  by_cases c16 : x36_6 = true
  ·
   subst c16
   have H1 : (some false) = some r := by rw [if_pos rfl] at H; exact H
   clear H
   have H := H1
   clear H1
   exact absurd (H.trans (congrArg some hr_.out)) (by simp)
  replace c16 := Bool.eq_false_iff.mpr c16
  subst c16
  have H1 : ((line_Star.f kj6 t866).bind fun bt878 => ((r5Star.f kj6 l0).bind fun bt882 => (if bt878.2 = bt882.2 then ((l5rows.f kj6 bt878.1 bt882.1).bind fun t886 => (l5LineWalks.j1 kj6 l0 t866 (!t886))) else (l5LineWalks.j1 kj6 l0 t866 true)))) = some r := by rw [if_neg (show ¬ (false = true) by decide)] at H; exact H
  clear H
  have H := H1
  clear H1
  replace H := qq H
  obtain ⟨⟨t878, t879⟩, A170, H⟩ := H
  replace H : ((r5Star.f kj6 l0).bind fun bt882 => (if t879 = bt882.2 then ((l5rows.f kj6 t878 bt882.1).bind fun t886 => (l5LineWalks.j1 kj6 l0 t866 (!t886))) else (l5LineWalks.j1 kj6 l0 t866 true))) = some r := H
  have A17 := xA.mk A170
  clear A170
  replace H := qq H
  obtain ⟨⟨t882, t883⟩, A180, H⟩ := H
  replace H : (if t879 = t883 then ((l5rows.f kj6 t878 t882).bind fun t886 => (l5LineWalks.j1 kj6 l0 t866 (!t886))) else (l5LineWalks.j1 kj6 l0 t866 true)) = some r := H
  have A18 := xA.mk A180
  clear A180
  have HC19 := xA.mk H
  clear H
  go_upto_region 10 with (first | ((with_reducible refine xG (f := 21) rfl ?_); refine xP (some 39) rfl rfl Try.func21 (by kernel_rfl) rfl #[.slice Ao9 t866.length co9] rfl qc ?_; (with_reducible refine (line_Star.calls kj6 _ _ t866 t878 t879 _ ?side1 ?side2 A17.out).mono ?_); (case side1 => exact qm (Kd.xN HO_3.out).2.2); (case side2 => exact (Kd.xN HO_3.out).2.1); rintro e w20 ⟨v880, rfl, ho0, hb⟩; refine ⟨_, rfl, ?_⟩; have HO881 := xA.mk (Kd.xZ (Kd.S_new' ho0 (Kd.S_lt (qh HO_3.out))) (xB qa)); replace HO_3 := xA.mk (Kd.yB (qh HO_3.out) (Kd.S_base ho0) hb); replace HB := xA.mk (xE qa hb); (try clear hb); (try clear hb2); (try clear hk); (try clear hi); (try clear ho0)) | ((with_reducible refine xG (f := 30) rfl ?_); refine xP (some 44) rfl rfl Try.func30 (by kernel_rfl) rfl #[.slice A0 l0.length c0] rfl qc ?_; (with_reducible refine (r5Star.calls kj6 _ _ l0 t882 t883 _ ?side1 ?side2 A18.out).mono ?_); (case side1 => exact qm (Kd.xW HR0.out HB.out)); (case side2 => exact HC0.out); rintro e w21 ⟨v884, rfl, ho0, hb⟩; refine ⟨_, rfl, ?_⟩; have HO885 := xA.mk (Kd.xZ (Kd.S_new' (Kd.S_new' ho0 (Kd.S_lt (qh HO_3.out))) (Kd.S_lt (qh HO881.out))) (xB qa)); replace HO_3 := xA.mk (Kd.yB (qh HO_3.out) (Kd.S_base ho0) hb); replace HO881 := xA.mk (Kd.yB (qh HO881.out) (Kd.S_base ho0) hb); replace HB := xA.mk (xE qa hb); (try clear hb); (try clear hb2); (try clear hk); (try clear hi); (try clear ho0)))
  (try simp only [Act.put, qt, qu, qv])
  go_cut [55] (fun v55 wc => ∃ (kq : Nat) (x55_18 : Bool), v55 = .bool x55_18 ∧ xA (l5LineWalks.j1 kq l0 t866 x55_18 = some r) ∧ xA (kq ≤ kj6) ∧ xA (Kd.S (Kd.slice 3 (Kd.int .i64)) 26 wc w.heap.size (fun _ => True) (.slice Ao9 t866.length co9) t866) ∧ xA (Below w.heap.size w wc))
  case first =>
   have H := HC19.out
   clear HC19
   by_cases c22 : t879 = t883
   rotate_left
   ·
    rw [if_neg c22] at H
    have c22b0 : (t879 == t883) = false := jb c22
    (first | rw [c22b0] | skip)
    have H' := xA.mk H
    clear H
    go_wp2
    go_meet
    case rel => exact ⟨_, (true), rfl, H', ⟨by have := HJ6.out; first | omega | exact Nat.le_refl _⟩, ⟨by exact Kd.xR HO_3.out (fun _ hk => trivial)⟩, ⟨qb⟩⟩
   rw [if_pos c22] at H
   have c22b0 : (t879 == t883) = true := beq_iff_eq.mpr c22
   have c22b1 : (t879 != t883) = false := bne_eq_false_iff_eq.mpr c22
   clear c22
   (first | rw [c22b0] | (simp only [i64_w, i32_w]; rw [c22b0]) | skip)
   replace H := qq H
   obtain ⟨t886, A230, H⟩ := H
   replace H : (l5LineWalks.j1 kj6 l0 t866 (!t886)) = some r := H
   have A23 := xA.mk A230
   clear A230
   have H' := xA.mk H
   clear H
   obtain ⟨Ao24, co24, eo24⟩ := Kd.yA HO881.out
   subst eo24
   obtain ⟨Ao25, co25, eo25⟩ := Kd.yA HO885.out
   subst eo25
   go_wp2_with (first | (go_at_call 20; (with_reducible refine (l5rows.calls kj6 _ _ t878 _ _ t882 t886 _ ?side1 ?side2 ?side3 ?side4 A23.out).mono ?_); (case side1 => repeat (first | exact (Kd.xN HO881.out).2.2)); (case side2 => exact (Kd.xN HO881.out).2.1); (case side3 => repeat (first | exact (Kd.xN HO885.out).2.2)); (case side4 => exact (Kd.xN HO885.out).2.1); rintro e w' ⟨rfl, ⟨nd, rfl⟩⟩))
   go_meet
   case rel => exact ⟨_, (!t886), rfl, H', ⟨by have := HJ6.out; first | omega | exact Nat.le_refl _⟩, ⟨by exact Kd.xR HO_3.out (fun _ hk => trivial)⟩, ⟨qb⟩⟩
  case rest =>
   clear HC19
   obtain ⟨kq, x55_18, rfl, HA, HJ18, HO_3, HB⟩ := hcut
   obtain _ | kj18 := kq
   · exact absurd HA.out (by simp [l5LineWalks.j1])
   have H := HA.out
   clear HA
   simp only [l5LineWalks.j1] at H
   by_cases c26 : x55_18 = true
   ·
    subst c26
    have H1 : (some false) = some r := by rw [if_pos rfl] at H; exact H
    clear H
    have H := H1
    clear H1
    exact absurd (H.trans (congrArg some hr_.out)) (by simp)
   replace c26 := Bool.eq_false_iff.mpr c26
   subst c26
   have H1 : ((line_Connected.f kj18 t866).bind fun bt887 => ((r5Connected.f kj18 l0).bind fun bt889 => (if (bt887.1 == bt889.1) = true then (if bt887.2 = bt889.2 then ((l5rows.f kj18 t866 l0).bind fun t891 => (if t891 = true then ((l5alive.f kj18).bind fun t892 => (some t892)) else (some false))) else (some false)) else (some false)))) = some r := by rw [if_neg (show ¬ (false = true) by decide)] at H; exact H
   clear H
   have H := H1
   clear H1
   replace H := qq H
   obtain ⟨⟨t887, t888⟩, A270, H⟩ := H
   replace H : ((r5Connected.f kj18 l0).bind fun bt889 => (if (t887 == bt889.1) = true then (if t888 = bt889.2 then ((l5rows.f kj18 t866 l0).bind fun t891 => (if t891 = true then ((l5alive.f kj18).bind fun t892 => (some t892)) else (some false))) else (some false)) else (some false))) = some r := H
   have A27 := xA.mk A270
   clear A270
   replace H := qq H
   obtain ⟨⟨t889, t890⟩, A280, H⟩ := H
   replace H : (if (t887 == t889) = true then (if t888 = t890 then ((l5rows.f kj18 t866 l0).bind fun t891 => (if t891 = true then ((l5alive.f kj18).bind fun t892 => (some t892)) else (some false))) else (some false)) else (some false)) = some r := H
   have A28 := xA.mk A280
   clear A280
   by_cases c29 : (t887 == t889) = true
   rotate_left
   ·
    rw [if_neg c29] at H
    have c29b0 : (t887 == t889) = false := by simpa using c29
    (try (have c29b1 : decide (t887 = t889) = false := by simpa using c29))
    (try (have c29b2 : (t887 == t889) = false := by simpa using c29))
    (try (have c29b3 : ¬ (t887 = t889) := by simpa using c29))
    clear c29
    exact absurd (H.trans (congrArg some hr_.out)) (by simp)
   rw [if_pos c29] at H
   have c29b0 : (t887 == t889) = true := c29
   (try (have c29b1 : decide (t887 = t889) = true := by simpa using c29))
   (try (have c29b2 : (t887 == t889) = true := by simpa using c29))
   clear c29
   by_cases c30 : t888 = t890
   rotate_left
   ·
    rw [if_neg c30] at H
    have c30b0 : (t888 == t890) = false := jb c30
    have c30b1 : (t888 != t890) = true := bne_iff_ne.mpr c30
    exact absurd (H.trans (congrArg some hr_.out)) (by simp)
   rw [if_pos c30] at H
   have c30b0 : (t888 == t890) = true := beq_iff_eq.mpr c30
   have c30b1 : (t888 != t890) = false := bne_eq_false_iff_eq.mpr c30
   clear c30
   replace H := qq H
   obtain ⟨t891, A310, H⟩ := H
   replace H : (if t891 = true then ((l5alive.f kj18).bind fun t892 => (some t892)) else (some false)) = some r := H
   have A31 := xA.mk A310
   clear A310
   by_cases c32 : t891 = true
   rotate_left
   ·
    replace c32 := Bool.eq_false_iff.mpr c32
    subst c32
    have H1 : (some false) = some r := by rw [if_neg (show ¬ (false = true) by decide)] at H; exact H
    clear H
    have H := H1
    clear H1
    exact absurd (H.trans (congrArg some hr_.out)) (by simp)
   subst c32
   have H1 : ((l5alive.f kj18).bind fun t892 => (some t892)) = some r := by rw [if_pos rfl] at H; exact H
   clear H
   have H := H1
   clear H1
   replace H := qq H
   obtain ⟨t892, A330, H⟩ := H
   replace H : (some t892) = some r := H
   have A33 := xA.mk A330
   clear A330
   obtain rfl := qr H
   go_wp2_with (first | ((with_reducible refine xG (f := 25) rfl ?_); refine xP (some 58) rfl rfl Try.func25 (by kernel_rfl) rfl #[.slice Ao9 t866.length co9] rfl qc ?_; (with_reducible refine (line_Connected.calls kj18 _ _ t866 t887 t888 _ ?side1 ?side2 A27.out).mono ?_); (case side1 => exact qm (Kd.xN HO_3.out).2.2); (case side2 => exact (Kd.xN HO_3.out).2.1); rintro e w34 ⟨rfl, hb⟩; refine ⟨_, rfl, ?_⟩; replace HO_3 := xA.mk (Kd.S_below (qh HO_3.out) hb); replace HB := xA.mk (xE qa hb); (try clear hb); (try clear hb2); (try clear hk); (try clear hi)) | ((with_reducible refine xG (f := 31) rfl ?_); refine xP (some 63) rfl rfl Try.func31 (by kernel_rfl) rfl #[.slice A0 l0.length c0] rfl qc ?_; (with_reducible refine (r5Connected.calls kj18 _ _ l0 t889 t890 _ ?side1 ?side2 A28.out).mono ?_); (case side1 => exact qm (Kd.xW HR0.out HB.out)); (case side2 => exact HC0.out); rintro e w35 ⟨rfl, hb⟩; refine ⟨_, rfl, ?_⟩; replace HO_3 := xA.mk (Kd.S_below (qh HO_3.out) hb); replace HB := xA.mk (xE qa hb); (try clear hb); (try clear hb2); (try clear hk); (try clear hi)) | (go_at_call 20; (with_reducible refine (l5rows.calls kj18 _ _ t866 _ _ l0 true _ ?side1 ?side2 ?side3 ?side4 A31.out).mono ?_); (case side1 => exact qm (Kd.xN HO_3.out).2.2); (case side2 => exact (Kd.xN HO_3.out).2.1); (case side3 => exact qm (Kd.xW HR0.out HB.out)); (case side4 => exact HC0.out); rintro e w' ⟨rfl, ⟨nd, rfl⟩⟩) | (go_at_call 13; (with_reducible refine (l5alive.calls kj18  t892 _ A33.out).mono ?_); rintro e w36 ⟨rfl, hb⟩; replace HO_3 := xA.mk (Kd.S_below (qh HO_3.out) hb); replace HB := xA.mk (xE qa hb); (try clear hb); (try clear hb2); (try clear hk); (try clear hi)))
   go_ret
   exact ⟨qg, qa⟩
def line_Multiply.f (k : Nat) (l0 : List (List Int)) (l1 : List (List Int)) : Option ((List (List Int)) × Int) := (line_of.f k l0).bind fun bt987 => ((line_of.f k l1).bind fun bt991 => (if bt987.2 = true then (if bt991.2 = true then (if (l0.length : Int) = (l1.length : Int) then ((lgtimes.f k bt987.1 bt991.1).bind fun t995 => (some (t995, 0))) else (some (([] : List (List Int)), 2))) else (some (([] : List (List Int)), 2))) else (some (([] : List (List Int)), 2))))
def line_steps.f (a0 : Int) : Option (Bool) := if a0 ≥ 0 then (some (decide (a0 ≤ 1048576))) else (some false)
def line_Power.f (k : Nat) (l0 : List (List Int)) (a1 : Int) : Option ((List (List Int)) × Int) := (line_of.f k l0).bind fun bt707 => (if bt707.2 = true then ((line_steps.f a1).bind fun t711 => (if t711 = true then ((lgpower.f k bt707.1 a1).bind fun t712 => (some (t712, 0))) else (some (([] : List (List Int)), 2)))) else (some (([] : List (List Int)), 2)))
def line_Run_1.f (a0 : Int) : Option (Bool) := if a0 = (-1152921504606846976) then (some false) else (if a0 < (-1125899906842624) then (some true) else (some (decide (a0 > 562949953421312))))
def sifRun_1.l0 : Nat → List Int → Int → Int → Option (Int)
 | 0, _, _, _ => none
 | k + 1, x0, x7, x8 => if x8 < x7 then (if 0 ≤ x8 then (if x8 < (x0.length : Int) then ((line_Run_1.f (rd x0 x8)).bind fun t765 => (if t765 = true then (some x8) else (sifRun_1.l0 k x0 x7 (wrap64 (x8 + 1))))) else (none)) else (none)) else (some (-1))
def sifRun_1.f (k : Nat) (l0 : List Int) (a1 : Int) : Option (Int) := sifRun_1.l0 k l0 (l0.length : Int) 0
def scfRun_1.f (k : Nat) (l0 : List Int) (a1 : Int) : Option (Bool) := (sifRun_1.f k l0 a1).bind fun t766 => (some (decide (t766 ≥ 0)))
def line_Run_2.f (a0 : Int) : Option (Bool) := if a0 = (-1152921504606846976) then (some false) else (if a0 < (-1125899906842624) then (some true) else (some (decide (a0 > 1125899906842624))))
def sifRun_2.l0 : Nat → List Int → Int → Int → Option (Int)
 | 0, _, _, _ => none
 | k + 1, x0, x7, x8 => if x8 < x7 then (if 0 ≤ x8 then (if x8 < (x0.length : Int) then ((line_Run_2.f (rd x0 x8)).bind fun t768 => (if t768 = true then (some x8) else (sifRun_2.l0 k x0 x7 (wrap64 (x8 + 1))))) else (none)) else (none)) else (some (-1))
def sifRun_2.f (k : Nat) (l0 : List Int) (a1 : Int) : Option (Int) := sifRun_2.l0 k l0 (l0.length : Int) 0
def scfRun_2.f (k : Nat) (l0 : List Int) (a1 : Int) : Option (Bool) := (sifRun_2.f k l0 a1).bind fun t769 => (some (decide (t769 ≥ 0)))
def line_Run.j0 : Nat → List Int → Int → List (List Int) → Bool → Option (List Int × Int)
 | 0, _, _, _, _ => none
 | k + 1, x1, x2, x8, x33 => if x33 = true then (some (([] : List Int), 2)) else ((lgpower.f k x8 x2).bind fun t776 => ((lgon.f k t776 x1).bind fun t779 => ((scfRun_2.f k t779 0).bind fun t782 => (if t782 = true then (some (([] : List Int), 4)) else (some (t779, 0))))))
def line_Run.f (k : Nat) (l0 : List (List Int)) (l1 : List Int) (a2 : Int) : Option (List Int × Int) := (line_of.f k l0).bind fun bt770 => (if bt770.2 = true then ((line_steps.f a2).bind fun t774 => (if t774 = true then (if (l1.length : Int) = (l0.length : Int) then ((scfRun_1.f k l1 0).bind fun t775 => (line_Run.j0 k l1 a2 bt770.1 t775)) else (line_Run.j0 k l1 a2 bt770.1 true)) else (line_Run.j0 k l1 a2 bt770.1 true))) else (line_Run.j0 k l1 a2 bt770.1 true))
mutual
def l5within.l0 : Nat → List (List Int) → Int → Option (Bool)
 | 0, _, _ => none
 | k + 1, x0, x3 => if x3 < (x0.length : Int) then (l5within.l1 k x0 x3 0) else (some true)
def l5within.l1 : Nat → List (List Int) → Int → Int → Option (Bool)
 | 0, _, _, _ => none
 | k + 1, x0, x3, x4 => if 0 ≤ x3 then (if x3 < (x0.length : Int) then (if x4 < ((rd_L1 x0 x3).length : Int) then (if 0 ≤ x4 then (if (rd (rd_L1 x0 x3) x4) = (-1152921504606846976) then (l5within.l1 k x0 x3 (wrap64 (x4 + 1))) else (if (rd (rd_L1 x0 x3) x4) < (-1000) then (some false) else (if (rd (rd_L1 x0 x3) x4) > 1000 then (some false) else (l5within.l1 k x0 x3 (wrap64 (x4 + 1)))))) else (none)) else (l5within.l0 k x0 (wrap64 (x3 + 1)))) else (none)) else (none)
end
def l5within.f (k : Nat) (l0 : List (List Int)) : Option (Bool) := l5within.l0 k l0 0
def l5square.l0 : Nat → List (List Int) → Int → Int → Option (Bool)
 | 0, _, _, _ => none
 | k + 1, x0, x1, x5 => if x5 < (x0.length : Int) then (if 0 ≤ x5 then (if ((rd_L1 x0 x5).length : Int) = x1 then (l5square.l0 k x0 x1 (wrap64 (x5 + 1))) else (some false)) else (none)) else (some ((x0.length : Int) == x1))
def l5square.f (k : Nat) (l0 : List (List Int)) (a1 : Int) : Option (Bool) := l5square.l0 k l0 a1 0
def l5plus.f (a0 : Int) (a1 : Int) : Option (Int) := if a0 = (-1152921504606846976) then (some (-1152921504606846976)) else (if a1 = (-1152921504606846976) then (some (-1152921504606846976)) else (some (wrap64 (a0 + a1))))
mutual
def l5product.l0 : Nat → List (List Int) → List (List Int) → List (List Int) → Int → Option ((List (List Int)))
 | 0, _, _, _, _ => none
 | k + 1, x0, x1, x5, x6 => if x6 < (x0.length : Int) then (l5product.l1 k x0 x1 x5 x6 ([] : List Int) 0) else (some x5)
def l5product.l1 : Nat → List (List Int) → List (List Int) → List (List Int) → Int → List Int → Int → Option ((List (List Int)))
 | 0, _, _, _, _, _, _ => none
 | k + 1, x0, x1, x5, x6, x7, x8 => if x8 < (x0.length : Int) then (l5product.l2 k x0 x1 x5 x6 x7 x8 (-1152921504606846976) 0) else (if x5.length < 5864062014805 then (l5product.l0 k x0 x1 (x5 ++ [x7]) (wrap64 (x6 + 1))) else (none))
def l5product.l2 : Nat → List (List Int) → List (List Int) → List (List Int) → Int → List Int → Int → Int → Int → Option ((List (List Int)))
 | 0, _, _, _, _, _, _, _, _ => none
 | k + 1, x0, x1, x5, x6, x7, x8, x9, x10 => if x10 < (x0.length : Int) then (if 0 ≤ x6 then (if x6 < (x0.length : Int) then (if 0 ≤ x10 then (if x10 < ((rd_L1 x0 x6).length : Int) then (if x10 < (x1.length : Int) then (if 0 ≤ x8 then (if x8 < ((rd_L1 x1 x10).length : Int) then ((l5plus.f (rd (rd_L1 x0 x6) x10) (rd (rd_L1 x1 x10) x8)).bind fun t671 => (l5product.l2 k x0 x1 x5 x6 x7 x8 (mx x9 t671) (wrap64 (x10 + 1)))) else (none)) else (none)) else (none)) else (none)) else (none)) else (none)) else (none)) else (if x7.length < 17592186044416 then (l5product.l1 k x0 x1 x5 x6 (x7 ++ [x9]) (wrap64 (x8 + 1))) else (none))
end
def l5product.f (k : Nat) (l0 : List (List Int)) (l1 : List (List Int)) : Option ((List (List Int))) := l5product.l0 k l0 l1 ([] : List (List Int)) 0
def r5Multiply.f (k : Nat) (l0 : List (List Int)) (l1 : List (List Int)) : Option ((List (List Int)) × Int) := (r5Matrix.f k l0).bind fun t998 => (if t998 = true then ((r5Matrix.f k l1).bind fun t999 => (if t999 = true then (if (l0.length : Int) = (l1.length : Int) then ((r5Product.f k l0 l1).bind fun t1000 => (some (t1000, 0))) else (some (([] : List (List Int)), 2))) else (some (([] : List (List Int)), 2)))) else (some (([] : List (List Int)), 2)))
end Go.Proofs.Ythjmfbmffchicaa.V
