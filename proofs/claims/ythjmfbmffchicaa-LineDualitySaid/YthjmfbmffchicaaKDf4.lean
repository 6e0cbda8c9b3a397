/- Walks of functions that the law LineDuality reaches: each theorem '.calls' says that the call comes to what its printed plain function says, under the conditions that stand in it. -/
import Derived.Test.YthjmfbmffchicaaKDHub
import Derived.Test.YthjmfbmffchicaaKDf0
import Derived.Test.YthjmfbmffchicaaKDf1
import Derived.Test.YthjmfbmffchicaaKDf2
import Derived.Test.YthjmfbmffchicaaKDf3
namespace Go.Proofs.Ythjmfbmffchicaa.V
open Go.RowKit Go.Proofs.YthjmfbmffchicaaW.PrintWords Go.Proofs.YthjmfbmffchicaaW.PrintLast Go.Proofs.YthjmfbmffchicaaW.PrintMore
attribute [local go_sem] max2_int min2_int max_two min_two max_three min_three max_four min_four
set_option maxHeartbeats 8000000
set_option maxRecDepth 100000
set_option linter.unusedVariables false
set_option linter.unusedSimpArgs false
def line_Regime_1.l0 : Nat → List (List Int) → List (List Int) → Int → Int → Option (Bool)
 | 0, _, _, _, _ => none
 | k + 1, x7, x22, x23, x24 => if x24 < x23 then (if 0 ≤ x24 then (if x24 < (x22.length : Int) then (if x24 < (x7.length : Int) then ((slices_Equal_int_int.f k (rd_L1 x22 x24) (rd_L1 x7 x24)).bind fun t366 => (if t366 = true then (line_Regime_1.l0 k x7 x22 x23 (wrap64 (x24 + 1))) else (some false))) else (none)) else (none)) else (none)) else (some true)
def line_Regime_1.f (k : Nat) (a0 : Int) (l1 : List (List Int)) (a2 : Int) (a3 : Int) : Option (Bool) := (lgpower.f k l1 a0).bind fun t352 => ((lgmapped_add.f k t352 a2).bind fun t355 => ((lgpower.f k l1 a3).bind fun t358 => ((lgtimes.f k t352 t358).bind fun t361 => (line_Regime_1.l0 k t355 t361 (t361.length : Int) 0))))
theorem line_Regime_1.mono_l : ∀ k, (∀ y0 y1 y2 y3, LeO (line_Regime_1.l0 k y0 y1 y2 y3) (line_Regime_1.l0 (k + 1) y0 y1 y2 y3))
 | 0 => fun _ _ _ _ r h => by simp [line_Regime_1.l0] at h
 | k + 1 => by
  have ih0 := line_Regime_1.mono_l k
  ·
   intro y0 y1 y2 y3
   unfold line_Regime_1.l0
   repeat' first
   | (with_reducible exact LeO.refl _)
   | (with_reducible exact LeO.none _)
   | (with_reducible refine LeO.ite ?_ ?_)
   | (with_reducible refine LeO.bind ?_ (fun _ => ?_))
   | exact ih0 _ _ _ _
   | exact lgmapped_add.mono _ _ _
   | exact lgpower.mono _ _ _
   | exact lgtimes.mono _ _ _
   | exact slices_Equal_int_int.mono _ _ _
theorem line_Regime_1.mono : ∀ a0 a1 a2 a3 k, LeO (line_Regime_1.f k a0 a1 a2 a3) (line_Regime_1.f (k + 1) a0 a1 a2 a3) := by
 intro a0 a1 a2 a3 k
 have ih0 := line_Regime_1.mono_l k
 unfold line_Regime_1.f
 repeat' first
   | (with_reducible exact LeO.refl _)
   | (with_reducible exact LeO.none _)
   | (with_reducible refine LeO.ite ?_ ?_)
   | (with_reducible refine LeO.bind ?_ (fun _ => ?_))
   | exact ih0 _ _ _ _
   | exact lgmapped_add.mono _ _ _
   | exact lgpower.mono _ _ _
   | exact lgtimes.mono _ _ _
   | exact slices_Equal_int_int.mono _ _ _
theorem line_Regime_1.calls (k : Nat) (a0 : Int) (A1 : Option Addr) (c1 : Nat) (l1 : List (List Int)) (a2 : Int) (a3 : Int) (r : Bool) (w : World) (hr1 : Kd.C (Kd.slice 3 (Kd.int .i64)) w A1 l1.length l1) (hc1 : l1.length ≤ c1) (h : line_Regime_1.f k a0 l1 a2 a3 = some r) (bl ba bc : Nat) (hbl : bl < w.heap.size) (hba : ba < w.heap.size) (hbc : bc < w.heap.size) (hl : w.cell? ⟨bl, 0, none⟩ = some (.slice A1 l1.length c1)) (ha : w.cell? ⟨ba, 0, none⟩ = some (.int .i64 a2)) (hc : w.cell? ⟨bc, 0, none⟩ = some (.int .i64 a3)) :
  Calls Try.prog 55 #[.int .i64 a0, .pointer (some ⟨bl, 0, none⟩), .pointer (some ⟨ba, 0, none⟩), .pointer (some ⟨bc, 0, none⟩)] w fun e w' => e = .returned (.bool r) ∧ Below w.heap.size w w' := by
 have HBL := xA.mk hbl
 have HBA := xA.mk hba
 have HBC := xA.mk hbc
 have HCL := xA.mk hl
 have HCA := xA.mk ha
 have HCC := xA.mk hc
 clear hbl hba hbc
 have HR1 := xA.mk hr1
 have HC1 := xA.mk hc1
 clear hr1 hc1
 have HB := xA.mk (Below.refl w.heap.size w)
 have H : ((lgpower.f k l1 a0).bind fun t352 => ((lgmapped_add.f k t352 a2).bind fun t355 => ((lgpower.f k l1 a3).bind fun t358 => ((lgtimes.f k t352 t358).bind fun t361 => (line_Regime_1.l0 k t355 t361 (t361.length : Int) 0))))) = some r := h
 clear h
 replace H := qw H
 obtain ⟨t352, A50, H⟩ := H
 replace H : ((lgmapped_add.f k t352 a2).bind fun t355 => ((lgpower.f k l1 a3).bind fun t358 => ((lgtimes.f k t352 t358).bind fun t361 => (line_Regime_1.l0 k t355 t361 (t361.length : Int) 0)))) = some r := H
 have A5 := xA.mk A50
 clear A50
 replace H := qw H
 obtain ⟨t355, A60, H⟩ := H
 replace H : ((lgpower.f k l1 a3).bind fun t358 => ((lgtimes.f k t352 t358).bind fun t361 => (line_Regime_1.l0 k t355 t361 (t361.length : Int) 0))) = some r := H
 have A6 := xA.mk A60
 clear A60
 replace H := qw H
 obtain ⟨t358, A70, H⟩ := H
 replace H : ((lgtimes.f k t352 t358).bind fun t361 => (line_Regime_1.l0 k t355 t361 (t361.length : Int) 0)) = some r := H
 have A7 := xA.mk A70
 clear A70
 replace H := qw H
 obtain ⟨t361, A80, H⟩ := H
 replace H : (line_Regime_1.l0 k t355 t361 (t361.length : Int) 0) = some r := H
 have A8 := xA.mk A80
 clear A80
 have H' := xA.mk H
 clear H
 go_enter Try.func55, Try.ntmps55
 go_wp2_with (first | ((with_reducible refine xK (f := 56) rfl ?_); refine xS (some 13) rfl rfl Try.func56 jk rfl #[.slice A1 l1.length c1, .int .i64 a0] rfl qd ?_; (with_reducible refine (lgpower.calls k (fun k_ => k_ < w.heap.size) _ _ l1 a0 t352 _ ?side1 A5.out).mono ?_); (case side1 => exact Kd.V_mk HC1.out (Kd.F_below (Kd.C_F (Kd.heap_slice 3 (Kd.heap_int .i64)) HR1.out) (HB.out))); rintro e w9 ⟨v353, rfl, ho0, hb⟩; refine ⟨_, rfl, ?_⟩; have n0_ := xA.mk (Kd.S_lower (Kd.xQ (ok' := fun k_ => True) ho0 (fun _ hk_ => trivial)) (xD (HB.out))); have n1_ := xA.mk (xF (HB.out) hb); clear HB; have HO354 := n0_; have HB := n1_; have hlw9 := (HB.out.cell (p := ⟨bl, 0, none⟩) HBL.out).trans HCL.out; have hcw9 := (HB.out.cell (p := ⟨bc, 0, none⟩) HBC.out).trans HCC.out; clear n0_ n1_; obtain ⟨Ao10, co10, eo10⟩ := Kd.yD HO354.out; subst eo10) | ((with_reducible refine xK (f := 57) rfl ?_); refine xS (some 16) rfl rfl Try.func57 jk rfl #[.slice Ao10 t352.length co10, .func (.func 58) #[] #[.pointer (some ⟨ba, 0, none⟩)]] rfl qd ?_; (with_reducible refine (lgmapped_add.calls k _ _ t352 a2 t355 _ ?side1 ?side2 A6.out ba (Nat.lt_of_lt_of_le HBA.out (xD HB.out)) ((HB.out.cell (p := ⟨ba, 0, none⟩) HBA.out).trans HCA.out)).mono ?_); (case side1 => repeat (first | exact (Kd.xJ HO354.out).2.2)); (case side2 => exact (Kd.xJ HO354.out).2.1); rintro e w11 ⟨v356, rfl, ho0, hb⟩; refine ⟨_, rfl, ?_⟩; have n0_ := xA.mk (Kd.S_elder' (by exact HO354.out) (Kd.S_base ho0) hb); have n1_ := xA.mk (Kd.S_lower (Kd.S_new' ho0 (Kd.S_lt (by exact HO354.out))) (xD (HB.out))); have n2_ := xA.mk (xF (HB.out) hb); clear HO354; clear HB; have HO354 := n0_; have HO357 := n1_; have HB := n2_; have hlw11 := (HB.out.cell (p := ⟨bl, 0, none⟩) HBL.out).trans HCL.out; have hcw11 := (HB.out.cell (p := ⟨bc, 0, none⟩) HBC.out).trans HCC.out; clear n0_ n1_ n2_) | ((with_reducible refine xK (f := 56) rfl ?_); refine xS (some 21) rfl rfl Try.func56 jk rfl #[.slice A1 l1.length c1, .int .i64 a3] rfl qd ?_; (with_reducible refine (lgpower.calls k (fun k_ => k_ < w.heap.size) _ _ l1 a3 t358 _ ?side1 A7.out).mono ?_); (case side1 => exact Kd.V_mk HC1.out (Kd.F_below (Kd.C_F (Kd.heap_slice 3 (Kd.heap_int .i64)) HR1.out) (HB.out))); rintro e w12 ⟨v359, rfl, ho0, hb⟩; refine ⟨_, rfl, ?_⟩; have n0_ := xA.mk (Kd.S_elder' (by exact HO354.out) (Kd.S_base ho0) hb); have n1_ := xA.mk (Kd.S_elder' (by exact HO357.out) (Kd.S_base ho0) hb); have n2_ := xA.mk (Kd.S_lower (Kd.S_new' (Kd.S_new' (Kd.xQ (ok' := fun k_ => True) ho0 (fun _ hk_ => trivial)) (Kd.S_lt (by exact HO354.out))) (Kd.S_lt (by exact HO357.out))) (xD (HB.out))); have n3_ := xA.mk (xF (HB.out) hb); clear HO354; clear HO357; clear HB; have HO354 := n0_; have HO357 := n1_; have HO360 := n2_; have HB := n3_; have hlw12 := (HB.out.cell (p := ⟨bl, 0, none⟩) HBL.out).trans HCL.out; have hcw12 := (HB.out.cell (p := ⟨bc, 0, none⟩) HBC.out).trans HCC.out; clear n0_ n1_ n2_ n3_; obtain ⟨Ao13, co13, eo13⟩ := Kd.yD HO360.out; subst eo13) | ((with_reducible refine xK (f := 59) rfl ?_); refine xS (some 22) rfl rfl Try.func59 jk rfl #[.slice Ao10 t352.length co10, .slice Ao13 t358.length co13] rfl qd ?_; (with_reducible refine (lgtimes.calls k _ _ t352 _ _ t358 t361 _ ?side1 ?side2 ?side3 ?side4 A8.out).mono ?_); (case side1 => repeat (first | exact (Kd.xJ HO354.out).2.2)); (case side2 => exact (Kd.xJ HO354.out).2.1); (case side3 => repeat (first | exact (Kd.xJ HO360.out).2.2)); (case side4 => exact (Kd.xJ HO360.out).2.1); rintro e w14 ⟨v362, rfl, ho0, hb⟩; refine ⟨_, rfl, ?_⟩; have n0_ := xA.mk (Kd.S_elder' (by exact HO354.out) (Kd.S_base ho0) hb); have n1_ := xA.mk (Kd.S_elder' (by exact HO357.out) (Kd.S_base ho0) hb); have n2_ := xA.mk (Kd.S_elder' (by exact HO360.out) (Kd.S_base ho0) hb); have n3_ := xA.mk (Kd.S_lower (Kd.S_new' (Kd.S_new' (Kd.S_new' ho0 (Kd.S_lt (by exact HO354.out))) (Kd.S_lt (by exact HO357.out))) (Kd.S_lt (by exact HO360.out))) (xD (HB.out))); have n4_ := xA.mk (xF (HB.out) hb); clear HO354; clear HO357; clear HO360; clear HB; have HO354 := n0_; have HO357 := n1_; have HO360 := n2_; have HO363 := n3_; have HB := n4_; have hlw14 := (HB.out.cell (p := ⟨bl, 0, none⟩) HBL.out).trans HCL.out; have hcw14 := (HB.out.cell (p := ⟨bc, 0, none⟩) HBC.out).trans HCC.out; clear n0_ n1_ n2_ n3_ n4_; obtain ⟨Ao15, co15, eo15⟩ := Kd.yD HO363.out; subst eo15))
 go_loopg [24] k (fun kq v24 w' => ∃ (x24_1 : Int), v24 = .int .i64 x24_1 ∧ xA (line_Regime_1.l0 kq t355 t361 (t361.length : Int) x24_1 = some r) ∧ xA (kq ≤ k) ∧ xA (Kd.S (Kd.slice 3 (Kd.int .i64)) 26 w' w.heap.size (fun k_ => some k_ ≠ ((.slice Ao15 t361.length co15) : Value).ownBlock) v356 t355) ∧ xA (Kd.S (Kd.slice 3 (Kd.int .i64)) 26 w' w.heap.size (fun k_ => some k_ ≠ (v356 : Value).ownBlock) (.slice Ao15 t361.length co15) t361) ∧ xA (Below w.heap.size w w'))
 case atStart => exact ⟨(0), rfl, H', ⟨Nat.le_refl _⟩, ⟨by exact Kd.xQ HO357.out (fun _ hk => hk.2)⟩, ⟨by exact Kd.xQ HO363.out (fun _ hk => hk.1.2)⟩, ⟨HB.out⟩⟩
 case round =>
  clear H'
  obtain ⟨x24_1, rfl, HA, HK1, HO_7, HO_22, HB⟩ := hrel
  obtain _ | k1 := gk
  · exact absurd HA.out (by simp [line_Regime_1.l0])
  have H := HA.out
  clear HA
  simp only [line_Regime_1.l0] at H
  obtain ⟨c16b0, H⟩ | ⟨c16b0, H⟩ := itd_or H
  rotate_left
  ·
   obtain rfl := qx H
   go_wp2
   go_ret
   exact ⟨rfl, HB.out⟩
  obtain ⟨c17b0, H⟩ := xL H
  obtain ⟨c18b0, H⟩ := xL H
  obtain ⟨c19b0, H⟩ := xL H
  replace H := qw H
  obtain ⟨t366, A200, H⟩ := H
  replace H : (if t366 = true then (line_Regime_1.l0 k1 t355 t361 (t361.length : Int) (wrap64 (x24_1 + 1))) else (some false)) = some r := H
  have A20 := xA.mk A200
  clear A200
  by_cases c21 : t366 = true
  rotate_left
  ·
   replace c21 := Bool.eq_false_iff.mpr c21
   subst c21
   have H1 : (some false) = some r := by rw [if_neg (show ¬ (false = true) by decide)] at H; exact H
   clear H
   have H := H1
   clear H1
   obtain rfl := qx H
   have p364 : 0 ≤ (x24_1 : Int) := qq
   have q364 : x24_1 < (t361.length : Int) := qq
   obtain ⟨ad364, A364_0, c364_0, e364, hx364_0, hl364_0, hi364_0⟩ := at_L1 (Kd.xJ HO_22.out).2.2 x24_1 p364 q364
   cases e364
   obtain ⟨ce364, hce364, hMe364, hcc364⟩ := Kd.S_get HO_22.out [] x24_1 p364 (by first | exact q364 | exact qq | (have e_ := (Kd.xJ HO_22.out).1; omega))
   obtain ⟨ve364_0, rfl, ge364_0⟩ := hMe364
   have hv364_0 := hcc364 0 _ rfl
   rw [Nat.add_zero, show ((Kd.slice 3 (Kd.int .i64))).sz = 1 from rfl, Nat.mul_one] at hv364_0
   replace hv364_0 := qx (hv364_0.symm.trans hx364_0)
   rw [hv364_0] at ge364_0
   have HL364_0 := xA.mk (show Kd.R (Kd.int .i64) 3 _ _ _ _ (rd_L1 t361 x24_1) from ge364_0)
   clear hv364_0 ge364_0
   clear hcc364 hce364
   have HR364_0 := xA.mk hi364_0
   have HC364_0 := xA.mk hl364_0
   clear hi364_0 hl364_0
   replace p364 := eq_true p364
   replace q364 := eq_true q364
   obtain ⟨Ao23, co23, eo23⟩ := Kd.yD HO_7.out
   subst eo23
   have p365 : 0 ≤ (x24_1 : Int) := qq
   have q365 : x24_1 < (t355.length : Int) := qq
   obtain ⟨ad365, A365_0, c365_0, e365, hx365_0, hl365_0, hi365_0⟩ := at_L1 (Kd.xJ HO_7.out).2.2 x24_1 p365 q365
   cases e365
   obtain ⟨ce365, hce365, hMe365, hcc365⟩ := Kd.S_get HO_7.out [] x24_1 p365 (by first | exact q365 | exact qq | (have e_ := (Kd.xJ HO_7.out).1; omega))
   obtain ⟨ve365_0, rfl, ge365_0⟩ := hMe365
   have hv365_0 := hcc365 0 _ rfl
   rw [Nat.add_zero, show ((Kd.slice 3 (Kd.int .i64))).sz = 1 from rfl, Nat.mul_one] at hv365_0
   replace hv365_0 := qx (hv365_0.symm.trans hx365_0)
   rw [hv365_0] at ge365_0
   have HL365_0 := xA.mk (show Kd.R (Kd.int .i64) 3 _ _ _ _ (rd_L1 t355 x24_1) from ge365_0)
   clear hv365_0 ge365_0
   clear hcc365 hce365
   have HR365_0 := xA.mk hi365_0
   have HC365_0 := xA.mk hl365_0
   clear hi365_0 hl365_0
   replace p365 := eq_true p365
   replace q365 := eq_true q365
   go_wp2_with (first | ((with_reducible refine xK (f := 60) rfl ?_); refine xS (some 34) rfl rfl Try.func60 jk rfl #[.slice A364_0 (rd_L1 t361 x24_1).length c364_0, .slice A365_0 (rd_L1 t355 x24_1).length c365_0] rfl qd ?_; (with_reducible refine (slices_Equal_int_int.calls k1 _ _ (rd_L1 t361 x24_1) _ _ (rd_L1 t355 x24_1) false _ ?side1 ?side2 ?side3 ?side4 A20.out).mono ?_); (case side1 => repeat (first | exact (by repeat (first | (with_reducible exact HR364_0.out) | exact HR364_0.out)))); (case side2 => exact HC364_0.out); (case side3 => repeat (first | exact (by repeat (first | (with_reducible exact HR365_0.out) | exact HR365_0.out)))); (case side4 => exact HC365_0.out); rintro e w' ⟨rfl, ⟨nd, rfl⟩⟩; refine ⟨_, rfl, ?_⟩))
   go_ret
   exact ⟨rfl, qb⟩
  subst c21
  have H1 : (line_Regime_1.l0 k1 t355 t361 (t361.length : Int) (wrap64 (x24_1 + 1))) = some r := by rw [if_pos rfl] at H; exact H
  clear H
  have H := H1
  clear H1
  have H' := xA.mk H
  clear H
  have p364 : 0 ≤ (x24_1 : Int) := qq
  have q364 : x24_1 < (t361.length : Int) := qq
  obtain ⟨ad364, A364_0, c364_0, e364, hx364_0, hl364_0, hi364_0⟩ := at_L1 (Kd.xJ HO_22.out).2.2 x24_1 p364 q364
  cases e364
  obtain ⟨ce364, hce364, hMe364, hcc364⟩ := Kd.S_get HO_22.out [] x24_1 p364 (by first | exact q364 | exact qq | (have e_ := (Kd.xJ HO_22.out).1; omega))
  obtain ⟨ve364_0, rfl, ge364_0⟩ := hMe364
  have hv364_0 := hcc364 0 _ rfl
  rw [Nat.add_zero, show ((Kd.slice 3 (Kd.int .i64))).sz = 1 from rfl, Nat.mul_one] at hv364_0
  replace hv364_0 := qx (hv364_0.symm.trans hx364_0)
  rw [hv364_0] at ge364_0
  have HL364_0 := xA.mk (show Kd.R (Kd.int .i64) 3 _ _ _ _ (rd_L1 t361 x24_1) from ge364_0)
  clear hv364_0 ge364_0
  clear hcc364 hce364
  have HR364_0 := xA.mk hi364_0
  have HC364_0 := xA.mk hl364_0
  clear hi364_0 hl364_0
  replace p364 := eq_true p364
  replace q364 := eq_true q364
  obtain ⟨Ao22, co22, eo22⟩ := Kd.yD HO_7.out
  subst eo22
  have p365 : 0 ≤ (x24_1 : Int) := qq
  have q365 : x24_1 < (t355.length : Int) := qq
  obtain ⟨ad365, A365_0, c365_0, e365, hx365_0, hl365_0, hi365_0⟩ := at_L1 (Kd.xJ HO_7.out).2.2 x24_1 p365 q365
  cases e365
  obtain ⟨ce365, hce365, hMe365, hcc365⟩ := Kd.S_get HO_7.out [] x24_1 p365 (by first | exact q365 | exact qq | (have e_ := (Kd.xJ HO_7.out).1; omega))
  obtain ⟨ve365_0, rfl, ge365_0⟩ := hMe365
  have hv365_0 := hcc365 0 _ rfl
  rw [Nat.add_zero, show ((Kd.slice 3 (Kd.int .i64))).sz = 1 from rfl, Nat.mul_one] at hv365_0
  replace hv365_0 := qx (hv365_0.symm.trans hx365_0)
  rw [hv365_0] at ge365_0
  have HL365_0 := xA.mk (show Kd.R (Kd.int .i64) 3 _ _ _ _ (rd_L1 t355 x24_1) from ge365_0)
  clear hv365_0 ge365_0
  clear hcc365 hce365
  have HR365_0 := xA.mk hi365_0
  have HC365_0 := xA.mk hl365_0
  clear hi365_0 hl365_0
  replace p365 := eq_true p365
  replace q365 := eq_true q365
  go_wp2_with (first | ((with_reducible refine xK (f := 60) rfl ?_); refine xS (some 34) rfl rfl Try.func60 jk rfl #[.slice A364_0 (rd_L1 t361 x24_1).length c364_0, .slice A365_0 (rd_L1 t355 x24_1).length c365_0] rfl qd ?_; (with_reducible refine (slices_Equal_int_int.calls k1 _ _ (rd_L1 t361 x24_1) _ _ (rd_L1 t355 x24_1) true _ ?side1 ?side2 ?side3 ?side4 A20.out).mono ?_); (case side1 => repeat (first | exact (by repeat (first | (with_reducible exact HR364_0.out) | exact HR364_0.out)))); (case side2 => exact HC364_0.out); (case side3 => repeat (first | exact (by repeat (first | (with_reducible exact HR365_0.out) | exact HR365_0.out)))); (case side4 => exact HC365_0.out); rintro e w' ⟨rfl, ⟨nd, rfl⟩⟩; refine ⟨_, rfl, ?_⟩))
  go_roundg k1
  case measure => have := HK1.out; omega
  case rel => exact ⟨(wrap64 (x24_1 + 1)), rfl, H', ⟨by have := HK1.out; omega⟩, ⟨qh HO_7.out⟩, ⟨qh HO_22.out⟩, ⟨qb⟩⟩
mutual
def line_Regime.l0 : Nat → Int → Int → Int → List (List Int) → Int → Int → List (List Int) → List (List Int) → Option (Int × Int × Int)
 | 0, _, _, _, _, _, _, _, _ => none
 | k + 1, x7, x8, x10, x380000, x380001, x380002, x380003, x380004 => (line_Regime_1.f k x10 x380000 x8 x7).bind fun t382 => (if t382 = true then (line_Regime.l1 k x7 x8 x10 0 x380000 x380001 x380002 x380003 x380004) else (line_Regime.l0 k x7 x8 (wrap64 (x10 * 2)) x380000 x380001 x380002 x380003 x380004))
def line_Regime.l1 : Nat → Int → Int → Int → Int → List (List Int) → Int → Int → List (List Int) → List (List Int) → Option (Int × Int × Int)
 | 0, _, _, _, _, _, _, _, _, _ => none
 | k + 1, x7, x8, x10, x11, x380000, x380001, x380002, x380003, x380004 => if x11 < x10 then ((line_Regime_1.f k (wrap64 (Int.tdiv (wrap64 (x11 + x10)) 2)) x380000 x8 x7).bind fun t383 => (if t383 = true then (line_Regime.l1 k x7 x8 (wrap64 (Int.tdiv (wrap64 (x11 + x10)) 2)) x11 x380000 x380001 x380002 x380003 x380004) else (line_Regime.l1 k x7 x8 x10 (wrap64 ((wrap64 (Int.tdiv (wrap64 (x11 + x10)) 2)) + 1)) x380000 x380001 x380002 x380003 x380004))) else (some (x7, x11, 0))
end
def line_Regime.f (k : Nat) (l0 : List (List Int)) : Option (Int × Int × Int) := (line_looked.f k l0).bind fun bt367 => (if bt367.2.2.2.2.2 = 0 then ((lgconnected.f k bt367.1).bind fun t380 => (if t380 = true then ((llperiod.f k bt367.1 bt367.2.1 bt367.2.2.1 bt367.2.2.2.1 bt367.2.2.2.2.1).bind fun t381 => (if bt367.2.2.1 = 0 then (none) else (line_Regime.l0 k t381 (wrap64 (Int.tdiv (wrap64 (t381 * bt367.2.1)) bt367.2.2.1)) 1 bt367.1 bt367.2.1 bt367.2.2.1 bt367.2.2.2.1 bt367.2.2.2.2.1))) else (some (0, 0, 10)))) else (some (0, 0, bt367.2.2.2.2.2)))
theorem line_Regime.mono_l : ∀ k, (∀ y0 y1 y2 y3 y4 y5 y6 y7, LeO (line_Regime.l0 k y0 y1 y2 y3 y4 y5 y6 y7) (line_Regime.l0 (k + 1) y0 y1 y2 y3 y4 y5 y6 y7)) ∧ (∀ y0 y1 y2 y3 y4 y5 y6 y7 y8, LeO (line_Regime.l1 k y0 y1 y2 y3 y4 y5 y6 y7 y8) (line_Regime.l1 (k + 1) y0 y1 y2 y3 y4 y5 y6 y7 y8))
 | 0 => ⟨fun _ _ _ _ _ _ _ _ r h => by simp [line_Regime.l0] at h, fun _ _ _ _ _ _ _ _ _ r h => by simp [line_Regime.l1] at h⟩
 | k + 1 => by
  obtain ⟨ih0, ih1⟩ := line_Regime.mono_l k
  refine ⟨?_, ?_⟩
  ·
   intro y0 y1 y2 y3 y4 y5 y6 y7
   unfold line_Regime.l0
   repeat' first
   | (with_reducible exact LeO.refl _)
   | (with_reducible exact LeO.none _)
   | (with_reducible refine LeO.ite ?_ ?_)
   | (with_reducible refine LeO.bind ?_ (fun _ => ?_))
   | exact ih0 _ _ _ _ _ _ _ _
   | exact ih1 _ _ _ _ _ _ _ _ _
   | exact line_Regime_1.mono _ _ _ _ _
   | exact lgconnected.mono _ _
   | exact llperiod.mono _ _ _ _ _ _
   | exact line_looked.mono _ _
  ·
   intro y0 y1 y2 y3 y4 y5 y6 y7 y8
   unfold line_Regime.l1
   repeat' first
   | (with_reducible exact LeO.refl _)
   | (with_reducible exact LeO.none _)
   | (with_reducible refine LeO.ite ?_ ?_)
   | (with_reducible refine LeO.bind ?_ (fun _ => ?_))
   | exact ih0 _ _ _ _ _ _ _ _
   | exact ih1 _ _ _ _ _ _ _ _ _
   | exact line_Regime_1.mono _ _ _ _ _
   | exact lgconnected.mono _ _
   | exact llperiod.mono _ _ _ _ _ _
   | exact line_looked.mono _ _
theorem line_Regime.mono : ∀ a0 k, LeO (line_Regime.f k a0) (line_Regime.f (k + 1) a0) := by
 intro a0 k
 obtain ⟨ih0, ih1⟩ := line_Regime.mono_l k
 unfold line_Regime.f
 repeat' first
   | (with_reducible exact LeO.refl _)
   | (with_reducible exact LeO.none _)
   | (with_reducible refine LeO.ite ?_ ?_)
   | (with_reducible refine LeO.bind ?_ (fun _ => ?_))
   | exact ih0 _ _ _ _ _ _ _ _
   | exact ih1 _ _ _ _ _ _ _ _ _
   | exact line_Regime_1.mono _ _ _ _ _
   | exact lgconnected.mono _ _
   | exact llperiod.mono _ _ _ _ _ _
   | exact line_looked.mono _ _
theorem line_Regime.calls (k : Nat) (A0 : Option Addr) (c0 : Nat) (l0 : List (List Int)) (r1 : Int) (r2 : Int) (r3 : Int) (w : World) (hr0 : Kd.C (Kd.slice 3 (Kd.int .i64)) w A0 l0.length l0) (hc0 : l0.length ≤ c0) (h : line_Regime.f k l0 = some (r1, r2, r3)) :
  Calls Try.prog 18 #[.slice A0 l0.length c0] w fun e w' => e = .returned (.tuple #[.int .i64 r1, .int .i64 r2, .int .i64 r3]) ∧ Below w.heap.size w w' := by
 have hu58 := Try.underlying58
 have HR0 := xA.mk hr0
 have HC0 := xA.mk hc0
 clear hr0 hc0
 have HB := xA.mk (Below.refl w.heap.size w)
 have H : ((line_looked.f k l0).bind fun bt367 => (if bt367.2.2.2.2.2 = 0 then ((lgconnected.f k bt367.1).bind fun t380 => (if t380 = true then ((llperiod.f k bt367.1 bt367.2.1 bt367.2.2.1 bt367.2.2.2.1 bt367.2.2.2.2.1).bind fun t381 => (if bt367.2.2.1 = 0 then (none) else (line_Regime.l0 k t381 (wrap64 (Int.tdiv (wrap64 (t381 * bt367.2.1)) bt367.2.2.1)) 1 bt367.1 bt367.2.1 bt367.2.2.1 bt367.2.2.2.1 bt367.2.2.2.2.1))) else (some (0, 0, 10)))) else (some (0, 0, bt367.2.2.2.2.2)))) = some (r1, r2, r3) := h
 clear h
 replace H := qw H
 obtain ⟨⟨t367, t370, t371, t372, t375, t378⟩, A20, H⟩ := H
 replace H : (if t378 = 0 then ((lgconnected.f k t367).bind fun t380 => (if t380 = true then ((llperiod.f k t367 t370 t371 t372 t375).bind fun t381 => (if t371 = 0 then (none) else (line_Regime.l0 k t381 (wrap64 (Int.tdiv (wrap64 (t381 * t370)) t371)) 1 t367 t370 t371 t372 t375))) else (some (0, 0, 10)))) else (some (0, 0, t378))) = some (r1, r2, r3) := H
 have A2 := xA.mk A20
 clear A20
 by_cases c3 : t378 = 0
 rotate_left
 ·
  rw [if_neg c3] at H
  have c3b0 : (t378 == 0) = false := jg c3
  have c3b1 : (t378 != 0) = true := bne_iff_ne.mpr c3
  simp only [Option.some.injEq, Prod.mk.injEq] at H
  obtain ⟨rfl, rfl, rfl⟩ := H
  go_enter Try.func18, Try.ntmps18
  go_wp2_with (first | ((with_reducible refine xK (f := 45) rfl ?_); refine xS (some 15) rfl rfl Try.func45 jk rfl #[.slice A0 l0.length c0] rfl qc ?_; (with_reducible refine (line_looked.calls k (fun k_ => k_ < w.heap.size) _ _ l0 t367 t370 t371 t372 t375 t378 _ ?side1 A2.out).mono ?_); (case side1 => exact Kd.V_mk HC0.out (Kd.F_below (Kd.C_F (Kd.heap_slice 3 (Kd.heap_int .i64)) HR0.out) qa)); rintro e w38 ⟨v368, v373, v376, rfl, ho0, ho1, ho2, hb⟩; refine ⟨_, rfl, ?_⟩; have HO369 := xA.mk (Kd.V_lower (Kd.V_mono (ok' := fun k_ => some k_ ≠ (v373 : Value).ownBlock ∧ some k_ ≠ (v376 : Value).ownBlock) ho0 (fun k_ hk_ => ⟨hk_.2.1, hk_.2.2⟩)) (xD qa)); have HO374 := xA.mk (Kd.S_lower (Kd.xQ (ok' := fun k_ => some k_ ≠ (v376 : Value).ownBlock) ho1 (fun _ hk_ => hk_.2)) (xD qa)); have HO377 := xA.mk (Kd.S_lower (Kd.xQ (ok' := fun k_ => some k_ ≠ (v373 : Value).ownBlock) ho2 (fun _ hk_ => hk_.2)) (xD qa)); replace HB := xA.mk (xF qa hb); (try clear hb); (try clear hb2); (try clear hk); (try clear hi); (try clear ho0); (try clear ho1); (try clear ho2)) | ((with_reducible refine xW (N := 5) rfl ?_); refine yF ?hg (N := 5) ?hd (cs := #[.slice none 0 0, .int .i64 0, .int .i64 0, .slice none 0 0, .slice none 0 0]) (t := 58) ?hr ?_; (case hd => rfl); (case hg => rfl); (case hr => first | (go_simp; done) | (go_simp; rfl)); intro gb379 hg w39 hbox hb; have n0_ := xA.mk (Kd.V_below (Kd.V_elderB (qj HO369.out) gb379 (Nat.le_of_eq hg.symm)) hb); have n1_ := xA.mk (Kd.xX (qh HO374.out) hb); have n2_ := xA.mk (Kd.xX (qh HO377.out) hb); have n3_ := xA.mk (xF qa hb); have n4_ := xA.mk (hbox); have n5_ := xA.mk ((by rw [hg]; exact (xD qa) : w.heap.size ≤ gb379)); have n6_ := xA.mk ((by rw [hg]; exact (xD qa) : w.heap.size ≤ gb379)); clear HO369; clear HO374; clear HO377; clear HB; have HO369 := n0_; have HO374 := n1_; have HO377 := n2_; have HB := n3_; have BK379 := n4_; have GW379 := n5_; have GE379 := n6_; clear n0_ n1_ n2_ n3_ n4_ n5_ n6_; clear hb hbox hg; obtain ⟨Ao40, co40, eo40⟩ := Kd.V_slice HO369.out; subst eo40; have hcz41_0 : w39.cell? ⟨gb379, 0, none⟩ = some (.slice none 0 0) := (xB BK379.out 0).trans rfl; have hcz41_1 : w39.cell? ⟨gb379, 1, none⟩ = some (.int .i64 0) := (xB BK379.out 1).trans rfl; have hcz41_2 : w39.cell? ⟨gb379, 2, none⟩ = some (.int .i64 0) := (xB BK379.out 2).trans rfl; have hcz41_3 : w39.cell? ⟨gb379, 3, none⟩ = some (.slice none 0 0) := (xB BK379.out 3).trans rfl; have hcz41_4 : w39.cell? ⟨gb379, 4, none⟩ = some (.slice none 0 0) := (xB BK379.out 4).trans rfl; have hfz41_0 := xC BK379.out 0; have hfz41_1 := xC BK379.out 1; have hfz41_2 := xC BK379.out 2; have hfz41_3 := xC BK379.out 3; have hfz41_4 := xC BK379.out 4; obtain ⟨Ao42, co42, eo42⟩ := Kd.yD HO374.out; subst eo42; obtain ⟨Ao43, co43, eo43⟩ := Kd.yD HO377.out; subst eo43))
  go_ret3
  exact ⟨qg, qo GE379.out⟩
 rw [if_pos c3] at H
 have c3b0 : (t378 == 0) = true := beq_iff_eq.mpr c3
 clear c3
 replace H := qw H
 obtain ⟨t380, A40, H⟩ := H
 replace H : (if t380 = true then ((llperiod.f k t367 t370 t371 t372 t375).bind fun t381 => (if t371 = 0 then (none) else (line_Regime.l0 k t381 (wrap64 (Int.tdiv (wrap64 (t381 * t370)) t371)) 1 t367 t370 t371 t372 t375))) else (some (0, 0, 10))) = some (r1, r2, r3) := H
 have A4 := xA.mk A40
 clear A40
 by_cases c5 : t380 = true
 rotate_left
 ·
  replace c5 := Bool.eq_false_iff.mpr c5
  subst c5
  have H1 : (some (0, 0, 10)) = some (r1, r2, r3) := by rw [if_neg (show ¬ (false = true) by decide)] at H; exact H
  clear H
  have H := H1
  clear H1
  simp only [Option.some.injEq, Prod.mk.injEq] at H
  obtain ⟨rfl, rfl, rfl⟩ := H
  go_enter Try.func18, Try.ntmps18
  go_wp2_with (first | ((with_reducible refine xK (f := 45) rfl ?_); refine xS (some 15) rfl rfl Try.func45 jk rfl #[.slice A0 l0.length c0] rfl qc ?_; (with_reducible refine (line_looked.calls k (fun k_ => k_ < w.heap.size) _ _ l0 t367 t370 t371 t372 t375 t378 _ ?side1 A2.out).mono ?_); (case side1 => exact Kd.V_mk HC0.out (Kd.F_below (Kd.C_F (Kd.heap_slice 3 (Kd.heap_int .i64)) HR0.out) qa)); rintro e w31 ⟨v368, v373, v376, rfl, ho0, ho1, ho2, hb⟩; refine ⟨_, rfl, ?_⟩; have HO369 := xA.mk (Kd.V_lower (Kd.V_mono (ok' := fun k_ => some k_ ≠ (v373 : Value).ownBlock ∧ some k_ ≠ (v376 : Value).ownBlock) ho0 (fun k_ hk_ => ⟨hk_.2.1, hk_.2.2⟩)) (xD qa)); have HO374 := xA.mk (Kd.S_lower (Kd.xQ (ok' := fun k_ => some k_ ≠ (v376 : Value).ownBlock) ho1 (fun _ hk_ => hk_.2)) (xD qa)); have HO377 := xA.mk (Kd.S_lower (Kd.xQ (ok' := fun k_ => some k_ ≠ (v373 : Value).ownBlock) ho2 (fun _ hk_ => hk_.2)) (xD qa)); replace HB := xA.mk (xF qa hb); (try clear hb); (try clear hb2); (try clear hk); (try clear hi); (try clear ho0); (try clear ho1); (try clear ho2)) | ((with_reducible refine xW (N := 5) rfl ?_); refine yF ?hg (N := 5) ?hd (cs := #[.slice none 0 0, .int .i64 0, .int .i64 0, .slice none 0 0, .slice none 0 0]) (t := 58) ?hr ?_; (case hd => rfl); (case hg => rfl); (case hr => first | (go_simp; done) | (go_simp; rfl)); intro gb379 hg w32 hbox hb; have n0_ := xA.mk (Kd.V_below (Kd.V_elderB (qj HO369.out) gb379 (Nat.le_of_eq hg.symm)) hb); have n1_ := xA.mk (Kd.xX (qh HO374.out) hb); have n2_ := xA.mk (Kd.xX (qh HO377.out) hb); have n3_ := xA.mk (xF qa hb); have n4_ := xA.mk (hbox); have n5_ := xA.mk ((by rw [hg]; exact (xD qa) : w.heap.size ≤ gb379)); have n6_ := xA.mk ((by rw [hg]; exact (xD qa) : w.heap.size ≤ gb379)); clear HO369; clear HO374; clear HO377; clear HB; have HO369 := n0_; have HO374 := n1_; have HO377 := n2_; have HB := n3_; have BK379 := n4_; have GW379 := n5_; have GE379 := n6_; clear n0_ n1_ n2_ n3_ n4_ n5_ n6_; clear hb hbox hg; obtain ⟨Ao33, co33, eo33⟩ := Kd.V_slice HO369.out; subst eo33; have hcz34_0 : w32.cell? ⟨gb379, 0, none⟩ = some (.slice none 0 0) := (xB BK379.out 0).trans rfl; have hcz34_1 : w32.cell? ⟨gb379, 1, none⟩ = some (.int .i64 0) := (xB BK379.out 1).trans rfl; have hcz34_2 : w32.cell? ⟨gb379, 2, none⟩ = some (.int .i64 0) := (xB BK379.out 2).trans rfl; have hcz34_3 : w32.cell? ⟨gb379, 3, none⟩ = some (.slice none 0 0) := (xB BK379.out 3).trans rfl; have hcz34_4 : w32.cell? ⟨gb379, 4, none⟩ = some (.slice none 0 0) := (xB BK379.out 4).trans rfl; have hfz34_0 := xC BK379.out 0; have hfz34_1 := xC BK379.out 1; have hfz34_2 := xC BK379.out 2; have hfz34_3 := xC BK379.out 3; have hfz34_4 := xC BK379.out 4; obtain ⟨Ao35, co35, eo35⟩ := Kd.yD HO374.out; subst eo35; obtain ⟨Ao36, co36, eo36⟩ := Kd.yD HO377.out; subst eo36) | ((with_reducible refine xK (f := 46) rfl ?_); refine xS (some 25) rfl rfl Try.func46 jk rfl #[.slice Ao33 t367.length co33] rfl qc ?_; (with_reducible refine (lgconnected.calls k _ _ t367 false _ ?side1 ?side2 A4.out).mono ?_); (case side1 => refine (Kd.yB (e := 26) (base := w.heap.size) (ok := fun k_ => ((some k_ ≠ (.slice Ao35 t372.length co35 : Value).ownBlock ∧ some k_ ≠ (.slice Ao36 t375.length co36 : Value).ownBlock) ∧ k_ ≠ gb379)) (n := t367.length) (c := co33) ?_).2.2; exact (by (with_reducible repeat (first | apply Kd.V_alloc | apply Kd.V_drewN | apply Kd.V_drew)); exact (Kd.V_mono (Kd.V_far (p := ⟨gb379, 4, none⟩) (Kd.V_far (p := ⟨gb379, 3, none⟩) (Kd.V_far (p := ⟨gb379, 2, none⟩) (Kd.V_far (p := ⟨gb379, 1, none⟩) (Kd.V_far (p := ⟨gb379, 0, none⟩) (Kd.V_mono HO369.out (fun k_ hk => (⟨hk, hk.2⟩ : _ ∧ k_ ≠ gb379))) (fun _ hk => hk.2) (.slice Ao33 t367.length co33)) (fun _ hk => hk.2) (.int .i64 t370)) (fun _ hk => hk.2) (.int .i64 t371)) (fun _ hk => hk.2) (.slice Ao35 t372.length co35)) (fun _ hk => hk.2) (.slice Ao36 t375.length co36)) (fun _ h_ => h_.1)))); (case side2 => exact (Kd.yB HO369.out).2.1); rintro e w37 ⟨rfl, hb⟩; refine ⟨_, rfl, ?_⟩; have n0_ := xA.mk (Kd.V_below (by (with_reducible repeat (first | apply Kd.V_alloc | apply Kd.V_drewN | apply Kd.V_drew)); exact (Kd.V_mono (Kd.V_far (p := ⟨gb379, 4, none⟩) (Kd.V_far (p := ⟨gb379, 3, none⟩) (Kd.V_far (p := ⟨gb379, 2, none⟩) (Kd.V_far (p := ⟨gb379, 1, none⟩) (Kd.V_far (p := ⟨gb379, 0, none⟩) (Kd.V_mono HO369.out (fun k_ hk => (⟨hk, hk.2⟩ : _ ∧ k_ ≠ gb379))) (fun _ hk => hk.2) (.slice Ao33 t367.length co33)) (fun _ hk => hk.2) (.int .i64 t370)) (fun _ hk => hk.2) (.int .i64 t371)) (fun _ hk => hk.2) (.slice Ao35 t372.length co35)) (fun _ hk => hk.2) (.slice Ao36 t375.length co36)) (fun _ h_ => h_.1))) hb); have n1_ := xA.mk (Kd.xX (by (with_reducible repeat (first | apply Kd.S_alloc | apply Kd.yA | apply Kd.xV)); exact (Kd.xQ (Kd.S_far (p := ⟨gb379, 4, none⟩) (Kd.S_far (p := ⟨gb379, 3, none⟩) (Kd.S_far (p := ⟨gb379, 2, none⟩) (Kd.S_far (p := ⟨gb379, 1, none⟩) (Kd.S_far (p := ⟨gb379, 0, none⟩) (Kd.S_types HO374.out BK379.out (by decide)) (fun _ hk => hk.2) (.slice Ao33 t367.length co33)) (fun _ hk => hk.2) (.int .i64 t370)) (fun _ hk => hk.2) (.int .i64 t371)) (fun _ hk => hk.2) (.slice Ao35 t372.length co35)) (fun _ hk => hk.2) (.slice Ao36 t375.length co36)) (fun _ h_ => h_.1))) hb); have n2_ := xA.mk (Kd.xX (by (with_reducible repeat (first | apply Kd.S_alloc | apply Kd.yA | apply Kd.xV)); exact (Kd.xQ (Kd.S_far (p := ⟨gb379, 4, none⟩) (Kd.S_far (p := ⟨gb379, 3, none⟩) (Kd.S_far (p := ⟨gb379, 2, none⟩) (Kd.S_far (p := ⟨gb379, 1, none⟩) (Kd.S_far (p := ⟨gb379, 0, none⟩) (Kd.S_types HO377.out BK379.out (by decide)) (fun _ hk => hk.2) (.slice Ao33 t367.length co33)) (fun _ hk => hk.2) (.int .i64 t370)) (fun _ hk => hk.2) (.int .i64 t371)) (fun _ hk => hk.2) (.slice Ao35 t372.length co35)) (fun _ hk => hk.2) (.slice Ao36 t375.length co36)) (fun _ h_ => h_.1))) hb); have n3_ := xA.mk (xO (g := gb379) (o := .cells #[.slice Ao33 t367.length co33, .int .i64 t370, .int .i64 t371, .slice Ao35 t372.length co35, .slice Ao36 t375.length co36] 58 (0, 0)) (by (with_reducible repeat (first | refine xI ?_ _ | refine xH ?_ | refine xG ?_ _)); refine xT (cs := #[.slice Ao33 t367.length co33, .int .i64 t370, .int .i64 t371, .slice Ao35 t372.length co35, .slice none 0 0]) ?_ 4 _ rfl; (with_reducible repeat (first | refine xI ?_ _ | refine xH ?_ | refine xG ?_ _)); refine xT (cs := #[.slice Ao33 t367.length co33, .int .i64 t370, .int .i64 t371, .slice none 0 0, .slice none 0 0]) ?_ 3 _ rfl; (with_reducible repeat (first | refine xI ?_ _ | refine xH ?_ | refine xG ?_ _)); refine xT (cs := #[.slice Ao33 t367.length co33, .int .i64 t370, .int .i64 0, .slice none 0 0, .slice none 0 0]) ?_ 2 _ rfl; (with_reducible repeat (first | refine xI ?_ _ | refine xH ?_ | refine xG ?_ _)); refine xT (cs := #[.slice Ao33 t367.length co33, .int .i64 0, .int .i64 0, .slice none 0 0, .slice none 0 0]) ?_ 1 _ rfl; (with_reducible repeat (first | refine xI ?_ _ | refine xH ?_ | refine xG ?_ _)); refine xT (cs := #[.slice none 0 0, .int .i64 0, .int .i64 0, .slice none 0 0, .slice none 0 0]) ?_ 0 _ rfl; (with_reducible repeat (first | refine xI ?_ _ | refine xH ?_ | refine xG ?_ _)); exact BK379.out) hb); have n4_ := xA.mk (xF (qo GE379.out) hb); clear HO369; clear HO374; clear HO377; clear BK379; clear HB; have HO369 := n0_; have HO374 := n1_; have HO377 := n2_; have BK379 := n3_; have HB := n4_; clear n0_ n1_ n2_ n3_ n4_; (try clear hb); (try clear hb2); (try clear hk); (try clear hi)))
  go_ret3
  exact ⟨qg, qo GE379.out⟩
 subst c5
 have H1 : ((llperiod.f k t367 t370 t371 t372 t375).bind fun t381 => (if t371 = 0 then (none) else (line_Regime.l0 k t381 (wrap64 (Int.tdiv (wrap64 (t381 * t370)) t371)) 1 t367 t370 t371 t372 t375))) = some (r1, r2, r3) := by rw [if_pos rfl] at H; exact H
 clear H
 have H := H1
 clear H1
 replace H := qw H
 obtain ⟨t381, A60, H⟩ := H
 replace H : (if t371 = 0 then (none) else (line_Regime.l0 k t381 (wrap64 (Int.tdiv (wrap64 (t381 * t370)) t371)) 1 t367 t370 t371 t372 t375)) = some (r1, r2, r3) := H
 have A6 := xA.mk A60
 clear A60
 by_cases c7 : t371 = 0
 ·
  rw [if_pos c7] at H
  exact absurd H (by simp)
 rw [if_neg c7] at H
 have c7b0 : (t371 == 0) = false := jg c7
 have c7b1 : (t371 != 0) = true := bne_iff_ne.mpr c7
 have H' := xA.mk H
 clear H
 go_enter Try.func18, Try.ntmps18
 go_wp2_with (first | ((with_reducible refine xK (f := 45) rfl ?_); refine xS (some 15) rfl rfl Try.func45 jk rfl #[.slice A0 l0.length c0] rfl qc ?_; (with_reducible refine (line_looked.calls k (fun k_ => k_ < w.heap.size) _ _ l0 t367 t370 t371 t372 t375 t378 _ ?side1 A2.out).mono ?_); (case side1 => exact Kd.V_mk HC0.out (Kd.F_below (Kd.C_F (Kd.heap_slice 3 (Kd.heap_int .i64)) HR0.out) qa)); rintro e w8 ⟨v368, v373, v376, rfl, ho0, ho1, ho2, hb⟩; refine ⟨_, rfl, ?_⟩; have HO369 := xA.mk (Kd.V_lower (Kd.V_mono (ok' := fun k_ => some k_ ≠ (v373 : Value).ownBlock ∧ some k_ ≠ (v376 : Value).ownBlock) ho0 (fun k_ hk_ => ⟨hk_.2.1, hk_.2.2⟩)) (xD qa)); have HO374 := xA.mk (Kd.S_lower (Kd.xQ (ok' := fun k_ => some k_ ≠ (v376 : Value).ownBlock) ho1 (fun _ hk_ => hk_.2)) (xD qa)); have HO377 := xA.mk (Kd.S_lower (Kd.xQ (ok' := fun k_ => some k_ ≠ (v373 : Value).ownBlock) ho2 (fun _ hk_ => hk_.2)) (xD qa)); replace HB := xA.mk (xF qa hb); (try clear hb); (try clear hb2); (try clear hk); (try clear hi); (try clear ho0); (try clear ho1); (try clear ho2)) | ((with_reducible refine xW (N := 5) rfl ?_); refine yF ?hg (N := 5) ?hd (cs := #[.slice none 0 0, .int .i64 0, .int .i64 0, .slice none 0 0, .slice none 0 0]) (t := 58) ?hr ?_; (case hd => rfl); (case hg => rfl); (case hr => first | (go_simp; done) | (go_simp; rfl)); intro gb379 hg w9 hbox hb; have n0_ := xA.mk (Kd.V_below (Kd.V_elderB (qj HO369.out) gb379 (Nat.le_of_eq hg.symm)) hb); have n1_ := xA.mk (Kd.xX (qh HO374.out) hb); have n2_ := xA.mk (Kd.xX (qh HO377.out) hb); have n3_ := xA.mk (xF qa hb); have n4_ := xA.mk (hbox); have n5_ := xA.mk ((by rw [hg]; exact (xD qa) : w.heap.size ≤ gb379)); have n6_ := xA.mk ((by rw [hg]; exact (xD qa) : w.heap.size ≤ gb379)); clear HO369; clear HO374; clear HO377; clear HB; have HO369 := n0_; have HO374 := n1_; have HO377 := n2_; have HB := n3_; have BK379 := n4_; have GW379 := n5_; have GE379 := n6_; clear n0_ n1_ n2_ n3_ n4_ n5_ n6_; clear hb hbox hg; obtain ⟨Ao10, co10, eo10⟩ := Kd.V_slice HO369.out; subst eo10; have hcz11_0 : w9.cell? ⟨gb379, 0, none⟩ = some (.slice none 0 0) := (xB BK379.out 0).trans rfl; have hcz11_1 : w9.cell? ⟨gb379, 1, none⟩ = some (.int .i64 0) := (xB BK379.out 1).trans rfl; have hcz11_2 : w9.cell? ⟨gb379, 2, none⟩ = some (.int .i64 0) := (xB BK379.out 2).trans rfl; have hcz11_3 : w9.cell? ⟨gb379, 3, none⟩ = some (.slice none 0 0) := (xB BK379.out 3).trans rfl; have hcz11_4 : w9.cell? ⟨gb379, 4, none⟩ = some (.slice none 0 0) := (xB BK379.out 4).trans rfl; have hfz11_0 := xC BK379.out 0; have hfz11_1 := xC BK379.out 1; have hfz11_2 := xC BK379.out 2; have hfz11_3 := xC BK379.out 3; have hfz11_4 := xC BK379.out 4; obtain ⟨Ao12, co12, eo12⟩ := Kd.yD HO374.out; subst eo12; obtain ⟨Ao13, co13, eo13⟩ := Kd.yD HO377.out; subst eo13) | ((with_reducible refine xK (f := 46) rfl ?_); refine xS (some 25) rfl rfl Try.func46 jk rfl #[.slice Ao10 t367.length co10] rfl qc ?_; (with_reducible refine (lgconnected.calls k _ _ t367 true _ ?side1 ?side2 A4.out).mono ?_); (case side1 => refine (Kd.yB (e := 26) (base := w.heap.size) (ok := fun k_ => ((some k_ ≠ (.slice Ao12 t372.length co12 : Value).ownBlock ∧ some k_ ≠ (.slice Ao13 t375.length co13 : Value).ownBlock) ∧ k_ ≠ gb379)) (n := t367.length) (c := co10) ?_).2.2; exact (by (with_reducible repeat (first | apply Kd.V_alloc | apply Kd.V_drewN | apply Kd.V_drew)); exact (Kd.V_mono (Kd.V_far (p := ⟨gb379, 4, none⟩) (Kd.V_far (p := ⟨gb379, 3, none⟩) (Kd.V_far (p := ⟨gb379, 2, none⟩) (Kd.V_far (p := ⟨gb379, 1, none⟩) (Kd.V_far (p := ⟨gb379, 0, none⟩) (Kd.V_mono HO369.out (fun k_ hk => (⟨hk, hk.2⟩ : _ ∧ k_ ≠ gb379))) (fun _ hk => hk.2) (.slice Ao10 t367.length co10)) (fun _ hk => hk.2) (.int .i64 t370)) (fun _ hk => hk.2) (.int .i64 t371)) (fun _ hk => hk.2) (.slice Ao12 t372.length co12)) (fun _ hk => hk.2) (.slice Ao13 t375.length co13)) (fun _ h_ => h_.1)))); (case side2 => exact (Kd.yB HO369.out).2.1); rintro e w14 ⟨rfl, hb⟩; refine ⟨_, rfl, ?_⟩; have n0_ := xA.mk (Kd.V_below (by (with_reducible repeat (first | apply Kd.V_alloc | apply Kd.V_drewN | apply Kd.V_drew)); exact (Kd.V_mono (Kd.V_far (p := ⟨gb379, 4, none⟩) (Kd.V_far (p := ⟨gb379, 3, none⟩) (Kd.V_far (p := ⟨gb379, 2, none⟩) (Kd.V_far (p := ⟨gb379, 1, none⟩) (Kd.V_far (p := ⟨gb379, 0, none⟩) (Kd.V_mono HO369.out (fun k_ hk => (⟨hk, hk.2⟩ : _ ∧ k_ ≠ gb379))) (fun _ hk => hk.2) (.slice Ao10 t367.length co10)) (fun _ hk => hk.2) (.int .i64 t370)) (fun _ hk => hk.2) (.int .i64 t371)) (fun _ hk => hk.2) (.slice Ao12 t372.length co12)) (fun _ hk => hk.2) (.slice Ao13 t375.length co13)) (fun _ h_ => h_.1))) hb); have n1_ := xA.mk (Kd.xX (by (with_reducible repeat (first | apply Kd.S_alloc | apply Kd.yA | apply Kd.xV)); exact (Kd.xQ (Kd.S_far (p := ⟨gb379, 4, none⟩) (Kd.S_far (p := ⟨gb379, 3, none⟩) (Kd.S_far (p := ⟨gb379, 2, none⟩) (Kd.S_far (p := ⟨gb379, 1, none⟩) (Kd.S_far (p := ⟨gb379, 0, none⟩) (Kd.S_types HO374.out BK379.out (by decide)) (fun _ hk => hk.2) (.slice Ao10 t367.length co10)) (fun _ hk => hk.2) (.int .i64 t370)) (fun _ hk => hk.2) (.int .i64 t371)) (fun _ hk => hk.2) (.slice Ao12 t372.length co12)) (fun _ hk => hk.2) (.slice Ao13 t375.length co13)) (fun _ h_ => h_.1))) hb); have n2_ := xA.mk (Kd.xX (by (with_reducible repeat (first | apply Kd.S_alloc | apply Kd.yA | apply Kd.xV)); exact (Kd.xQ (Kd.S_far (p := ⟨gb379, 4, none⟩) (Kd.S_far (p := ⟨gb379, 3, none⟩) (Kd.S_far (p := ⟨gb379, 2, none⟩) (Kd.S_far (p := ⟨gb379, 1, none⟩) (Kd.S_far (p := ⟨gb379, 0, none⟩) (Kd.S_types HO377.out BK379.out (by decide)) (fun _ hk => hk.2) (.slice Ao10 t367.length co10)) (fun _ hk => hk.2) (.int .i64 t370)) (fun _ hk => hk.2) (.int .i64 t371)) (fun _ hk => hk.2) (.slice Ao12 t372.length co12)) (fun _ hk => hk.2) (.slice Ao13 t375.length co13)) (fun _ h_ => h_.1))) hb); have n3_ := xA.mk (xO (g := gb379) (o := .cells #[.slice Ao10 t367.length co10, .int .i64 t370, .int .i64 t371, .slice Ao12 t372.length co12, .slice Ao13 t375.length co13] 58 (0, 0)) (by (with_reducible repeat (first | refine xI ?_ _ | refine xH ?_ | refine xG ?_ _)); refine xT (cs := #[.slice Ao10 t367.length co10, .int .i64 t370, .int .i64 t371, .slice Ao12 t372.length co12, .slice none 0 0]) ?_ 4 _ rfl; (with_reducible repeat (first | refine xI ?_ _ | refine xH ?_ | refine xG ?_ _)); refine xT (cs := #[.slice Ao10 t367.length co10, .int .i64 t370, .int .i64 t371, .slice none 0 0, .slice none 0 0]) ?_ 3 _ rfl; (with_reducible repeat (first | refine xI ?_ _ | refine xH ?_ | refine xG ?_ _)); refine xT (cs := #[.slice Ao10 t367.length co10, .int .i64 t370, .int .i64 0, .slice none 0 0, .slice none 0 0]) ?_ 2 _ rfl; (with_reducible repeat (first | refine xI ?_ _ | refine xH ?_ | refine xG ?_ _)); refine xT (cs := #[.slice Ao10 t367.length co10, .int .i64 0, .int .i64 0, .slice none 0 0, .slice none 0 0]) ?_ 1 _ rfl; (with_reducible repeat (first | refine xI ?_ _ | refine xH ?_ | refine xG ?_ _)); refine xT (cs := #[.slice none 0 0, .int .i64 0, .int .i64 0, .slice none 0 0, .slice none 0 0]) ?_ 0 _ rfl; (with_reducible repeat (first | refine xI ?_ _ | refine xH ?_ | refine xG ?_ _)); exact BK379.out) hb); have n4_ := xA.mk (xF (qo GE379.out) hb); clear HO369; clear HO374; clear HO377; clear BK379; clear HB; have HO369 := n0_; have HO374 := n1_; have HO377 := n2_; have BK379 := n3_; have HB := n4_; clear n0_ n1_ n2_ n3_ n4_; (try clear hb); (try clear hb2); (try clear hk); (try clear hi); have hcz15_0 : w14.cell? ⟨gb379, 0, none⟩ = some (.slice Ao10 t367.length co10) := (xB BK379.out 0).trans rfl; have hcz15_1 : w14.cell? ⟨gb379, 1, none⟩ = some (.int .i64 t370) := (xB BK379.out 1).trans rfl; have hcz15_2 : w14.cell? ⟨gb379, 2, none⟩ = some (.int .i64 t371) := (xB BK379.out 2).trans rfl; have hcz15_3 : w14.cell? ⟨gb379, 3, none⟩ = some (.slice Ao12 t372.length co12) := (xB BK379.out 3).trans rfl; have hcz15_4 : w14.cell? ⟨gb379, 4, none⟩ = some (.slice Ao13 t375.length co13) := (xB BK379.out 4).trans rfl; have hfz15_0 := xC BK379.out 0; have hfz15_1 := xC BK379.out 1; have hfz15_2 := xC BK379.out 2; have hfz15_3 := xC BK379.out 3; have hfz15_4 := xC BK379.out 4) | ((with_reducible refine xK (f := 54) rfl ?_); refine xS (some 28) rfl rfl Try.func54 jk rfl #[.agg #[.slice Ao10 t367.length co10, .int .i64 t370, .int .i64 t371, .slice Ao12 t372.length co12, .slice Ao13 t375.length co13]] rfl qc ?_; (with_reducible refine (llperiod.calls k _ _ t367 t370 t371 _ _ t372 _ _ t375 t381 _ ?side1 ?side2 ?side3 ?side4 ?side5 ?side6 A6.out).mono ?_); (case side1 => exact qm (Kd.yB HO369.out).2.2); (case side2 => exact (Kd.yB HO369.out).2.1); (case side3 => exact qm (Kd.xJ HO374.out).2.2); (case side4 => exact (Kd.xJ HO374.out).2.1); (case side5 => exact qm (Kd.xJ HO377.out).2.2); (case side6 => exact (Kd.xJ HO377.out).2.1); rintro e w16 ⟨rfl, hb⟩; refine ⟨_, rfl, ?_⟩; replace HO369 := xA.mk (Kd.V_below (qj HO369.out) hb); replace HO374 := xA.mk (Kd.xX (qh HO374.out) hb); replace HO377 := xA.mk (Kd.xX (qh HO377.out) hb); replace BK379 := xA.mk (xO (g := gb379) (o := .cells #[.slice Ao10 t367.length co10, .int .i64 t370, .int .i64 t371, .slice Ao12 t372.length co12, .slice Ao13 t375.length co13] 58 (0, 0)) (qn BK379.out) hb); replace HB := xA.mk (xF (qo GE379.out) hb); (try clear hb); (try clear hb2); (try clear hk); (try clear hi); have hcz17_0 : w16.cell? ⟨gb379, 0, none⟩ = some (.slice Ao10 t367.length co10) := (xB BK379.out 0).trans rfl; have hcz17_1 : w16.cell? ⟨gb379, 1, none⟩ = some (.int .i64 t370) := (xB BK379.out 1).trans rfl; have hcz17_2 : w16.cell? ⟨gb379, 2, none⟩ = some (.int .i64 t371) := (xB BK379.out 2).trans rfl; have hcz17_3 : w16.cell? ⟨gb379, 3, none⟩ = some (.slice Ao12 t372.length co12) := (xB BK379.out 3).trans rfl; have hcz17_4 : w16.cell? ⟨gb379, 4, none⟩ = some (.slice Ao13 t375.length co13) := (xB BK379.out 4).trans rfl; have hfz17_0 := xC BK379.out 0; have hfz17_1 := xC BK379.out 1; have hfz17_2 := xC BK379.out 2; have hfz17_3 := xC BK379.out 3; have hfz17_4 := xC BK379.out 4; have HGB := xA.mk (World.block_lt_of_cell? w16 _ hcz17_0); have hal1 := fun o i => cell_alloc_old w16 gb379 HGB.out o i; have hal2 := fun o o2 i => cell_alloc_old2 w16 gb379 HGB.out o o2 i))
 have hgbm := HGB.out
 generalize hwm : (World.alloc (World.alloc w16 _) _) = wm
 have FB := xA.mk (show Below w.heap.size w wm by rw [← hwm]; exact xR (xR HB.out _) _)
 have FM := xA.mk (show Below w16.heap.size w16 wm by rw [← hwm]; exact xR (xR (Below.refl _ _) _) _)
 have FS := xA.mk (show wm.heap.size = w16.heap.size + 2 by rw [← hwm]; simp)
 have FC := xA.mk (show wm.cell? ⟨w16.heap.size, 0, none⟩ = some (.int .i64 t381) by rw [← hwm]; simp)
 have FA := xA.mk (show wm.cell? ⟨w16.heap.size + 1, 0, none⟩ = some (.int .i64 (wrap64 (Int.tdiv (wrap64 (t381 * t370)) t371))) by rw [← hwm]; simp)
 have FL := xA.mk ((FM.out.cell (p := ⟨gb379, 0, none⟩) HGB.out).trans hcz17_0)
 have FV := xA.mk (Kd.yC (Kd.yB HO369.out).2.2 FM.out)
 have FN := xA.mk (Kd.yB HO369.out).2.1
 have SL := xA.mk (show gb379 < wm.heap.size by rw [FS.out]; have := HGB.out; omega)
 have SA := xA.mk (show w16.heap.size + 1 < wm.heap.size by rw [FS.out]; omega)
 have SC := xA.mk (show w16.heap.size < wm.heap.size by rw [FS.out]; omega)
 clear hwm hgbm hal1 hal2
 go_loopg [10] k (fun kq v10 w' => ∃ (x10 : Int), v10 = .int .i64 x10 ∧ xA (line_Regime.l0 kq t381 (wrap64 (Int.tdiv (wrap64 (t381 * t370)) t371)) x10 t367 t370 t371 t372 t375 = some (r1, r2, r3)) ∧ xA (kq ≤ k) ∧ xA (Below wm.heap.size wm w'))
 case atStart => exact ⟨1, (by first | rfl | (simp; done)), H', ⟨Nat.le_refl _⟩, ⟨Below.refl _ _⟩⟩
 case round =>
  clear H'
  obtain ⟨x10, rfl, HA, HK1, HM⟩ := hrel
  obtain _ | k1 := gk
  · exact absurd HA.out (by simp [line_Regime.l0])
  have H := HA.out
  clear HA
  simp only [line_Regime.l0] at H
  replace H := qw H
  obtain ⟨t382, A180, H⟩ := H
  have A18 := xA.mk A180
  clear A180
  have hl_ := (HM.out.cell (p := ⟨gb379, 0, none⟩) SL.out).trans FL.out
  have ha_ := (HM.out.cell (p := ⟨w16.heap.size + 1, 0, none⟩) SA.out).trans FA.out
  have hc_ := (HM.out.cell (p := ⟨w16.heap.size, 0, none⟩) SC.out).trans FC.out
  have GL := xA.mk hl_
  have GA := xA.mk ha_
  have GC := xA.mk hc_
  clear hl_ ha_ hc_
  by_cases c19 : t382 = true
  rotate_left
  ·
   replace c19 := Bool.eq_false_iff.mpr c19
   subst c19
   have HX := xA.mk (show line_Regime.l0 k1 t381 (wrap64 (Int.tdiv (wrap64 (t381 * t370)) t371)) (wrap64 (x10 * 2)) t367 t370 t371 t372 t375 = some (r1, r2, r3) by rw [if_neg (by decide)] at H; exact H)
   clear H
   go_wp2_with (go_at_call 55; (with_reducible refine (line_Regime_1.calls k1 x10 Ao10 co10 t367 (wrap64 (Int.tdiv (wrap64 (t381 * t370)) t371)) t381 false _ ?s1 ?s2 A18.out gb379 (w16.heap.size + 1) w16.heap.size ?b1 ?b2 ?b3 ?c1 ?c2 ?c3).mono ?_); (case s1 => exact Kd.yC FV.out HM.out); (case s2 => exact FN.out); (case b1 => exact Nat.lt_of_lt_of_le SL.out (xD HM.out)); (case b2 => exact Nat.lt_of_lt_of_le SA.out (xD HM.out)); (case b3 => exact Nat.lt_of_lt_of_le SC.out (xD HM.out)); (case c1 => exact GL.out); (case c2 => exact GA.out); (case c3 => exact GC.out); rintro e w21 ⟨rfl, hb⟩; have n_ := xA.mk (xF HM.out hb); clear HM hb; have HM := n_; clear n_)
   go_roundg k1
   case measure => have := HK1.out; omega
   case rel => exact ⟨(wrap64 (x10 * 2)), (by first | rfl | (simp; done)), HX, ⟨by have := HK1.out; omega⟩, HM⟩
  subst c19
  have HX := xA.mk (show line_Regime.l1 k1 t381 (wrap64 (Int.tdiv (wrap64 (t381 * t370)) t371)) x10 0 t367 t370 t371 t372 t375 = some (r1, r2, r3) by rw [if_pos rfl] at H; exact H)
  clear H
  go_wp2_with (go_at_call 55; (with_reducible refine (line_Regime_1.calls k1 x10 Ao10 co10 t367 (wrap64 (Int.tdiv (wrap64 (t381 * t370)) t371)) t381 true _ ?s1 ?s2 A18.out gb379 (w16.heap.size + 1) w16.heap.size ?b1 ?b2 ?b3 ?c1 ?c2 ?c3).mono ?_); (case s1 => exact Kd.yC FV.out HM.out); (case s2 => exact FN.out); (case b1 => exact Nat.lt_of_lt_of_le SL.out (xD HM.out)); (case b2 => exact Nat.lt_of_lt_of_le SA.out (xD HM.out)); (case b3 => exact Nat.lt_of_lt_of_le SC.out (xD HM.out)); (case c1 => exact GL.out); (case c2 => exact GA.out); (case c3 => exact GC.out); rintro e w21 ⟨rfl, hb⟩; have n_ := xA.mk (xF HM.out hb); clear HM hb; have HM := n_; clear n_)
  go_loopg [10, 11] k1 (fun kq v10 v11 w' => ∃ (x10 : Int) (x11 : Int), v10 = .int .i64 x10 ∧ v11 = .int .i64 x11 ∧ xA (line_Regime.l1 kq t381 (wrap64 (Int.tdiv (wrap64 (t381 * t370)) t371)) x10 x11 t367 t370 t371 t372 t375 = some (r1, r2, r3)) ∧ xA (kq ≤ k1) ∧ xA (Below wm.heap.size wm w'))
  case atStart => exact ⟨x10, 0, (by first | rfl | (simp; done)), (by first | rfl | (simp; done)), HX, ⟨Nat.le_refl _⟩, HM⟩
  case round =>
   clear HX GL GA GC HM
   obtain ⟨x10, x11, rfl, rfl, HA, HK2, HM⟩ := hrel
   obtain _ | k2 := gk
   · exact absurd HA.out (by simp [line_Regime.l1])
   have H := HA.out
   clear HA
   simp only [line_Regime.l1] at H
   have hl_ := (HM.out.cell (p := ⟨gb379, 0, none⟩) SL.out).trans FL.out
   have ha_ := (HM.out.cell (p := ⟨w16.heap.size + 1, 0, none⟩) SA.out).trans FA.out
   have hc_ := (HM.out.cell (p := ⟨w16.heap.size, 0, none⟩) SC.out).trans FC.out
   have GL := xA.mk hl_
   have GA := xA.mk ha_
   have GC := xA.mk hc_
   clear hl_ ha_
   by_cases c22 : x11 < x10
   rotate_left
   ·
    rw [if_neg c22] at H
    have c22b0 : decide (x11 < x10) = false := qv c22
    clear c22
    simp only [Option.some.injEq, Prod.mk.injEq] at H
    obtain ⟨rfl, rfl, rfl⟩ := H
    go_wp2
    go_ret3
    exact ⟨qf, xF FB.out HM.out⟩
   clear hc_
   rw [if_pos c22] at H
   have c22b0 : decide (x11 < x10) = true := qu c22
   clear c22
   replace H := qw H
   obtain ⟨t383, A230, H⟩ := H
   have A23 := xA.mk A230
   clear A230
   by_cases c24 : t383 = true
   ·
    subst c24
    have HX := xA.mk (show line_Regime.l1 k2 t381 (wrap64 (Int.tdiv (wrap64 (t381 * t370)) t371)) (wrap64 (Int.tdiv (wrap64 (x11 + x10)) 2)) x11 t367 t370 t371 t372 t375 = some (r1, r2, r3) by rw [if_pos rfl] at H; exact H)
    clear H
    go_wp2_with (go_at_call 55; (with_reducible refine (line_Regime_1.calls k2 (wrap64 (Int.tdiv (wrap64 (x11 + x10)) 2)) Ao10 co10 t367 (wrap64 (Int.tdiv (wrap64 (t381 * t370)) t371)) t381 true _ ?s1 ?s2 A23.out gb379 (w16.heap.size + 1) w16.heap.size ?b1 ?b2 ?b3 ?c1 ?c2 ?c3).mono ?_); (case s1 => exact Kd.yC FV.out HM.out); (case s2 => exact FN.out); (case b1 => exact Nat.lt_of_lt_of_le SL.out (xD HM.out)); (case b2 => exact Nat.lt_of_lt_of_le SA.out (xD HM.out)); (case b3 => exact Nat.lt_of_lt_of_le SC.out (xD HM.out)); (case c1 => exact GL.out); (case c2 => exact GA.out); (case c3 => exact GC.out); rintro e w21 ⟨rfl, hb⟩; have n_ := xA.mk (xF HM.out hb); clear HM hb; have HM := n_; clear n_)
    go_roundg k2
    case measure => have := HK2.out; omega
    case rel => exact ⟨(wrap64 (Int.tdiv (wrap64 (x11 + x10)) 2)), x11, (by first | rfl | (simp; done)), (by first | rfl | (simp; done)), HX, ⟨by have := HK2.out; omega⟩, HM⟩
   replace c24 := Bool.eq_false_iff.mpr c24
   subst c24
   have HX := xA.mk (show line_Regime.l1 k2 t381 (wrap64 (Int.tdiv (wrap64 (t381 * t370)) t371)) x10 (wrap64 ((wrap64 (Int.tdiv (wrap64 (x11 + x10)) 2)) + 1)) t367 t370 t371 t372 t375 = some (r1, r2, r3) by rw [if_neg (by decide)] at H; exact H)
   clear H
   go_wp2_with (go_at_call 55; (with_reducible refine (line_Regime_1.calls k2 (wrap64 (Int.tdiv (wrap64 (x11 + x10)) 2)) Ao10 co10 t367 (wrap64 (Int.tdiv (wrap64 (t381 * t370)) t371)) t381 false _ ?s1 ?s2 A23.out gb379 (w16.heap.size + 1) w16.heap.size ?b1 ?b2 ?b3 ?c1 ?c2 ?c3).mono ?_); (case s1 => exact Kd.yC FV.out HM.out); (case s2 => exact FN.out); (case b1 => exact Nat.lt_of_lt_of_le SL.out (xD HM.out)); (case b2 => exact Nat.lt_of_lt_of_le SA.out (xD HM.out)); (case b3 => exact Nat.lt_of_lt_of_le SC.out (xD HM.out)); (case c1 => exact GL.out); (case c2 => exact GA.out); (case c3 => exact GC.out); rintro e w21 ⟨rfl, hb⟩; have n_ := xA.mk (xF HM.out hb); clear HM hb; have HM := n_; clear n_)
   go_roundg k2
   case measure => have := HK2.out; omega
   case rel => exact ⟨x10, (wrap64 ((wrap64 (Int.tdiv (wrap64 (x11 + x10)) 2)) + 1)), (by first | rfl | (simp; done)), (by first | rfl | (simp; done)), HX, ⟨by have := HK2.out; omega⟩, HM⟩
section
attribute [local go_sem high] eqA37
def l5alive.f (k : Nat)  : Option (Bool) := (some (([(([3, 7] : List Int)), (([2, 4] : List Int))] : List (List Int)) : List (List Int))).bind fun y399 => ((line_Speed.f k y399).bind fun bt402 => ((line_Eigen.f k y399).bind fun bt406 => ((line_Regime.f k y399).bind fun bt410 => (if bt402.2.2 = 0 then (if (bt402.1 == 9 && (bt402.2.1 == 2)) = true then (if bt406.2 = 0 then ((l5same.f k bt406.1 (([5, 0] : List Int))).bind fun t416 => (if t416 = true then (if bt410.2.2 = 0 then (some (bt410.1 == 2)) else (some false)) else (some false))) else (some false)) else (some false)) else (some false)))))
theorem l5alive.mono : ∀ k, LeO (l5alive.f k ) (l5alive.f (k + 1) ) := by
 intro  k
 unfold l5alive.f
 repeat' first
   | (with_reducible exact LeO.refl _)
   | (with_reducible exact LeO.none _)
   | (with_reducible refine LeO.ite ?_ ?_)
   | (with_reducible refine LeO.bind ?_ (fun _ => ?_))
   | exact line_Eigen.mono _ _
   | exact line_Regime.mono _ _
   | exact line_Speed.mono _ _
   | exact l5same.mono _ _ _
theorem l5alive.callsT (k : Nat)  (r : Bool) (w : World) (h : l5alive.f k  = some r) (hr_ : xA (r = true)) :
  Calls Try.prog 13 #[] w fun e w' => e = .returned (.bool r) ∧ Below w.heap.size w w' := by
 have hu37 := Try.underlying37
 have HB := xA.mk (Below.refl w.heap.size w)
 have H : ((some (([(([3, 7] : List Int)), (([2, 4] : List Int))] : List (List Int)) : List (List Int))).bind fun y399 => ((line_Speed.f k y399).bind fun bt402 => ((line_Eigen.f k y399).bind fun bt406 => ((line_Regime.f k y399).bind fun bt410 => (if bt402.2.2 = 0 then (if (bt402.1 == 9 && (bt402.2.1 == 2)) = true then (if bt406.2 = 0 then ((l5same.f k bt406.1 (([5, 0] : List Int))).bind fun t416 => (if t416 = true then (if bt410.2.2 = 0 then (some (bt410.1 == 2)) else (some false)) else (some false))) else (some false)) else (some false)) else (some false)))))) = some r := h
 clear h
 obtain ⟨y393, hy393⟩ : ∃ y_ : List Int, y_ = (([3, 7] : List Int)) := ⟨_, rfl⟩
 replace H : ((some (([y393, (([2, 4] : List Int))] : List (List Int)) : List (List Int))).bind fun y399 => ((line_Speed.f k y399).bind fun bt402 => ((line_Eigen.f k y399).bind fun bt406 => ((line_Regime.f k y399).bind fun bt410 => (if bt402.2.2 = 0 then (if (bt402.1 == 9 && (bt402.2.1 == 2)) = true then (if bt406.2 = 0 then ((l5same.f k bt406.1 (([5, 0] : List Int))).bind fun t416 => (if t416 = true then (if bt410.2.2 = 0 then (some (bt410.1 == 2)) else (some false)) else (some false))) else (some false)) else (some false)) else (some false)))))) = some r := by rw [hy393]; exact H
 have Ny393 := xA.mk hy393
 clear hy393
 obtain ⟨y396, hy396⟩ : ∃ y_ : List Int, y_ = (([2, 4] : List Int)) := ⟨_, rfl⟩
 replace H : ((some (([y393, y396] : List (List Int)) : List (List Int))).bind fun y399 => ((line_Speed.f k y399).bind fun bt402 => ((line_Eigen.f k y399).bind fun bt406 => ((line_Regime.f k y399).bind fun bt410 => (if bt402.2.2 = 0 then (if (bt402.1 == 9 && (bt402.2.1 == 2)) = true then (if bt406.2 = 0 then ((l5same.f k bt406.1 (([5, 0] : List Int))).bind fun t416 => (if t416 = true then (if bt410.2.2 = 0 then (some (bt410.1 == 2)) else (some false)) else (some false))) else (some false)) else (some false)) else (some false)))))) = some r := by rw [hy396]; exact H
 have Ny396 := xA.mk hy396
 clear hy396
 obtain ⟨y399, hy399⟩ : ∃ y_ : List (List Int), y_ = (([y393, y396] : List (List Int))) := ⟨_, rfl⟩
 replace H : ((line_Speed.f k y399).bind fun bt402 => ((line_Eigen.f k y399).bind fun bt406 => ((line_Regime.f k y399).bind fun bt410 => (if bt402.2.2 = 0 then (if (bt402.1 == 9 && (bt402.2.1 == 2)) = true then (if bt406.2 = 0 then ((l5same.f k bt406.1 (([5, 0] : List Int))).bind fun t416 => (if t416 = true then (if bt410.2.2 = 0 then (some (bt410.1 == 2)) else (some false)) else (some false))) else (some false)) else (some false)) else (some false))))) = some r := by rw [hy399]; exact H
 have Ny399 := xA.mk hy399
 clear hy399
 replace H := qw H
 obtain ⟨⟨t402, t403, t404⟩, A10, H⟩ := H
 replace H : ((line_Eigen.f k y399).bind fun bt406 => ((line_Regime.f k y399).bind fun bt410 => (if t404 = 0 then (if (t402 == 9 && (t403 == 2)) = true then (if bt406.2 = 0 then ((l5same.f k bt406.1 (([5, 0] : List Int))).bind fun t416 => (if t416 = true then (if bt410.2.2 = 0 then (some (bt410.1 == 2)) else (some false)) else (some false))) else (some false)) else (some false)) else (some false)))) = some r := H
 have A1 := xA.mk A10
 clear A10
 replace H := qw H
 obtain ⟨⟨t406, t407⟩, A20, H⟩ := H
 replace H : ((line_Regime.f k y399).bind fun bt410 => (if t404 = 0 then (if (t402 == 9 && (t403 == 2)) = true then (if t407 = 0 then ((l5same.f k t406 (([5, 0] : List Int))).bind fun t416 => (if t416 = true then (if bt410.2.2 = 0 then (some (bt410.1 == 2)) else (some false)) else (some false))) else (some false)) else (some false)) else (some false))) = some r := H
 have A2 := xA.mk A20
 clear A20
 replace H := qw H
 obtain ⟨⟨t410, t411, t412⟩, A30, H⟩ := H
 replace H : (if t404 = 0 then (if (t402 == 9 && (t403 == 2)) = true then (if t407 = 0 then ((l5same.f k t406 (([5, 0] : List Int))).bind fun t416 => (if t416 = true then (if t412 = 0 then (some (t410 == 2)) else (some false)) else (some false))) else (some false)) else (some false)) else (some false)) = some r := H
 have A3 := xA.mk A30
 clear A30
 by_cases c4 : t404 = 0
 rotate_left
 ·
  rw [if_neg c4] at H
  have c4b0 : (t404 == 0) = false := jg c4
  exact absurd (H.trans (congrArg some hr_.out)) (by simp)
 rw [if_pos c4] at H
 have c4b0 : (t404 == 0) = true := beq_iff_eq.mpr c4
 clear c4
 by_cases c5 : (t402 == 9 && (t403 == 2)) = true
 rotate_left
 ·
  rw [if_neg c5] at H
  have c5b0 : (t402 == 9 && (t403 == 2)) = false := by simpa using c5
  (try (have c5b1 : decide (t402 = 9 && (t403 == 2)) = false := by simpa using c5))
  (try (have c5b2 : (t402 == 9 && (t403 == 2)) = false := by simpa using c5))
  (try (have c5b3 : ¬ (t402 = 9 && (t403 == 2)) := by simpa using c5))
  clear c5
  exact absurd (H.trans (congrArg some hr_.out)) (by simp)
 rw [if_pos c5] at H
 have c5b0 : (t402 == 9 && (t403 == 2)) = true := c5
 (try (have c5b1 : decide (t402 = 9 && (t403 == 2)) = true := by simpa using c5))
 (try (have c5b2 : (t402 == 9 && (t403 == 2)) = true := by simpa using c5))
 clear c5
 by_cases c6 : t407 = 0
 rotate_left
 ·
  rw [if_neg c6] at H
  have c6b0 : (t407 == 0) = false := jg c6
  exact absurd (H.trans (congrArg some hr_.out)) (by simp)
 rw [if_pos c6] at H
 have c6b0 : (t407 == 0) = true := beq_iff_eq.mpr c6
 clear c6
 obtain ⟨y413, hy413⟩ : ∃ y_ : List Int, y_ = (([5, 0] : List Int)) := ⟨_, rfl⟩
 replace H : ((l5same.f k t406 y413).bind fun t416 => (if t416 = true then (if t412 = 0 then (some (t410 == 2)) else (some false)) else (some false))) = some r := by first | (rw [hy413]; with_reducible exact H) | (have H2_ := (Option.bind_some _ _).symm.trans H; rw [hy413]; with_reducible exact H2_) | (have H2_ := (Option.bind_some _ _).symm.trans H; with_reducible exact H2_) | with_reducible exact H | (rw [hy413]; exact H) | exact H
 have Ny413 := xA.mk hy413
 clear hy413
 replace H := qw H
 obtain ⟨t416, A70, H⟩ := H
 replace H : (if t416 = true then (if t412 = 0 then (some (t410 == 2)) else (some false)) else (some false)) = some r := H
 have A7 := xA.mk A70
 clear A70
 by_cases c8 : t416 = true
 rotate_left
 ·
  replace c8 := Bool.eq_false_iff.mpr c8
  subst c8
  have H1 : (some false) = some r := by rw [if_neg (show ¬ (false = true) by decide)] at H; exact H
  clear H
  have H := H1
  clear H1
  exact absurd (H.trans (congrArg some hr_.out)) (by simp)
 subst c8
 have H1 : (if t412 = 0 then (some (t410 == 2)) else (some false)) = some r := by rw [if_pos rfl] at H; exact H
 clear H
 have H := H1
 clear H1
 obtain ⟨⟨c9b0, c9b1⟩, H⟩ | ⟨c9, ⟨c9b0, c9b1⟩, H⟩ := itn_or H
 rotate_left
 ·
  exact absurd (H.trans (congrArg some hr_.out)) (by simp)
 obtain rfl := qx H
 go_enter Try.func13, Try.ntmps13
 go_wp2_with (first | ((with_reducible refine xW (N := 9) rfl ?_); (try (refine gate_guard (by rfl) ?_; dsimp only)); refine Kd.R_lit (Kd.int .i64) _ 3 ?hg (N := 9) ?hd (xs := ([3, 7] : List Int)) (inner := [.int .i64 3, .int .i64 7]) (ok := fun _ => True) (okp := fun _ => True) ?hr ?hp (fun _ hk => hk) trivial (Below.refl _ _) (Nat.le_refl _) (by simp) ?_; (case hd => rfl); (case hg => rfl); (case hr => first | (go_simp; done) | (go_simp; rfl)); (case hp => exact (Reps.one (show Kd.M (Kd.int .i64) _ _ _ 3 [.int .i64 3] from rfl) (Reps.one (show Kd.M (Kd.int .i64) _ _ _ 7 [.int .i64 7] from rfl) (Reps.none _ _)))); intro v394 w10 ho11 hb hg_ hnew_; clear hg_ hnew_; (first | rw [← Ny393.out] at ho11 | (simp only [Int.reduceToNat] at ho11; rw [← Ny393.out] at ho11)); have HO395 := xA.mk (Kd.R_lower ho11 (xD qa)); replace HB := xA.mk (xF qa hb); clear hb ho11) | ((with_reducible refine xW (N := 10) rfl ?_); (try (refine gate_guard (by rfl) ?_; dsimp only)); refine Kd.R_lit (Kd.int .i64) _ 3 ?hg (N := 10) ?hd (xs := ([2, 4] : List Int)) (inner := [.int .i64 2, .int .i64 4]) (ok := fun _ => True) (okp := fun _ => True) ?hr ?hp (fun _ hk => hk) trivial (Below.refl _ _) (Nat.le_refl _) (by simp) ?_; (case hd => rfl); (case hg => rfl); (case hr => first | (go_simp; done) | (go_simp; rfl)); (case hp => exact (Reps.one (show Kd.M (Kd.int .i64) _ _ _ 2 [.int .i64 2] from rfl) (Reps.one (show Kd.M (Kd.int .i64) _ _ _ 4 [.int .i64 4] from rfl) (Reps.none _ _)))); intro v397 w12 ho13 hb hg_ hnew_; clear hg_ hnew_; (first | rw [← Ny396.out] at ho13 | (simp only [Int.reduceToNat] at ho13; rw [← Ny396.out] at ho13)); have HO398 := xA.mk (Kd.R_lower (Kd.R_new' ho13 (Kd.R_lt (qi HO395.out))) (xD qa)); replace HO395 := xA.mk (Kd.R_elder' (qi HO395.out) (Kd.R_base ho13) hb); replace HB := xA.mk (xF qa hb); clear hb ho13; obtain ⟨Ao14, co14, eo14⟩ := Kd.R_slice HO395.out; subst eo14; obtain ⟨Ao15, co15, eo15⟩ := Kd.R_slice HO398.out; subst eo15) | ((with_reducible refine xW (N := 11) rfl ?_); (try (refine gate_guard (by rfl) ?_; dsimp only)); refine Kd.N_lit (Kd.slice 3 (Kd.int .i64)) _ 26 ?hg (N' := 11) ?hd (xs := ([y393, y396] : List (List Int))) (inner := [.slice Ao14 y393.length co14, .slice Ao15 y396.length co15]) (ok := (fun _ => True)) (okp := (fun _ => True)) ?hr ?hp (fun _ hk => hk) ((show ∀ k_, w12.heap.size ≤ k_ → (fun _ => True) k_ from fun k_ hk => trivial) _ (Nat.le_refl _)) (Below.refl _ _) (Nat.le_refl _) (by simp) ?_; (case hd => rfl); (case hg => rfl); (case hr => first | (go_simp; done) | (go_simp; rfl)); (case hp => exact (Reps.one (show Kd.FK (Kd.slice 3 (Kd.int .i64)) _ _ y393 [.slice Ao14 y393.length co14] from (Kd.FK_slice_mk (Kd.yE (Kd.xZ (ok' := (fun _ => True)) (HO395.out) (fun k_ hk => trivial))).2.1 (Kd.R_F (Kd.xZ (ok' := (fun _ => True)) (HO395.out) (fun k_ hk => trivial))))) (Reps.one (show Kd.FK (Kd.slice 3 (Kd.int .i64)) _ _ y396 [.slice Ao15 y396.length co15] from (Kd.FK_slice_mk (Kd.yE (Kd.xZ (ok' := (fun _ => True)) (HO398.out) (fun k_ hk => trivial))).2.1 (Kd.R_F (Kd.xZ (ok' := (fun _ => True)) (HO398.out) (fun k_ hk => trivial))))) (Reps.none _ _)))); intro v400 w16 ho17 hb hg_ hnew_; clear hg_ hnew_; (first | rw [← Ny399.out] at ho17 | (simp only [Int.reduceToNat] at ho17; rw [← Ny399.out] at ho17)); have n0_ := xA.mk (Kd.N_lower ho17 (xD qa)); have n1_ := xA.mk (xF qa hb); clear HB; clear HO395; clear HO398; have HO401 := n0_; have HB := n1_; clear n0_ n1_; clear hb ho17; obtain ⟨Ao18, co18, eo18⟩ := Kd.N_slice HO401.out; subst eo18) | ((with_reducible refine xK (f := 22) rfl ?_); refine xS (some 14) rfl rfl Try.func22 jk rfl #[.slice Ao18 y399.length co18] rfl qc ?_; (with_reducible refine (line_Speed.calls k _ _ y399 t402 t403 t404 _ ?side1 ?side2 A1.out).mono ?_); (case side1 => exact qm (Kd.N_reads' HO401.out).2.2); (case side2 => exact (Kd.N_reads' HO401.out).2.1); rintro e w19 ⟨rfl, hb⟩; refine ⟨_, rfl, ?_⟩; replace HO401 := xA.mk (Kd.N_below (qk HO401.out) hb); replace HB := xA.mk (xF qa hb); (try clear hb); (try clear hb2); (try clear hk); (try clear hi)) | ((with_reducible refine xW (N := 2) rfl ?_); (try (refine gate_guard (by rfl) ?_; dsimp only)); refine yF ?hg (N := 2) ?hd (cs := #[.int .i64 0, .int .i64 0]) (t := 37) ?hr ?_; (case hd => rfl); (case hg => rfl); (case hr => first | (go_simp; done) | (go_simp; rfl)); intro gb405 hg w20 hbox hb; have n0_ := xA.mk (Kd.N_below (Kd.N_elderB (qk HO401.out) gb405 (Nat.le_of_eq hg.symm)) hb); have n1_ := xA.mk (xF qa hb); have n2_ := xA.mk (hbox); have n3_ := xA.mk ((by rw [hg]; exact (xD qa) : w.heap.size ≤ gb405)); have n4_ := xA.mk ((by rw [hg]; exact (xD qa) : w.heap.size ≤ gb405)); clear HO401; clear HB; have HO401 := n0_; have HB := n1_; have BK405 := n2_; have GW405 := n3_; have GE405 := n4_; clear n0_ n1_ n2_ n3_ n4_; clear hb hbox hg; have hcz21_0 : w20.cell? ⟨gb405, 0, none⟩ = some (.int .i64 0) := (xB BK405.out 0).trans rfl; have hcz21_1 : w20.cell? ⟨gb405, 1, none⟩ = some (.int .i64 0) := (xB BK405.out 1).trans rfl; have hfz21_0 := xC BK405.out 0; have hfz21_1 := xC BK405.out 1) | ((with_reducible refine xK (f := 15) rfl ?_); refine xS (some 19) rfl rfl Try.func15 jk rfl #[.slice Ao18 y399.length co18] rfl qc ?_; (with_reducible refine (line_Eigen.calls k _ _ y399 t406 t407 _ ?side1 ?side2 A2.out).mono ?_); (case side1 => refine (Kd.N_reads' (e := 26) (base := w.heap.size) (ok := fun k_ => (True ∧ k_ ≠ gb405)) (n := y399.length) (c := co18) ?_).2.2; exact (by (with_reducible repeat (first | apply Kd.N_alloc | apply Kd.N_drewN | apply Kd.N_drew)); exact (Kd.N_mono (Kd.N_far (p := ⟨gb405, 1, none⟩) (Kd.N_far (p := ⟨gb405, 0, none⟩) (Kd.N_mono HO401.out (fun k_ hk => (⟨hk, hk.2⟩ : _ ∧ k_ ≠ gb405))) (fun _ hk => hk.2) (.int .i64 t402)) (fun _ hk => hk.2) (.int .i64 t403)) (fun _ h_ => h_.1)))); (case side2 => exact (Kd.N_reads' HO401.out).2.1); rintro e w22 ⟨v408, rfl, ho0, hb⟩; refine ⟨_, rfl, ?_⟩; have n0_ := xA.mk (Kd.N_elder' (by (with_reducible repeat (first | apply Kd.N_alloc | apply Kd.N_drewN | apply Kd.N_drew)); exact (Kd.N_mono (Kd.N_far (p := ⟨gb405, 1, none⟩) (Kd.N_far (p := ⟨gb405, 0, none⟩) (Kd.N_mono HO401.out (fun k_ hk => (⟨hk, hk.2⟩ : _ ∧ k_ ≠ gb405))) (fun _ hk => hk.2) (.int .i64 t402)) (fun _ hk => hk.2) (.int .i64 t403)) (fun _ h_ => h_.1))) (Kd.R_base ho0) hb); have n1_ := xA.mk (Kd.R_lower ho0 (xD (qo GE405.out))); have n2_ := xA.mk (xO (g := gb405) (o := .cells #[.int .i64 t402, .int .i64 t403] 37 (0, 0)) (by (with_reducible repeat (first | refine xI ?_ _ | refine xH ?_ | refine xG ?_ _)); refine xT (cs := #[.int .i64 t402, .int .i64 0]) ?_ 1 _ rfl; (with_reducible repeat (first | refine xI ?_ _ | refine xH ?_ | refine xG ?_ _)); refine xT (cs := #[.int .i64 0, .int .i64 0]) ?_ 0 _ rfl; (with_reducible repeat (first | refine xI ?_ _ | refine xH ?_ | refine xG ?_ _)); exact BK405.out) hb); have n3_ := xA.mk (xF (qo GE405.out) hb); clear HO401; clear BK405; clear HB; have HO401 := n0_; have HO409 := n1_; have BK405 := n2_; have HB := n3_; clear n0_ n1_ n2_ n3_; (try clear hb); (try clear hb2); (try clear hk); (try clear hi); (try clear ho0)) | ((with_reducible refine xK (f := 18) rfl ?_); refine xS (some 24) rfl rfl Try.func18 jk rfl #[.slice Ao18 y399.length co18] rfl qc ?_; (with_reducible refine (line_Regime.calls k _ _ y399 t410 t411 t412 _ ?side1 ?side2 A3.out).mono ?_); (case side1 => exact qm (Kd.N_reads' HO401.out).2.2); (case side2 => exact (Kd.N_reads' HO401.out).2.1); rintro e w23 ⟨rfl, hb⟩; refine ⟨_, rfl, ?_⟩; replace HO401 := xA.mk (Kd.N_below (qk HO401.out) hb); replace HO409 := xA.mk (Kd.R_below (qi HO409.out) hb); replace BK405 := xA.mk (xO (g := gb405) (o := .cells #[.int .i64 t402, .int .i64 t403] 37 (0, 0)) (qn BK405.out) hb); replace HB := xA.mk (xF (qo GE405.out) hb); (try clear hb); (try clear hb2); (try clear hk); (try clear hi); have hcz24_0 : w23.cell? ⟨gb405, 0, none⟩ = some (.int .i64 t402) := (xB BK405.out 0).trans rfl; have hcz24_1 : w23.cell? ⟨gb405, 1, none⟩ = some (.int .i64 t403) := (xB BK405.out 1).trans rfl; have hfz24_0 := xC BK405.out 0; have hfz24_1 := xC BK405.out 1) | ((with_reducible refine xW (N := 41) rfl ?_); (try (refine gate_guard (by rfl) ?_; dsimp only)); refine Kd.R_lit (Kd.int .i64) _ 3 ?hg (N := 41) ?hd (xs := ([5, 0] : List Int)) (inner := [.int .i64 5, .int .i64 0]) (ok := fun _ => True) (okp := fun _ => True) ?hr ?hp (fun _ hk => hk) trivial (Below.refl _ _) (Nat.le_refl _) (by simp) ?_; (case hd => rfl); (case hg => rfl); (case hr => first | (go_simp; done) | (go_simp; rfl)); (case hp => exact (Reps.one (show Kd.M (Kd.int .i64) _ _ _ 5 [.int .i64 5] from rfl) (Reps.one (show Kd.M (Kd.int .i64) _ _ _ 0 [.int .i64 0] from rfl) (Reps.none _ _)))); intro v414 w25 ho26 hb hg_ hnew_; clear hg_ hnew_; (first | rw [← Ny413.out] at ho26 | (simp only [Int.reduceToNat] at ho26; rw [← Ny413.out] at ho26)); replace HO401 := xA.mk (Kd.N_elder' (qk HO401.out) (Kd.R_base ho26) hb); have HO415 := xA.mk (Kd.R_lower (Kd.R_new' ho26 (Kd.R_lt (qi HO409.out))) (xD (qo GE405.out))); replace HO409 := xA.mk (Kd.R_elder' (qi HO409.out) (Kd.R_base ho26) hb); replace BK405 := xA.mk (xO (g := gb405) (o := .cells #[.int .i64 t402, .int .i64 t403] 37 (0, 0)) (qn BK405.out) hb); replace HB := xA.mk (xF (qo GE405.out) hb); clear hb ho26; obtain ⟨Ao27, co27, eo27⟩ := Kd.R_slice HO409.out; subst eo27; obtain ⟨Ao28, co28, eo28⟩ := Kd.R_slice HO415.out; subst eo28) | (go_at_call 17; (with_reducible refine (l5same.calls k _ _ t406 _ _ y413 true _ ?side1 ?side2 ?side3 ?side4 A7.out).mono ?_); (case side1 => exact qm (Kd.yE HO409.out).2.2); (case side2 => exact (Kd.yE HO409.out).2.1); (case side3 => exact qm (Kd.yE HO415.out).2.2); (case side4 => exact (Kd.yE HO415.out).2.1); rintro e w' ⟨rfl, ⟨nd, rfl⟩⟩))
 go_ret
 exact ⟨qg, qo GE405.out⟩
set_option maxRecDepth 100000 in
theorem l5alive.yes : ∀ k r, l5alive.f k = some r → r = true := by
 intro k r h
 have h1 : l5alive.f 100 = some true := by decide +kernel
 have h2 := at_rounds l5alive.mono (Nat.le_max_left k 100) h
 have h3 := at_rounds l5alive.mono (Nat.le_max_right k 100) h1
 exact qx (h2.symm.trans h3)
theorem l5alive.calls (k : Nat)  (r : Bool) (w : World) (h : l5alive.f k  = some r) :
  Calls Try.prog 13 #[] w fun e w' => e = .returned (.bool r) ∧ Below w.heap.size w w' := l5alive.callsT k r w h ⟨l5alive.yes k r h⟩
end
def l5plus.f (a0 : Int) (a1 : Int) : Option (Int) := if a0 = (-1152921504606846976) then (some (-1152921504606846976)) else (if a1 = (-1152921504606846976) then (some (-1152921504606846976)) else (some (wrap64 (a0 + a1))))
theorem l5plus.calls (a0 : Int) (a1 : Int) (r : Int) (w : World) (h : l5plus.f a0 a1 = some r) :
  Calls Try.prog 44 #[.int .i64 a0, .int .i64 a1] w fun e w' => e = .returned (.int .i64 r) ∧ Drawn0 w w' := by
 have H : (if a0 = (-1152921504606846976) then (some (-1152921504606846976)) else (if a1 = (-1152921504606846976) then (some (-1152921504606846976)) else (some (wrap64 (a0 + a1))))) = some r := h
 clear h
 by_cases c3 : a0 = (-1152921504606846976)
 ·
  rw [if_pos c3] at H
  have c3b0 : (a0 == (-1152921504606846976)) = true := beq_iff_eq.mpr c3
  clear c3
  obtain rfl := qx H
  go_enter Try.func44, Try.ntmps44
  go_wp2
  go_ret
  exact ⟨qf, qe⟩
 ·
  rw [if_neg c3] at H
  have c3b0 : (a0 == (-1152921504606846976)) = false := jg c3
  by_cases c4 : a1 = (-1152921504606846976)
  ·
   rw [if_pos c4] at H
   have c4b0 : (a1 == (-1152921504606846976)) = true := beq_iff_eq.mpr c4
   clear c4
   obtain rfl := qx H
   go_enter Try.func44, Try.ntmps44
   go_wp2
   go_ret
   exact ⟨qf, qe⟩
  ·
   rw [if_neg c4] at H
   have c4b0 : (a1 == (-1152921504606846976)) = false := jg c4
   obtain rfl := qx H
   go_enter Try.func44, Try.ntmps44
   go_wp2
   go_ret
   exact ⟨qf, qe⟩
mutual
def lgon.l0 : Nat → List (List Int) → List Int → List Int → Int → Int → Option (List Int)
 | 0, _, _, _, _, _ => none
 | k + 1, x0, x1, x5, x13, x14 => if x14 < x13 then ((line_never_int.f).bind fun t758 => (lgon.l1 k x0 x1 x5 x14 t758 x13 x14 (x0.length : Int) 0)) else (some x5)
def lgon.l1 : Nat → List (List Int) → List Int → List Int → Int → Int → Int → Int → Int → Int → Option (List Int)
 | 0, _, _, _, _, _, _, _, _, _ => none
 | k + 1, x0, x1, x5, x6, x7, x13, x14, x19, x20 => if x20 < x19 then (if 0 ≤ x6 then (if x6 < (x0.length : Int) then (if 0 ≤ x20 then (if x20 < ((rd_L1 x0 x6).length : Int) then (if x20 < (x1.length : Int) then ((line_both_int.f (rd (rd_L1 x0 x6) x20) (rd x1 x20)).bind fun t762 => (lgon.l1 k x0 x1 x5 x6 (mx x7 t762) x13 x14 x19 (wrap64 (x20 + 1)))) else (none)) else (none)) else (none)) else (none)) else (none)) else (if 0 ≤ x6 then (if x6 < (x5.length : Int) then (lgon.l0 k x0 x1 (x5.set (x6 : Int).toNat x7) x13 (wrap64 (x14 + 1))) else (none)) else (none))
end
def lgon.f (k : Nat) (l0 : List (List Int)) (l1 : List Int) : Option (List Int) := if 0 ≤ (l0.length : Int) then (if ((l0.length : Int) : Int).toNat ≤ 35184372088832 then (lgon.l0 k l0 l1 (List.replicate ((l0.length : Int) : Int).toNat 0) (l0.length : Int) 0) else (none)) else (none)
theorem lgon.calls (k : Nat) (A0 : Option Addr) (c0 : Nat) (l0 : List (List Int)) (A1 : Option Addr) (c1 : Nat) (l1 : List Int) (r : List Int) (w : World) (hr0 : Kd.C (Kd.slice 3 (Kd.int .i64)) w A0 l0.length l0) (hc0 : l0.length ≤ c0) (hr1 : Kd.C (Kd.int .i64) w A1 l1.length l1) (hc1 : l1.length ≤ c1) (h : lgon.f k l0 l1 = some r) :
  Calls Try.prog 70 #[.slice A0 l0.length c0, .slice A1 l1.length c1] w fun e w' => ∃ v0_ : Value, e = .returned (v0_) ∧ Kd.R (Kd.int .i64) 3 w' w.heap.size (fun _ => True) v0_ r ∧ Below w.heap.size w w' := by
 have HR0 := xA.mk hr0
 have HC0 := xA.mk hc0
 clear hr0 hc0
 have HR1 := xA.mk hr1
 have HC1 := xA.mk hc1
 clear hr1 hc1
 have HB := xA.mk (Below.refl w.heap.size w)
 have H : (if 0 ≤ (l0.length : Int) then (if ((l0.length : Int) : Int).toNat ≤ 35184372088832 then (lgon.l0 k l0 l1 (List.replicate ((l0.length : Int) : Int).toNat 0) (l0.length : Int) 0) else (none)) else (none)) = some r := h
 clear h
 obtain ⟨c3, H⟩ := ite_some H
 have c3b0 := eq_true c3
 have c3b1 : decide (0 ≤ (l0.length : Int)) = true := qu c3
 clear c3
 obtain ⟨c4, H⟩ := ite_some H
 have c4b0 := eq_true c4
 have c4b1 : decide (((l0.length : Int) : Int).toNat ≤ 35184372088832) = true := qu c4
 clear c4
 obtain ⟨y755, hy755⟩ : ∃ y_ : List Int, y_ = (List.replicate ((l0.length : Int) : Int).toNat 0) := ⟨_, rfl⟩
 replace H : (lgon.l0 k l0 l1 y755 (l0.length : Int) 0) = some r := by first | (rw [hy755]; with_reducible exact H) | (have H2_ := (Option.bind_some _ _).symm.trans H; rw [hy755]; with_reducible exact H2_) | (have H2_ := (Option.bind_some _ _).symm.trans H; with_reducible exact H2_) | with_reducible exact H | (rw [hy755]; exact H) | exact H
 have Ny755 := xA.mk hy755
 clear hy755
 have H' := xA.mk H
 clear H
 go_enter Try.func70, Try.ntmps70
 go_wp2_with (first | ((with_reducible refine xW (N := 11) rfl ?_); refine Kd.R_make (Kd.int .i64) _ 3 rfl (N := 11) rfl 26 _ _ rfl (l0.length : Int) rfl rfl Try.underlying26 (.int .i64 0) 8 info3 rfl (by decide) jj 0 (ok := fun _ => True) (okp := fun _ => True) rfl (fun _ hk => hk) trivial (qr) (Nat.le_trans (Nat.mul_le_mul_right _ (qr : (l0.length : Int).toNat ≤ 35184372088832)) jj) (Below.refl _ _) (Nat.le_refl _) ?_; intro v756 w5 ho6 hb hg_ hnew_; clear hg_ hnew_; (first | rw [← Ny755.out] at ho6 | (simp only [Int.reduceToNat] at ho6; rw [← Ny755.out] at ho6)); have HO757 := xA.mk (Kd.R_lower ho6 (xD qa)); replace HB := xA.mk (xF qa hb); clear hb ho6))
 repeat (go_quiet (first | ((with_reducible refine xW (N := 11) rfl ?_); refine Kd.R_make (Kd.int .i64) _ 3 rfl (N := 11) rfl 26 _ _ rfl (l0.length : Int) rfl rfl Try.underlying26 (.int .i64 0) 8 info3 rfl (by decide) jj 0 (ok := fun _ => True) (okp := fun _ => True) rfl (fun _ hk => hk) trivial (qr) (Nat.le_trans (Nat.mul_le_mul_right _ (qr : (l0.length : Int).toNat ≤ 35184372088832)) jj) (Below.refl _ _) (Nat.le_refl _) ?_; intro v756 w5 ho6 hb hg_ hnew_; clear hg_ hnew_; (first | rw [← Ny755.out] at ho6 | (simp only [Int.reduceToNat] at ho6; rw [← Ny755.out] at ho6)); have HO757 := xA.mk (Kd.R_lower ho6 (xD qa)); replace HB := xA.mk (xF qa hb); clear hb ho6)); try go_wp2_with (first | ((with_reducible refine xW (N := 11) rfl ?_); refine Kd.R_make (Kd.int .i64) _ 3 rfl (N := 11) rfl 26 _ _ rfl (l0.length : Int) rfl rfl Try.underlying26 (.int .i64 0) 8 info3 rfl (by decide) jj 0 (ok := fun _ => True) (okp := fun _ => True) rfl (fun _ hk => hk) trivial (qr) (Nat.le_trans (Nat.mul_le_mul_right _ (qr : (l0.length : Int).toNat ≤ 35184372088832)) jj) (Below.refl _ _) (Nat.le_refl _) ?_; intro v756 w5 ho6 hb hg_ hnew_; clear hg_ hnew_; (first | rw [← Ny755.out] at ho6 | (simp only [Int.reduceToNat] at ho6; rw [← Ny755.out] at ho6)); have HO757 := xA.mk (Kd.R_lower ho6 (xD qa)); replace HB := xA.mk (xF qa hb); clear hb ho6)))
 go_loopg [14] k (fun kq v14 w' => ∃ (x5_1 : List Int) (x14_1 : Int), v14 = .int .i64 x14_1 ∧ xA (lgon.l0 kq l0 l1 x5_1 (l0.length : Int) x14_1 = some r) ∧ xA (kq ≤ k) ∧ xA (Kd.R (Kd.int .i64) 3 w' w.heap.size (fun _ => True) v756 x5_1) ∧ xA (Below w.heap.size w w'))
 case atStart => exact ⟨(y755), (0), qf, H', ⟨Nat.le_refl _⟩, ⟨qi HO757.out⟩, ⟨qa⟩⟩
 case round =>
  clear H'
  try clear c1
  try clear p2
  try clear c3
  try clear c3b0
  try clear c3b1
  try clear c4
  try clear c4b0
  try clear c4b1
  obtain ⟨x5_1, x14_1, rfl, HA, HK1, HO_5, HB⟩ := hrel
  obtain _ | k1 := gk
  · exact absurd HA.out (by simp [lgon.l0])
  have H := HA.out
  clear HA
  simp only [lgon.l0] at H
  obtain ⟨c7b0, H⟩ | ⟨c7b0, H⟩ := itd_or H
  rotate_left
  ·
   obtain rfl := qx H
   go_wp2
   go_ret
   exact ⟨_, rfl, by exact HO_5.out, HB.out⟩
  replace H := qw H
  obtain ⟨t758, A80, H⟩ := H
  replace H : (lgon.l1 k1 l0 l1 x5_1 x14_1 t758 (l0.length : Int) x14_1 (l0.length : Int) 0) = some r := H
  have A8 := xA.mk A80
  clear A80
  have H' := xA.mk H
  clear H
  go_wp2_with (first | (go_at_call 83; (with_reducible refine (line_never_int.calls  t758 _ A8.out).mono ?_); rintro e w' ⟨rfl, ⟨nd, rfl⟩⟩; (try exact qp)))
  go_loopg [7, 20] k1 (fun kq v7 v20 w' => ∃ (x7_2 : Int) (x20_2 : Int), v7 = .int .i64 x7_2 ∧ v20 = .int .i64 x20_2 ∧ xA (lgon.l1 kq l0 l1 x5_1 x14_1 x7_2 (l0.length : Int) x14_1 (l0.length : Int) x20_2 = some r) ∧ xA (kq ≤ k1) ∧ xA (Kd.R (Kd.int .i64) 3 w' w.heap.size (fun _ => True) v756 x5_1) ∧ xA (Below w.heap.size w w'))
  case atStart => exact ⟨(t758), (0), rfl, rfl, H', ⟨Nat.le_refl _⟩, ⟨by exact HO_5.out⟩, ⟨qb⟩⟩
  case round =>
   clear H'
   obtain ⟨x7_2, x20_2, rfl, rfl, HA, HK2, HO_5, HB⟩ := hrel
   obtain _ | k2 := gk
   · exact absurd HA.out (by simp [lgon.l1])
   have H := HA.out
   clear HA
   simp only [lgon.l1] at H
   obtain ⟨c9b0, H⟩ | ⟨c9b0, H⟩ := itd_or H
   rotate_left
   ·
    obtain ⟨c17b0, H⟩ := xL H
    obtain ⟨c18b0, H⟩ := xL H
    obtain ⟨y763, hy763⟩ : ∃ y_ : List Int, y_ = (x5_1.set (x14_1 : Int).toNat x7_2) := ⟨_, rfl⟩
    replace H : (lgon.l0 k2 l0 l1 y763 (l0.length : Int) (wrap64 (x14_1 + 1))) = some r := by rw [hy763]; exact H
    have Ny763 := xA.mk hy763
    clear hy763
    have H' := xA.mk H
    clear H
    have p19 : 0 ≤ (x14_1 : Int) := qq
    have q19 : (x14_1 : Int) < ((x5_1.length : Int) : Int) := qq
    obtain ⟨go19, co19, eo19, gb19, gl19, cl19, HG19⟩ := Kd.R_form HO_5.out jj
    (first | cases eo19 | (injection eo19 with ea_ en_ ec_; (first | subst ea_ | (injection ea_ with ea_; subst ea_)); subst ec_; clear en_))
    have GB19 := xA.mk gb19
    have GG19 := xA.mk HG19
    clear gb19 gl19 HG19
    obtain ⟨hx19_0, hf19_0⟩ := Kd.R_celln 0 HO_5.out (x14_1 : Int) p19 q19
    replace p19 := eq_true p19
    replace q19 := eq_true q19
    have HP20 := Kd.R_putg HO_5.out (x14_1 : Int) x7_2
    go_wp2_with (first | ((with_reducible refine gate_store (t := 3) (p := 41) rfl ?_); (try (rw [drewN_self wr]; generalize hq_ : World.drewN wr _ = wr; have n0_ := xA.mk (Kd.R_at hq_ HO_5.out); have n1_ := xA.mk (below_at hq_ HB.out); clear hq_ HO_5 HB; have HO_5 := n0_; have HB := n1_; clear n0_ n1_; (try (have HP20 := Kd.R_putg HO_5.out (x14_1 : Int) x7_2)))); refine store_event (t := 3) (p := 41) (v := ?vo_w21) (w1 := (wr.setCell ⟨go19, (x14_1 : Int).toNat, none⟩ (.int .i64 x7_2))) ?hg ?ho ?hn ?hr ?_; (case ho => rfl); (case hg => rfl); (case hn => rfl); (case hr => go_simp); intro w21 hw; have hg : wr.grownBy w21 (some go19) := (by rw [hw]; exact HP20.2); have hp_ : Kd.R (Kd.int .i64) 3 w21 w.heap.size (fun _ => True) (.slice (some ⟨go19, 0, none⟩) x5_1.length co19) y763 := (by rw [hw, Ny763.out]; exact HP20.1); clear HP20; have n0_ := xA.mk (hp_); have n1_ := xA.mk ((by rw [hw]; exact xM (HB.out) GB19.out : Below w.heap.size w w21)); clear HO_5; clear HB; have HO_5 := n0_; have HB := n1_; clear n0_ n1_; clear hg hw hp_))
    go_roundg k2
    case measure => have := HK1.out; have := HK2.out; omega
    case rel => exact ⟨(y763), (wrap64 (x14_1 + 1)), rfl, H', ⟨by have := HK1.out; have := HK2.out; omega⟩, ⟨by exact HO_5.out⟩, ⟨HB.out⟩⟩
   obtain ⟨c10b0, H⟩ := xL H
   obtain ⟨c11b0, H⟩ := xL H
   obtain ⟨c12b0, H⟩ := xL H
   obtain ⟨c13b0, H⟩ := xL H
   obtain ⟨c14b0, H⟩ := xL H
   replace H := qw H
   obtain ⟨t762, A150, H⟩ := H
   replace H : (lgon.l1 k2 l0 l1 x5_1 x14_1 (mx x7_2 t762) (l0.length : Int) x14_1 (l0.length : Int) (wrap64 (x20_2 + 1))) = some r := H
   have A15 := xA.mk A150
   clear A150
   obtain ⟨ji16, hji16⟩ : ∃ j_ : Int, (mx x7_2 t762) = j_ := ⟨_, rfl⟩
   replace H : (lgon.l1 k2 l0 l1 x5_1 x14_1 ji16 (l0.length : Int) x14_1 (l0.length : Int) (wrap64 (x20_2 + 1))) = some r := by first | (rw [hji16] at H; exact H) | (simp only [hji16] at H ⊢; exact H)
   (try rw [hji16] at A15)
   have hji16_ : (if x7_2 < t762 then t762 else x7_2) = ji16 := hji16
   have H' := xA.mk H
   clear H
   have p759 : 0 ≤ (x14_1 : Int) := qq
   have q759 : x14_1 < (l0.length : Int) := qq
   obtain ⟨ad759, A759_0, c759_0, e759, hx759_0, hl759_0, hi759_0⟩ := at_L1 HR0.out x14_1 p759 q759
   cases e759
   replace hx759_0 := (HB.out.cell (World.block_lt_of_cell? w _ hx759_0)).trans hx759_0
   have HR759_0 := xA.mk hi759_0
   have HC759_0 := xA.mk hl759_0
   clear hi759_0 hl759_0
   replace p759 := eq_true p759
   replace q759 := eq_true q759
   have p760 : 0 ≤ (x20_2 : Int) := qq
   have q760 : x20_2 < ((rd_L1 l0 x14_1).length : Int) := qq
   obtain ⟨ad760, e760, hx760_0⟩ := Kd.xU HR759_0.out x20_2 p760 q760
   cases e760
   replace hx760_0 := (HB.out.cell (World.block_lt_of_cell? w _ hx760_0)).trans hx760_0
   replace p760 := eq_true p760
   replace q760 := eq_true q760
   have p761 : 0 ≤ (x20_2 : Int) := qq
   have q761 : x20_2 < (l1.length : Int) := qq
   obtain ⟨ad761, e761, hx761_0⟩ := Kd.xU HR1.out x20_2 p761 q761
   cases e761
   replace hx761_0 := (HB.out.cell (World.block_lt_of_cell? w _ hx761_0)).trans hx761_0
   replace p761 := eq_true p761
   replace q761 := eq_true q761
   go_wp2_with (first | (go_at_call 91; (with_reducible refine (line_both_int.calls (rd (rd_L1 l0 x14_1) x20_2) (rd l1 x20_2) t762 _ A15.out).mono ?_); rintro e w' ⟨rfl, ⟨nd, rfl⟩⟩; (try exact qp)))
   repeat (go_quiet (first | (go_at_call 91; (with_reducible refine (line_both_int.calls (rd (rd_L1 l0 x14_1) x20_2) (rd l1 x20_2) t762 _ A15.out).mono ?_); rintro e w' ⟨rfl, ⟨nd, rfl⟩⟩; (try exact qp))); try go_wp2_with (first | (go_at_call 91; (with_reducible refine (line_both_int.calls (rd (rd_L1 l0 x14_1) x20_2) (rd l1 x20_2) t762 _ A15.out).mono ?_); rintro e w' ⟨rfl, ⟨nd, rfl⟩⟩; (try exact qp))))
   go_roundg k2
   case measure => have := HK1.out; have := HK2.out; omega
   case rel => exact ⟨(ji16), (wrap64 (x20_2 + 1)), (by first | rfl | (simp; done) | (simp only [← hji16] <;> (first | rfl | simp)) | (simp [*]; done)), rfl, H', ⟨by have := HK1.out; have := HK2.out; omega⟩, ⟨by exact HO_5.out⟩, ⟨qb⟩⟩
def line_Potential.f (k : Nat) (l0 : List (List Int)) : Option (List Int × Int) := (line_looked.f k l0).bind fun bt817 => (if bt817.2.2.2.2.2 = 0 then (if 0 ≤ (l0.length : Int) then (if ((l0.length : Int) : Int).toNat ≤ 35184372088832 then ((lgon.f k bt817.2.2.2.2.1 (List.replicate ((l0.length : Int) : Int).toNat 0)).bind fun t833 => (some (t833, 0))) else (none)) else (none)) else (some (([] : List Int), bt817.2.2.2.2.2)))
def line_Potential.T4 : Bool × List (List Nat × List Nat) := (true, [([], []), ([0], [0]), ([], []), ([2], [2]), ([3, 3], [3]), ([1, 4], [1, 4]), ([5, 5, 0, 1, 2, 3, 4, 5], [5]), ([6, 0, 1, 2, 3, 4, 5, 6], [])])
def line_Potential.B4 : List Nat := [0, 1, 0, 4, 12, 31, 63, 127]
theorem line_Potential.tab4 : rtab .any (opsOf Try.f28 4) = line_Potential.T4 := by kernel_rfl
theorem line_Potential.bits4 : waitsOk line_Potential.T4.2 line_Potential.B4 = true := by kernel_rfl
theorem line_Potential.calls (k : Nat) (A0 : Option Addr) (c0 : Nat) (l0 : List (List Int)) (r1 : List Int) (r2 : Int) (w : World) (hr0 : Kd.C (Kd.slice 3 (Kd.int .i64)) w A0 l0.length l0) (hc0 : l0.length ≤ c0) (h : line_Potential.f k l0 = some (r1, r2)) :
  Calls Try.prog 28 #[.slice A0 l0.length c0] w fun e w' => ∃ v0_ : Value, e = .returned (.tuple #[v0_, .int .i64 r2]) ∧ Kd.R (Kd.int .i64) 3 w' w.heap.size (fun _ => True) v0_ r1 ∧ Below w.heap.size w w' := by
 have hu58 := Try.underlying58
 have HR0 := xA.mk hr0
 have HC0 := xA.mk hc0
 clear hr0 hc0
 have HB := xA.mk (Below.refl w.heap.size w)
 have H : ((line_looked.f k l0).bind fun bt817 => (if bt817.2.2.2.2.2 = 0 then (if 0 ≤ (l0.length : Int) then (if ((l0.length : Int) : Int).toNat ≤ 35184372088832 then ((lgon.f k bt817.2.2.2.2.1 (List.replicate ((l0.length : Int) : Int).toNat 0)).bind fun t833 => (some (t833, 0))) else (none)) else (none)) else (some (([] : List Int), bt817.2.2.2.2.2)))) = some (r1, r2) := h
 clear h
 replace H := qw H
 obtain ⟨⟨t817, t820, t821, t822, t825, t828⟩, A20, H⟩ := H
 replace H : (if t828 = 0 then (if 0 ≤ (l0.length : Int) then (if ((l0.length : Int) : Int).toNat ≤ 35184372088832 then ((lgon.f k t825 (List.replicate ((l0.length : Int) : Int).toNat 0)).bind fun t833 => (some (t833, 0))) else (none)) else (none)) else (some (([] : List Int), t828))) = some (r1, r2) := H
 have A2 := xA.mk A20
 clear A20
 by_cases c3 : t828 = 0
 rotate_left
 ·
  rw [if_neg c3] at H
  have c3b0 : (t828 == 0) = false := jg c3
  simp only [Option.some.injEq, Prod.mk.injEq] at H
  obtain ⟨rfl, rfl⟩ := H
  go_enter Try.func28, Try.ntmps28
  go_wp2_with (first | ((with_reducible refine xK (f := 45) rfl ?_); refine xS (some 8) rfl rfl Try.func45 jk rfl #[.slice A0 l0.length c0] rfl qd ?_; (with_reducible refine (line_looked.calls k (fun k_ => k_ < w.heap.size) _ _ l0 t817 t820 t821 t822 t825 t828 _ ?side1 A2.out).mono ?_); (case side1 => exact Kd.V_mk HC0.out (Kd.F_below (Kd.C_F (Kd.heap_slice 3 (Kd.heap_int .i64)) HR0.out) (HB.out))); rintro e w19 ⟨v818, v823, v826, rfl, ho0, ho1, ho2, hb⟩; refine ⟨_, rfl, ?_⟩; have n0_ := xA.mk (Kd.V_lower (Kd.V_mono (ok' := fun k_ => some k_ ≠ (v823 : Value).ownBlock ∧ some k_ ≠ (v826 : Value).ownBlock) ho0 (fun k_ hk_ => ⟨hk_.2.1, hk_.2.2⟩)) (xD (HB.out))); have n1_ := xA.mk (Kd.S_lower (Kd.xQ (ok' := fun k_ => some k_ ≠ (v826 : Value).ownBlock) ho1 (fun _ hk_ => hk_.2)) (xD (HB.out))); have n2_ := xA.mk (Kd.S_lower (Kd.xQ (ok' := fun k_ => some k_ ≠ (v823 : Value).ownBlock) ho2 (fun _ hk_ => hk_.2)) (xD (HB.out))); have n3_ := xA.mk (xF (HB.out) hb); clear HB; have HO819 := n0_; have HO824 := n1_; have HO827 := n2_; have HB := n3_; clear n0_ n1_ n2_ n3_) | ((with_reducible refine xW (N := 4) rfl ?_); refine yF ?hg (N := 4) ?hd (cs := #[.slice none 0 0, .int .i64 0, .int .i64 0, .slice none 0 0, .slice none 0 0]) (t := 58) ?hr ?_; (case hd => rfl); (case hg => rfl); (case hr => go_simp); intro gb829 hg w20 hbox hb; have n0_ := xA.mk (Kd.V_below (Kd.V_elderB (by exact HO819.out) gb829 (Nat.le_of_eq hg.symm)) hb); have n1_ := xA.mk (Kd.xX (by exact HO824.out) hb); have n2_ := xA.mk (Kd.xX (by exact HO827.out) hb); have n3_ := xA.mk (xF (HB.out) hb); have n4_ := xA.mk (hbox); have n5_ := xA.mk ((by rw [hg]; exact (xD (HB.out)) : w.heap.size ≤ gb829)); have n6_ := xA.mk ((by rw [hg]; exact (xD (HB.out)) : w.heap.size ≤ gb829)); clear HO819; clear HO824; clear HO827; clear HB; have HO819 := n0_; have HO824 := n1_; have HO827 := n2_; have HB := n3_; have BK829 := n4_; have GW829 := n5_; have GE829 := n6_; clear n0_ n1_ n2_ n3_ n4_ n5_ n6_; clear hb hbox hg; obtain ⟨Ao21, co21, eo21⟩ := Kd.V_slice HO819.out; subst eo21; have hcz22_0 : w20.cell? ⟨gb829, 0, none⟩ = some (.slice none 0 0) := (xB BK829.out 0).trans rfl; have hcz22_1 : w20.cell? ⟨gb829, 1, none⟩ = some (.int .i64 0) := (xB BK829.out 1).trans rfl; have hcz22_2 : w20.cell? ⟨gb829, 2, none⟩ = some (.int .i64 0) := (xB BK829.out 2).trans rfl; have hcz22_3 : w20.cell? ⟨gb829, 3, none⟩ = some (.slice none 0 0) := (xB BK829.out 3).trans rfl; have hcz22_4 : w20.cell? ⟨gb829, 4, none⟩ = some (.slice none 0 0) := (xB BK829.out 4).trans rfl; have hfz22_0 := xC BK829.out 0; have hfz22_1 := xC BK829.out 1; have hfz22_2 := xC BK829.out 2; have hfz22_3 := xC BK829.out 3; have hfz22_4 := xC BK829.out 4; obtain ⟨Ao23, co23, eo23⟩ := Kd.yD HO824.out; subst eo23; obtain ⟨Ao24, co24, eo24⟩ := Kd.yD HO827.out; subst eo24))
  go_ret2
  exact ⟨_, rfl, by first | exact Kd.R_nil _ _ _ _ _ | exact Kd.N_nil _ _ _ _ _ | exact Kd.V_nil _ _ _ _ _ | exact Kd.Q_nil _ _ _ _ _ | exact Kd.S_nil _ _ _ _ _, by repeat (first | exact HB.out | apply xR | apply xP | apply xN | refine xM ?_ GE829.out)⟩
 rw [if_pos c3] at H
 have c3b0 : (t828 == 0) = true := beq_iff_eq.mpr c3
 have c3b1 : (t828 != 0) = false := bne_eq_false_iff_eq.mpr c3
 clear c3
 obtain ⟨c4, H⟩ := ite_some H
 have c4b0 := eq_true c4
 have c4b1 : decide (0 ≤ (l0.length : Int)) = true := qu c4
 clear c4
 obtain ⟨c5, H⟩ := ite_some H
 have c5b0 := eq_true c5
 have c5b1 : decide (((l0.length : Int) : Int).toNat ≤ 35184372088832) = true := qu c5
 clear c5
 obtain ⟨y830, hy830⟩ : ∃ y_ : List Int, y_ = (List.replicate ((l0.length : Int) : Int).toNat 0) := ⟨_, rfl⟩
 replace H : ((lgon.f k t825 y830).bind fun t833 => (some (t833, 0))) = some (r1, r2) := by first | (rw [hy830]; with_reducible exact H) | (have H2_ := (Option.bind_some _ _).symm.trans H; rw [hy830]; with_reducible exact H2_) | (have H2_ := (Option.bind_some _ _).symm.trans H; with_reducible exact H2_) | with_reducible exact H | (rw [hy830]; exact H) | exact H
 have Ny830 := xA.mk hy830
 clear hy830
 replace H := qw H
 obtain ⟨t833, A60, H⟩ := H
 replace H : (some (t833, 0)) = some (r1, r2) := H
 have A6 := xA.mk A60
 clear A60
 simp only [Option.some.injEq, Prod.mk.injEq] at H
 obtain ⟨rfl, rfl⟩ := H
 go_enter Try.func28, Try.ntmps28
 try go_wp2_with (first | ((with_reducible refine xK (f := 45) rfl ?_); refine xS (some 8) rfl rfl Try.func45 jk rfl #[.slice A0 l0.length c0] rfl qc ?_; (with_reducible refine (line_looked.calls k (fun k_ => k_ < w.heap.size) _ _ l0 t817 t820 t821 t822 t825 t828 _ ?side1 A2.out).mono ?_); (case side1 => exact Kd.V_mk HC0.out (Kd.F_below (Kd.C_F (Kd.heap_slice 3 (Kd.heap_int .i64)) HR0.out) qa)); rintro e w7 ⟨v818, v823, v826, rfl, ho0, ho1, ho2, hb⟩; refine ⟨_, rfl, ?_⟩; have HO819 := xA.mk (Kd.V_lower (Kd.V_mono (ok' := fun k_ => some k_ ≠ (v823 : Value).ownBlock ∧ some k_ ≠ (v826 : Value).ownBlock) ho0 (fun k_ hk_ => ⟨hk_.2.1, hk_.2.2⟩)) (xD qa)); have HO824 := xA.mk (Kd.S_lower (Kd.xQ (ok' := fun k_ => some k_ ≠ (v826 : Value).ownBlock) ho1 (fun _ hk_ => hk_.2)) (xD qa)); have HO827 := xA.mk (Kd.S_lower (Kd.xQ (ok' := fun k_ => some k_ ≠ (v823 : Value).ownBlock) ho2 (fun _ hk_ => hk_.2)) (xD qa)); replace HB := xA.mk (xF qa hb); (try clear hb); (try clear hb2); (try clear hk); (try clear hi); (try clear ho0); (try clear ho1); (try clear ho2)) | ((with_reducible refine xW (N := 4) rfl ?_); refine yF ?hg (N := 4) ?hd (cs := #[.slice none 0 0, .int .i64 0, .int .i64 0, .slice none 0 0, .slice none 0 0]) (t := 58) ?hr ?_; (case hd => rfl); (case hg => rfl); (case hr => first | (go_simp; done) | (go_simp; rfl)); intro gb829 hg w8 hbox hb; have n0_ := xA.mk (Kd.V_below (Kd.V_elderB (qj HO819.out) gb829 (Nat.le_of_eq hg.symm)) hb); have n1_ := xA.mk (Kd.xX (qh HO824.out) hb); have n2_ := xA.mk (Kd.xX (qh HO827.out) hb); have n3_ := xA.mk (xF qa hb); have n4_ := xA.mk (hbox); have n5_ := xA.mk ((by rw [hg]; exact (xD qa) : w.heap.size ≤ gb829)); have n6_ := xA.mk ((by rw [hg]; exact (xD qa) : w.heap.size ≤ gb829)); clear HO819; clear HO824; clear HO827; clear HB; have HO819 := n0_; have HO824 := n1_; have HO827 := n2_; have HB := n3_; have BK829 := n4_; have GW829 := n5_; have GE829 := n6_; clear n0_ n1_ n2_ n3_ n4_ n5_ n6_; clear hb hbox hg; obtain ⟨Ao9, co9, eo9⟩ := Kd.V_slice HO819.out; subst eo9; have hcz10_0 : w8.cell? ⟨gb829, 0, none⟩ = some (.slice none 0 0) := (xB BK829.out 0).trans rfl; have hcz10_1 : w8.cell? ⟨gb829, 1, none⟩ = some (.int .i64 0) := (xB BK829.out 1).trans rfl; have hcz10_2 : w8.cell? ⟨gb829, 2, none⟩ = some (.int .i64 0) := (xB BK829.out 2).trans rfl; have hcz10_3 : w8.cell? ⟨gb829, 3, none⟩ = some (.slice none 0 0) := (xB BK829.out 3).trans rfl; have hcz10_4 : w8.cell? ⟨gb829, 4, none⟩ = some (.slice none 0 0) := (xB BK829.out 4).trans rfl; have hfz10_0 := xC BK829.out 0; have hfz10_1 := xC BK829.out 1; have hfz10_2 := xC BK829.out 2; have hfz10_3 := xC BK829.out 3; have hfz10_4 := xC BK829.out 4; obtain ⟨Ao11, co11, eo11⟩ := Kd.yD HO824.out; subst eo11; obtain ⟨Ao12, co12, eo12⟩ := Kd.yD HO827.out; subst eo12))
 have n0_ : xA (Kd.V (Kd.slice 3 (Kd.int .i64)) 26 (((((w8.setCell ⟨gb829, 0, none⟩ (.slice Ao9 t817.length co9)).setCell ⟨gb829, 1, none⟩ (.int .i64 t820)).setCell ⟨gb829, 2, none⟩ (.int .i64 t821)).setCell ⟨gb829, 3, none⟩ (.slice Ao11 t822.length co11)).setCell ⟨gb829, 4, none⟩ (.slice Ao12 t825.length co12)) w.heap.size (fun k_ => some k_ ≠ (.slice Ao11 t822.length co11 : Value).ownBlock ∧ some k_ ≠ (.slice Ao12 t825.length co12 : Value).ownBlock ∧ k_ ≠ gb829) (.slice Ao9 t817.length co9) t817) := ⟨by (with_reducible repeat (first | apply Kd.V_alloc | apply Kd.V_drewN | apply Kd.V_drew)); exact Kd.V_mono (Kd.V_far (p := ⟨gb829, 4, none⟩) (Kd.V_far (p := ⟨gb829, 3, none⟩) (Kd.V_far (p := ⟨gb829, 2, none⟩) (Kd.V_far (p := ⟨gb829, 1, none⟩) (Kd.V_far (p := ⟨gb829, 0, none⟩) (Kd.V_mono HO819.out (fun k_ hk => (⟨hk, hk.2⟩ : _ ∧ k_ ≠ gb829))) (fun _ hk => hk.2) (.slice Ao9 t817.length co9)) (fun _ hk => hk.2) (.int .i64 t820)) (fun _ hk => hk.2) (.int .i64 t821)) (fun _ hk => hk.2) (.slice Ao11 t822.length co11)) (fun _ hk => hk.2) (.slice Ao12 t825.length co12)) (fun _ hk => ⟨hk.1.1.1, ⟨hk.1.1.2, hk.1.2⟩⟩)⟩
 have n1_ : xA (Kd.S (Kd.slice 3 (Kd.int .i64)) 26 (((((w8.setCell ⟨gb829, 0, none⟩ (.slice Ao9 t817.length co9)).setCell ⟨gb829, 1, none⟩ (.int .i64 t820)).setCell ⟨gb829, 2, none⟩ (.int .i64 t821)).setCell ⟨gb829, 3, none⟩ (.slice Ao11 t822.length co11)).setCell ⟨gb829, 4, none⟩ (.slice Ao12 t825.length co12)) w.heap.size (fun k_ => some k_ ≠ (.slice Ao12 t825.length co12 : Value).ownBlock) (.slice Ao11 t822.length co11) t822) := ⟨by (with_reducible repeat (first | apply Kd.S_alloc | apply Kd.yA | apply Kd.xV)); exact Kd.xQ (Kd.S_far (p := ⟨gb829, 4, none⟩) (Kd.S_far (p := ⟨gb829, 3, none⟩) (Kd.S_far (p := ⟨gb829, 2, none⟩) (Kd.S_far (p := ⟨gb829, 1, none⟩) (Kd.S_far (p := ⟨gb829, 0, none⟩) (Kd.S_types HO824.out BK829.out (by decide)) (fun _ hk => hk.2) (.slice Ao9 t817.length co9)) (fun _ hk => hk.2) (.int .i64 t820)) (fun _ hk => hk.2) (.int .i64 t821)) (fun _ hk => hk.2) (.slice Ao11 t822.length co11)) (fun _ hk => hk.2) (.slice Ao12 t825.length co12)) (fun _ hk => hk.1)⟩
 have n2_ : xA (Kd.S (Kd.slice 3 (Kd.int .i64)) 26 (((((w8.setCell ⟨gb829, 0, none⟩ (.slice Ao9 t817.length co9)).setCell ⟨gb829, 1, none⟩ (.int .i64 t820)).setCell ⟨gb829, 2, none⟩ (.int .i64 t821)).setCell ⟨gb829, 3, none⟩ (.slice Ao11 t822.length co11)).setCell ⟨gb829, 4, none⟩ (.slice Ao12 t825.length co12)) w.heap.size (fun k_ => some k_ ≠ (.slice Ao11 t822.length co11 : Value).ownBlock) (.slice Ao12 t825.length co12) t825) := ⟨by (with_reducible repeat (first | apply Kd.S_alloc | apply Kd.yA | apply Kd.xV)); exact Kd.xQ (Kd.S_far (p := ⟨gb829, 4, none⟩) (Kd.S_far (p := ⟨gb829, 3, none⟩) (Kd.S_far (p := ⟨gb829, 2, none⟩) (Kd.S_far (p := ⟨gb829, 1, none⟩) (Kd.S_far (p := ⟨gb829, 0, none⟩) (Kd.S_types HO827.out BK829.out (by decide)) (fun _ hk => hk.2) (.slice Ao9 t817.length co9)) (fun _ hk => hk.2) (.int .i64 t820)) (fun _ hk => hk.2) (.int .i64 t821)) (fun _ hk => hk.2) (.slice Ao11 t822.length co11)) (fun _ hk => hk.2) (.slice Ao12 t825.length co12)) (fun _ hk => hk.1)⟩
 have n3_ : xA ((((((w8.setCell ⟨gb829, 0, none⟩ (.slice Ao9 t817.length co9)).setCell ⟨gb829, 1, none⟩ (.int .i64 t820)).setCell ⟨gb829, 2, none⟩ (.int .i64 t821)).setCell ⟨gb829, 3, none⟩ (.slice Ao11 t822.length co11)).setCell ⟨gb829, 4, none⟩ (.slice Ao12 t825.length co12)).heap[gb829]? = some (.cells #[.slice Ao9 t817.length co9, .int .i64 t820, .int .i64 t821, .slice Ao11 t822.length co11, .slice Ao12 t825.length co12] 58 (0, 0))) := ⟨by (with_reducible repeat (first | refine xI ?_ _ | refine xH ?_ | refine xG ?_ _)); refine xT (cs := #[.slice Ao9 t817.length co9, .int .i64 t820, .int .i64 t821, .slice Ao11 t822.length co11, .slice none 0 0]) ?_ 4 _ rfl; (with_reducible repeat (first | refine xI ?_ _ | refine xH ?_ | refine xG ?_ _)); refine xT (cs := #[.slice Ao9 t817.length co9, .int .i64 t820, .int .i64 t821, .slice none 0 0, .slice none 0 0]) ?_ 3 _ rfl; (with_reducible repeat (first | refine xI ?_ _ | refine xH ?_ | refine xG ?_ _)); refine xT (cs := #[.slice Ao9 t817.length co9, .int .i64 t820, .int .i64 0, .slice none 0 0, .slice none 0 0]) ?_ 2 _ rfl; (with_reducible repeat (first | refine xI ?_ _ | refine xH ?_ | refine xG ?_ _)); refine xT (cs := #[.slice Ao9 t817.length co9, .int .i64 0, .int .i64 0, .slice none 0 0, .slice none 0 0]) ?_ 1 _ rfl; (with_reducible repeat (first | refine xI ?_ _ | refine xH ?_ | refine xG ?_ _)); refine xT (cs := #[.slice none 0 0, .int .i64 0, .int .i64 0, .slice none 0 0, .slice none 0 0]) ?_ 0 _ rfl; (with_reducible repeat (first | refine xI ?_ _ | refine xH ?_ | refine xG ?_ _)); exact BK829.out⟩
 have n4_ : xA (Below w.heap.size w (((((w8.setCell ⟨gb829, 0, none⟩ (.slice Ao9 t817.length co9)).setCell ⟨gb829, 1, none⟩ (.int .i64 t820)).setCell ⟨gb829, 2, none⟩ (.int .i64 t821)).setCell ⟨gb829, 3, none⟩ (.slice Ao11 t822.length co11)).setCell ⟨gb829, 4, none⟩ (.slice Ao12 t825.length co12))) := ⟨qo GE829.out⟩
 (try clear HO819)
 (try clear HO824)
 (try clear HO827)
 (try clear BK829)
 (try clear HB)
 generalize (((((w8.setCell ⟨gb829, 0, none⟩ (.slice Ao9 t817.length co9)).setCell ⟨gb829, 1, none⟩ (.int .i64 t820)).setCell ⟨gb829, 2, none⟩ (.int .i64 t821)).setCell ⟨gb829, 3, none⟩ (.slice Ao11 t822.length co11)).setCell ⟨gb829, 4, none⟩ (.slice Ao12 t825.length co12)) = w13 at n0_ n1_ n2_ n3_ n4_ ⊢
 have HO819 := n0_
 have HO824 := n1_
 have HO827 := n2_
 have BK829 := n3_
 have HB := n4_
 clear n0_ n1_ n2_ n3_ n4_
 have n0_ := xA.mk (Kd.V_drew HO819.out)
 have n1_ := xA.mk (Kd.xV HO824.out)
 have n2_ := xA.mk (Kd.xV HO827.out)
 have n3_ := xA.mk (xH BK829.out)
 have n4_ := xA.mk (xN HB.out)
 clear HO819
 clear HO824
 clear HO827
 clear BK829
 clear HB
 have HO819 := n0_
 have HO824 := n1_
 have HO827 := n2_
 have BK829 := n3_
 have HB := n4_
 clear n0_ n1_ n2_ n3_ n4_
 refine start_ (n := 8) (S := fun w' => w'.cell? ⟨gb829, 0, none⟩ = some (.slice Ao9 t817.length co9) ∧ w'.cell? ⟨gb829, 1, none⟩ = some (.int .i64 t820) ∧ w'.cell? ⟨gb829, 2, none⟩ = some (.int .i64 t821) ∧ w'.cell? ⟨gb829, 3, none⟩ = some (.slice Ao11 t822.length co11) ∧ w'.cell? ⟨gb829, 4, none⟩ = some (.slice Ao12 t825.length co12)) (ds := []) (jl 8 0) jk rfl rfl ⟨(xB BK829.out 0).trans rfl, (xB BK829.out 1).trans rfl, (xB BK829.out 2).trans rfl, (xB BK829.out 3).trans rfl, (xB BK829.out 4).trans rfl⟩ (fun hHeld => ?_); refine with_tabW line_Potential.tab4 line_Potential.bits4 (fun HT_ HW_ => ?_)
 generalize w13.drew = w14 at HO819 HO824 HO827 BK829 HB hHeld ⊢
 refine pure_ (i := 0) (N := some 14) (v := ?_) (a' := ?_) (jl 8 1) rfl rfl (xE HT_.out jk) (fun _ _ _ h => h) (Or.inl ⟨by rfl, ?_⟩) ?_ ?_
 rotate_left
 ·
  intro w'
  go_simp
  with_reducible rfl
 rotate_left
 ·
  simp only [Act.put, qy, qz, ja, i64_w, i32_w]
  rfl
 refine pure_ (i := 2) (N := some 16) (v := ?_) (a' := ?_) (jl 8 5) rfl rfl (xE HT_.out jk) (fun _ _ _ h => h) (Or.inl ⟨by rfl, ?_⟩) ?_ ?_
 rotate_left
 ·
  intro w'
  go_simp
  with_reducible rfl
 rotate_left
 ·
  simp only [Act.put, qy, qz, ja, i64_w, i32_w]
  rfl
 refine pure_ (i := 3) (N := some 17) (v := ?_) (a' := ?_) (jl 8 13) rfl rfl (xE HT_.out jk) (fun _ _ _ h => h) (Or.inl ⟨by rfl, ?_⟩) ?_ ?_
 rotate_left
 ·
  intro w'
  go_simp
  with_reducible rfl
 rotate_left
 ·
  simp only [Act.put, qy, qz, ja, i64_w, i32_w]
  rfl
 refine take_ (i := 1) (N := some 15) (v := ?_) (a' := ?_) (jl 8 15) rfl rfl (xY HT_.out HW_.out jk) (fun _ _ _ h => h) (Or.inl ⟨by rfl, ?_⟩) hHeld ?_ ?_
 rotate_left
 ·
  rintro w' ⟨s0, s1, s2, s3, s4⟩
  go_simp
  with_reducible rfl
 rotate_left
 ·
  simp only [Act.put, qy, qz, ja, i64_w, i32_w]
  rfl
 refine one_ (i := 4) (N := some 18) (jl 8 31) rfl rfl (one_of HT_.out jk) (by decide) (fun K hK => ?_)
 refine Kd.R_make_step (Kd.int .i64) _ 3 (by rfl) (N := 18) rfl 26 _ _ rfl (l0.length : Int) rfl rfl Try.underlying26 (.int .i64 0) 8 info3 rfl (by decide) jj 0 (ok := fun _ => True) (okp := fun _ => True) rfl (fun _ hk => hk) trivial (qr) (Nat.le_trans (Nat.mul_le_mul_right _ (qr : (l0.length : Int).toNat ≤ 35184372088832)) jj) (Below.refl _ _) (Nat.le_refl _) ?_
 intro v831 w15 ho16 hb hg_ hnew_
 clear hg_ hnew_
 (first | rw [← Ny830.out] at ho16 | (simp only [Int.reduceToNat] at ho16; rw [← Ny830.out] at ho16))
 have n0_ := xA.mk (Kd.V_elder' (qj HO819.out) (Kd.R_base ho16) hb)
 have n1_ := xA.mk (Kd.S_elder' (qh HO824.out) (Kd.R_base ho16) hb)
 have n2_ := xA.mk (Kd.S_elder' (qh HO827.out) (Kd.R_base ho16) hb)
 have n3_ := xA.mk (Kd.R_lower ho16 (xD (qo GE829.out)))
 have n4_ := xA.mk (xO (g := gb829) (o := .cells #[.slice Ao9 t817.length co9, .int .i64 t820, .int .i64 t821, .slice Ao11 t822.length co11, .slice Ao12 t825.length co12] 58 (0, 0)) (qn BK829.out) hb)
 have n5_ := xA.mk (xF (qo GE829.out) hb)
 clear HO819
 clear HO824
 clear HO827
 clear BK829
 clear HB
 have HO819 := n0_
 have HO824 := n1_
 have HO827 := n2_
 have HO832 := n3_
 have BK829 := n4_
 have HB := n5_
 clear n0_ n1_ n2_ n3_ n4_ n5_
 clear hb ho16
 obtain ⟨Ao17, co17, eo17⟩ := Kd.R_slice HO832.out
 (first | subst eo17 | (injection eo17 with f1_ f2_ f3_; have f4_ := f1_.symm; have f5_ := f3_.symm; clear f1_ f2_ f3_; subst f4_; subst f5_))
 refine hK.out _ _ ⟨(xB BK829.out 0).trans rfl, (xB BK829.out 1).trans rfl, (xB BK829.out 2).trans rfl, (xB BK829.out 3).trans rfl, (xB BK829.out 4).trans rfl⟩ (fun hHeld => ?_)
 clear hK K
 refine norm_ (a' := ?_) ?_ ?_
 rotate_left
 ·
  show Act.put _ (some 18) _ = _
  simp only [Act.put, qy, qz, ja, i64_w, i32_w]
  rfl
 refine one_ (i := 5) (N := some 19) (jl 8 63) rfl rfl (one_of HT_.out jk) (by decide) (fun K hK => ?_)
 refine goes_ Try.func70 jk rfl #[.slice Ao12 t825.length co12, .slice Ao17 y830.length co17] (by rfl) rfl rfl qd ?_
 with_reducible refine (lgon.calls k _ _ t825 _ _ y830 t833 _ ?side1 ?side2 ?side3 ?side4 A6.out).mono ?_
 (case side1 => repeat (first | exact (Kd.xJ HO827.out).2.2))
 (case side2 => exact (Kd.xJ HO827.out).2.1)
 (case side3 => repeat (first | exact (Kd.yE HO832.out).2.2))
 (case side4 => exact (Kd.yE HO832.out).2.1)
 rintro e w18 ⟨v834, rfl, ho0, hb⟩
 refine ⟨_, rfl, ?_⟩
 have n0_ := xA.mk (Kd.V_elder' (by exact HO819.out) (Kd.R_base ho0) hb)
 have n1_ := xA.mk (Kd.S_elder' (by exact HO824.out) (Kd.R_base ho0) hb)
 have n2_ := xA.mk (Kd.S_elder' (by exact HO827.out) (Kd.R_base ho0) hb)
 have n3_ := xA.mk (Kd.R_elder' (by exact HO832.out) (Kd.R_base ho0) hb)
 have n4_ := xA.mk (Kd.R_lower (Kd.R_new' ho0 (Kd.R_lt (by exact HO832.out))) (xD (HB.out)))
 have n5_ := xA.mk (xO (g := gb829) (o := .cells #[.slice Ao9 t817.length co9, .int .i64 t820, .int .i64 t821, .slice Ao11 t822.length co11, .slice Ao12 t825.length co12] 58 (0, 0)) (by exact BK829.out) hb)
 have n6_ := xA.mk (xF (HB.out) hb)
 clear HO819
 clear HO824
 clear HO827
 clear HO832
 clear BK829
 clear HB
 have HO819 := n0_
 have HO824 := n1_
 have HO827 := n2_
 have HO832 := n3_
 have HO835 := n4_
 have BK829 := n5_
 have HB := n6_
 clear n0_ n1_ n2_ n3_ n4_ n5_ n6_
 (try clear hb)
 (try clear hb2)
 (try clear hk)
 (try clear hi)
 (try clear ho0)
 refine hK.out _ _ ⟨(xB BK829.out 0).trans rfl, (xB BK829.out 1).trans rfl, (xB BK829.out 2).trans rfl, (xB BK829.out 3).trans rfl, (xB BK829.out 4).trans rfl⟩ (fun hHeld => ?_)
 clear hK K
 refine norm_ (a' := ?_) ?_ ?_
 rotate_left
 ·
  show Act.put _ (some 19) _ = _
  simp only [Act.put, qy, qz, ja, i64_w, i32_w]
  rfl
 refine pure_ (i := 6) (N := some 2) (v := ?_) (a' := ?_) (jl 8 127) rfl rfl (xE HT_.out jk) (fun _ _ _ h => h) (Or.inl ⟨by rfl, ?_⟩) ?_ ?_
 rotate_left
 ·
  intro w'
  go_simp
  with_reducible rfl
 rotate_left
 ·
  simp only [Act.put, qy, qz, ja, i64_w, i32_w]
  rfl
 refine pure_ (i := 7) (N := some 3) (v := ?_) (a' := ?_) (jl 8 255) rfl rfl (xE HT_.out jk) (fun _ _ _ h => h) (Or.inl ⟨by rfl, ?_⟩) ?_ ?_
 rotate_left
 ·
  intro w'
  go_simp
  with_reducible rfl
 rotate_left
 ·
  simp only [Act.put, qy, qz, ja, i64_w, i32_w]
  rfl
 refine done_ (done_of HT_.out jk) ?_
 try go_wp2
 go_ret2
 exact ⟨_, rfl, by exact Kd.xZ HO835.out (fun _ hk => trivial), HB.out⟩
end Go.Proofs.Ythjmfbmffchicaa.V
