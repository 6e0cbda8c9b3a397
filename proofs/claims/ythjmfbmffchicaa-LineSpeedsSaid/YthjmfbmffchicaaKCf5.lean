/- Walks of functions that the law LineSpeeds reaches: each theorem '.calls' says that the call comes to what its printed plain function says, under the conditions that stand in it. -/
import Derived.Test.YthjmfbmffchicaaKCHub
import Derived.Test.YthjmfbmffchicaaKCf0
import Derived.Test.YthjmfbmffchicaaKCf1
import Derived.Test.YthjmfbmffchicaaKCf2
import Derived.Test.YthjmfbmffchicaaKCf4
namespace Go.Proofs.Ythjmfbmffchicaa.V
open Go.RowKit Go.Proofs.YthjmfbmffchicaaW.PrintWords Go.Proofs.YthjmfbmffchicaaW.PrintLast Go.Proofs.YthjmfbmffchicaaW.PrintMore
attribute [local go_sem] max2_int min2_int max_two min_two max_three min_three max_four min_four
set_option maxHeartbeats 8000000
set_option maxRecDepth 100000
set_option linter.unusedVariables false
set_option linter.unusedSimpArgs false
def r5best.l0 : Nat → List (List Int) → List Int → List (List Int) → Int → Option (List Int)
 | 0, _, _, _, _ => none
 | k + 1, x0, x3, x4, x5 => if x5 < (x4.length : Int) then (if 0 ≤ x5 then (if (x3.length : Int) = 0 then (r5best.l0 k x0 (rd_L1 x4 x5) x4 (wrap64 (x5 + 1))) else ((r5weight.f k x0 (rd_L1 x4 x5)).bind fun t477 => ((r5weight.f k x0 x3).bind fun t478 => (if (wrap64 (t477 * (x3.length : Int))) > (wrap64 (t478 * ((rd_L1 x4 x5).length : Int))) then (r5best.l0 k x0 (rd_L1 x4 x5) x4 (wrap64 (x5 + 1))) else (if (wrap64 (t477 * (x3.length : Int))) = (wrap64 (t478 * ((rd_L1 x4 x5).length : Int))) then (if ((rd_L1 x4 x5).length : Int) < (x3.length : Int) then (r5best.l0 k x0 (rd_L1 x4 x5) x4 (wrap64 (x5 + 1))) else (if ((rd_L1 x4 x5).length : Int) = (x3.length : Int) then ((r5less.f k (rd_L1 x4 x5) x3).bind fun t479 => (if t479 = true then (r5best.l0 k x0 (rd_L1 x4 x5) x4 (wrap64 (x5 + 1))) else (r5best.l0 k x0 x3 x4 (wrap64 (x5 + 1))))) else (r5best.l0 k x0 x3 x4 (wrap64 (x5 + 1))))) else (r5best.l0 k x0 x3 x4 (wrap64 (x5 + 1)))))))) else (none)) else (some x3)
def r5best.f (k : Nat) (l0 : List (List Int)) : Option (List Int) := (r5Cycles.f k l0).bind fun t473 => (r5best.l0 k l0 ([] : List Int) t473 0)
theorem r5best.calls (k : Nat) (A0 : Option Addr) (c0 : Nat) (l0 : List (List Int)) (r : List Int) (w : World) (hr0 : Kd.C (Kd.slice 3 (Kd.int .i64)) w A0 l0.length l0) (hc0 : l0.length ≤ c0) (h : r5best.f k l0 = some r) :
  Calls Try.prog 72 #[.slice A0 l0.length c0] w fun e w' => ∃ v0_ : Value, e = .returned (v0_) ∧ Kd.V (Kd.int .i64) 3 w' w.heap.size (fun k_ => (w.heap.size ≤ k_)) v0_ r ∧ (r = [] → v0_ = .slice none 0 0) ∧ Below w.heap.size w w' := by
 have HR0 := xA.mk hr0
 have HC0 := xA.mk hc0
 clear hr0 hc0
 have HB := xA.mk (Below.refl w.heap.size w)
 have H : ((r5Cycles.f k l0).bind fun t473 => (r5best.l0 k l0 ([] : List Int) t473 0)) = some r := h
 clear h
 replace H := qw H
 obtain ⟨t473, A20, H⟩ := H
 replace H : (r5best.l0 k l0 ([] : List Int) t473 0) = some r := H
 have A2 := xA.mk A20
 clear A20
 have H' := xA.mk H
 clear H
 go_enter Try.func72, Try.ntmps72
 go_wp2_with (first | ((with_reducible refine xF (f := 86) rfl ?_); refine xM (some 10) rfl rfl Try.func86 jk rfl #[.slice A0 l0.length c0] rfl qd ?_; (with_reducible refine (r5Cycles.calls k _ _ l0 t473 _ ?side1 ?side2 A2.out).mono ?_); (case side1 => repeat (first | exact HR0.out)); (case side2 => exact HC0.out); rintro e w3 ⟨v474, rfl, ho0, hb⟩; refine ⟨_, rfl, ?_⟩; have HO475 := xA.mk (Kd.N_lower (Kd.N_mono (ok' := fun k_ => (w.heap.size ≤ k_)) ho0 (fun k_ hk_ => (Nat.le_trans (xC (HB.out)) hk_))) (xC (HB.out))); replace HB := xA.mk (xE (HB.out) hb)))
 go_loopg [3, 5] k (fun kq v3 v5 w' => ∃ (x3_1 : List Int) (x5_1 : Int), v5 = .int .i64 x5_1 ∧ xA (r5best.l0 kq l0 x3_1 t473 x5_1 = some r) ∧ xA (kq ≤ k) ∧ xA (Kd.V (Kd.int .i64) 3 w' w.heap.size (fun k_ => (w.heap.size ≤ k_) ∧ some k_ ≠ (v474 : Value).ownBlock) v3 x3_1) ∧ xA (Kd.N (Kd.slice 3 (Kd.int .i64)) 26 w' w.heap.size (fun k_ => (w.heap.size ≤ k_)) v474 t473) ∧ xA (Below w.heap.size w w') ∧ xA (x3_1 = [] → v3 = .slice none 0 0))
 case atStart => exact ⟨(([] : List Int)), (0), rfl, H', ⟨Nat.le_refl _⟩, ⟨Kd.V_nil _ _ _ _ _⟩, ⟨by exact HO475.out⟩, ⟨HB.out⟩, ⟨fun _ => rfl⟩⟩
 case round =>
  clear H'
  obtain ⟨x3_1, x5_1, rfl, HA, HK1, HO_3, HO_4, HB, HZ⟩ := hrel
  obtain _ | k1 := gk
  · exact absurd HA.out (by simp [r5best.l0])
  have H := HA.out
  clear HA
  simp only [r5best.l0] at H
  obtain ⟨c4b0, H⟩ | ⟨c4b0, H⟩ := itd_or H
  rotate_left
  ·
   obtain rfl := qx H
   obtain ⟨Ao29, co29, eo29⟩ := Kd.N_slice HO_4.out
   subst eo29
   go_wp2
   go_ret
   exact ⟨_, rfl, by exact Kd.V_mono HO_3.out (fun _ hk => hk.1), HZ.out, HB.out⟩
  obtain ⟨c5b0, H⟩ := xK H
  by_cases c6 : (x3_1.length : Int) = 0
  ·
   rw [if_pos c6] at H
   have c6b0 : ((x3_1.length : Int) == 0) = true := beq_iff_eq.mpr c6
   clear c6
   have H' := xA.mk H
   clear H
   obtain ⟨Ao7, co7, eo7⟩ := Kd.N_slice HO_4.out
   subst eo7
   have p476 : 0 ≤ (x5_1 : Int) := qq
   have q476 : x5_1 < (t473.length : Int) := qq
   obtain ⟨ad476, A476_0, c476_0, e476, hx476_0, hl476_0, hi476_0⟩ := at_L1 (Kd.yB HO_4.out).2.2 x5_1 p476 q476
   cases e476
   obtain ⟨ce476, hce476, hMe476, hcc476⟩ := Kd.N_get HO_4.out [] x5_1 p476 (by first | exact q476 | exact qq | (have e_ := (Kd.yB HO_4.out).1; omega))
   obtain ⟨ua476_0, uc476_0, rfl, ul476_0, ge476_0⟩ := Kd.yC hMe476
   have hv476_0 := hcc476 0 _ rfl
   rw [Nat.add_zero, show ((Kd.slice 3 (Kd.int .i64))).sz = 1 from rfl, Nat.mul_one] at hv476_0
   replace hv476_0 := qx (hv476_0.symm.trans hx476_0)
   injection hv476_0 with hva_ hvn_ hvc_
   rw [hva_] at ge476_0
   rw [hvc_] at ul476_0
   have HL476_0 := xA.mk (show Kd.V (Kd.int .i64) 3 _ w.heap.size _ _ (rd_L1 t473 x5_1) from Kd.V_mk ul476_0 ge476_0)
   clear hva_ hvn_ hvc_ ge476_0 ul476_0
   clear hcc476 hce476
   have HR476_0 := xA.mk hi476_0
   have HC476_0 := xA.mk hl476_0
   clear hi476_0 hl476_0
   replace p476 := eq_true p476
   have p476_ := p476
   replace q476 := eq_true q476
   have q476_ := q476
   obtain ⟨Ao8, co8, eo8⟩ := Kd.V_slice HO_3.out
   subst eo8
   have he_ := Kd.V_eql (P := Try.prog) (t := 26) (e' := 3) Try.underlying26 HO_3.out HZ.out c6b0
   go_wp2
   go_roundg k1
   case measure => have := HK1.out; omega
   case rel => exact ⟨(rd_L1 t473 x5_1), (wrap64 (x5_1 + 1)), rfl, H', ⟨by have := HK1.out; omega⟩, ⟨by exact HL476_0.out⟩, ⟨by exact HO_4.out⟩, ⟨HB.out⟩, ⟨fun h_ => absurd h_ (Cycles_row A2.out x5_1 p476_ q476_)⟩⟩
  rw [if_neg c6] at H
  have c6b0 : ((x3_1.length : Int) == 0) = false := jg c6
  have c6b2 : ¬ (x3_1 = []) := fun h_ => c6 (by rw [h_]; rfl)
  replace H := qw H
  obtain ⟨t477, A90, H⟩ := H
  replace H : ((r5weight.f k1 l0 x3_1).bind fun t478 => (if (wrap64 (t477 * (x3_1.length : Int))) > (wrap64 (t478 * ((rd_L1 t473 x5_1).length : Int))) then (r5best.l0 k1 l0 (rd_L1 t473 x5_1) t473 (wrap64 (x5_1 + 1))) else (if (wrap64 (t477 * (x3_1.length : Int))) = (wrap64 (t478 * ((rd_L1 t473 x5_1).length : Int))) then (if ((rd_L1 t473 x5_1).length : Int) < (x3_1.length : Int) then (r5best.l0 k1 l0 (rd_L1 t473 x5_1) t473 (wrap64 (x5_1 + 1))) else (if ((rd_L1 t473 x5_1).length : Int) = (x3_1.length : Int) then ((r5less.f k1 (rd_L1 t473 x5_1) x3_1).bind fun t479 => (if t479 = true then (r5best.l0 k1 l0 (rd_L1 t473 x5_1) t473 (wrap64 (x5_1 + 1))) else (r5best.l0 k1 l0 x3_1 t473 (wrap64 (x5_1 + 1))))) else (r5best.l0 k1 l0 x3_1 t473 (wrap64 (x5_1 + 1))))) else (r5best.l0 k1 l0 x3_1 t473 (wrap64 (x5_1 + 1)))))) = some r := H
  have A9 := xA.mk A90
  clear A90
  replace H := qw H
  obtain ⟨t478, A100, H⟩ := H
  replace H : (if (wrap64 (t477 * (x3_1.length : Int))) > (wrap64 (t478 * ((rd_L1 t473 x5_1).length : Int))) then (r5best.l0 k1 l0 (rd_L1 t473 x5_1) t473 (wrap64 (x5_1 + 1))) else (if (wrap64 (t477 * (x3_1.length : Int))) = (wrap64 (t478 * ((rd_L1 t473 x5_1).length : Int))) then (if ((rd_L1 t473 x5_1).length : Int) < (x3_1.length : Int) then (r5best.l0 k1 l0 (rd_L1 t473 x5_1) t473 (wrap64 (x5_1 + 1))) else (if ((rd_L1 t473 x5_1).length : Int) = (x3_1.length : Int) then ((r5less.f k1 (rd_L1 t473 x5_1) x3_1).bind fun t479 => (if t479 = true then (r5best.l0 k1 l0 (rd_L1 t473 x5_1) t473 (wrap64 (x5_1 + 1))) else (r5best.l0 k1 l0 x3_1 t473 (wrap64 (x5_1 + 1))))) else (r5best.l0 k1 l0 x3_1 t473 (wrap64 (x5_1 + 1))))) else (r5best.l0 k1 l0 x3_1 t473 (wrap64 (x5_1 + 1))))) = some r := H
  have A10 := xA.mk A100
  clear A100
  by_cases c11 : (wrap64 (t477 * (x3_1.length : Int))) > (wrap64 (t478 * ((rd_L1 t473 x5_1).length : Int)))
  ·
   rw [if_pos c11] at H
   have c11b0 : decide ((wrap64 (t478 * ((rd_L1 t473 x5_1).length : Int))) < (wrap64 (t477 * (x3_1.length : Int)))) = true := qu c11
   clear c11
   have H' := xA.mk H
   clear H
   obtain ⟨Ao12, co12, eo12⟩ := Kd.N_slice HO_4.out
   subst eo12
   have p476 : 0 ≤ (x5_1 : Int) := qq
   have q476 : x5_1 < (t473.length : Int) := qr
   obtain ⟨ad476, A476_0, c476_0, e476, hx476_0, hl476_0, hi476_0⟩ := at_L1 (Kd.yB HO_4.out).2.2 x5_1 p476 q476
   cases e476
   obtain ⟨ce476, hce476, hMe476, hcc476⟩ := Kd.N_get HO_4.out [] x5_1 p476 (by first | exact q476 | exact qr | (have e_ := (Kd.yB HO_4.out).1; omega))
   obtain ⟨ua476_0, uc476_0, rfl, ul476_0, ge476_0⟩ := Kd.yC hMe476
   have hv476_0 := hcc476 0 _ rfl
   rw [Nat.add_zero, show ((Kd.slice 3 (Kd.int .i64))).sz = 1 from rfl, Nat.mul_one] at hv476_0
   replace hv476_0 := qx (hv476_0.symm.trans hx476_0)
   injection hv476_0 with hva_ hvn_ hvc_
   rw [hva_] at ge476_0
   rw [hvc_] at ul476_0
   have HL476_0 := xA.mk (show Kd.V (Kd.int .i64) 3 _ w.heap.size _ _ (rd_L1 t473 x5_1) from Kd.V_mk ul476_0 ge476_0)
   clear hva_ hvn_ hvc_ ge476_0 ul476_0
   clear hcc476 hce476
   have HR476_0 := xA.mk hi476_0
   have HC476_0 := xA.mk hl476_0
   clear hi476_0 hl476_0
   replace p476 := eq_true p476
   have p476_ := p476
   replace q476 := eq_true q476
   have q476_ := q476
   obtain ⟨Ao13, co13, eo13⟩ := Kd.V_slice HO_3.out
   subst eo13
   have he_ := Kd.V_eql (P := Try.prog) (t := 26) (e' := 3) Try.underlying26 HO_3.out HZ.out c6b0
   go_wp2_with (first | ((with_reducible refine xF (f := 73) rfl ?_); refine xM (some 26) rfl rfl Try.func73 jk rfl #[.slice A0 l0.length c0, .slice A476_0 (rd_L1 t473 x5_1).length c476_0] rfl qc ?_; (with_reducible refine (r5weight.calls k1 _ _ l0 _ _ (rd_L1 t473 x5_1) t477 _ ?side1 ?side2 ?side3 ?side4 A9.out).mono ?_); (case side1 => exact qm (Kd.xR HR0.out HB.out)); (case side2 => exact HC0.out); (case side3 => repeat (first | exact (by repeat (first | (with_reducible exact HR476_0.out) | (with_reducible refine Kd.C_alloc ?_ _) | (with_reducible refine Kd.C_drewN ?_ _) | (with_reducible refine Kd.C_drew ?_) | exact HR476_0.out)) | (with_reducible refine Kd.C_alloc ?_ _) | (with_reducible refine Kd.C_drewN ?_ _) | (with_reducible refine Kd.C_drew ?_))); (case side4 => exact HC476_0.out); rintro e w' ⟨rfl, ⟨nd, rfl⟩⟩; refine ⟨_, rfl, ?_⟩) | ((with_reducible refine xF (f := 73) rfl ?_); refine xM (some 32) rfl rfl Try.func73 jk rfl #[.slice A0 l0.length c0, .slice Ao13 x3_1.length co13] rfl qc ?_; (with_reducible refine (r5weight.calls k1 _ _ l0 _ _ x3_1 t478 _ ?side1 ?side2 ?side3 ?side4 A10.out).mono ?_); (case side1 => repeat (first | exact (Kd.xR HR0.out qa) | (with_reducible refine Kd.C_alloc ?_ _) | (with_reducible refine Kd.C_drewN ?_ _) | (with_reducible refine Kd.C_drew ?_))); (case side2 => exact HC0.out); (case side3 => exact qm (Kd.xV HO_3.out).2.2); (case side4 => exact (Kd.xV HO_3.out).2.1); rintro e w' ⟨rfl, ⟨nd, rfl⟩⟩; refine ⟨_, rfl, ?_⟩))
   go_roundg k1
   case measure => have := HK1.out; omega
   case rel => exact ⟨(rd_L1 t473 x5_1), (wrap64 (x5_1 + 1)), qf, H', ⟨by have := HK1.out; omega⟩, ⟨qj HL476_0.out⟩, ⟨qk HO_4.out⟩, ⟨qa⟩, ⟨fun h_ => absurd h_ (Cycles_row A2.out x5_1 p476_ q476_)⟩⟩
  rw [if_neg c11] at H
  have c11b0 : decide ((wrap64 (t478 * ((rd_L1 t473 x5_1).length : Int))) < (wrap64 (t477 * (x3_1.length : Int)))) = false := qv c11
  clear c11
  obtain ⟨⟨c14b0, c14b1⟩, H⟩ | ⟨c14, ⟨c14b0, c14b1⟩, H⟩ := itn_or H
  rotate_left
  ·
   have H' := xA.mk H
   clear H
   obtain ⟨Ao27, co27, eo27⟩ := Kd.N_slice HO_4.out
   subst eo27
   have p476 : 0 ≤ (x5_1 : Int) := qr
   have q476 : x5_1 < (t473.length : Int) := qr
   obtain ⟨ad476, A476_0, c476_0, e476, hx476_0, hl476_0, hi476_0⟩ := at_L1 (Kd.yB HO_4.out).2.2 x5_1 p476 q476
   cases e476
   obtain ⟨ce476, hce476, hMe476, hcc476⟩ := Kd.N_get HO_4.out [] x5_1 p476 (by first | exact q476 | exact qr | (have e_ := (Kd.yB HO_4.out).1; omega))
   obtain ⟨ua476_0, uc476_0, rfl, ul476_0, ge476_0⟩ := Kd.yC hMe476
   have hv476_0 := hcc476 0 _ rfl
   rw [Nat.add_zero, show ((Kd.slice 3 (Kd.int .i64))).sz = 1 from rfl, Nat.mul_one] at hv476_0
   replace hv476_0 := qx (hv476_0.symm.trans hx476_0)
   injection hv476_0 with hva_ hvn_ hvc_
   rw [hva_] at ge476_0
   rw [hvc_] at ul476_0
   have HL476_0 := xA.mk (show Kd.V (Kd.int .i64) 3 _ w.heap.size _ _ (rd_L1 t473 x5_1) from Kd.V_mk ul476_0 ge476_0)
   clear hva_ hvn_ hvc_ ge476_0 ul476_0
   clear hcc476 hce476
   have HR476_0 := xA.mk hi476_0
   have HC476_0 := xA.mk hl476_0
   clear hi476_0 hl476_0
   replace p476 := eq_true p476
   have p476_ := p476
   replace q476 := eq_true q476
   have q476_ := q476
   obtain ⟨Ao28, co28, eo28⟩ := Kd.V_slice HO_3.out
   subst eo28
   have he_ := Kd.V_eql (P := Try.prog) (t := 26) (e' := 3) Try.underlying26 HO_3.out HZ.out c6b0
   go_wp2_with (first | ((with_reducible refine xF (f := 73) rfl ?_); refine xM (some 26) rfl rfl Try.func73 jk rfl #[.slice A0 l0.length c0, .slice A476_0 (rd_L1 t473 x5_1).length c476_0] rfl qc ?_; (with_reducible refine (r5weight.calls k1 _ _ l0 _ _ (rd_L1 t473 x5_1) t477 _ ?side1 ?side2 ?side3 ?side4 A9.out).mono ?_); (case side1 => exact qm (Kd.xR HR0.out HB.out)); (case side2 => exact HC0.out); (case side3 => repeat (first | exact (by repeat (first | (with_reducible exact HR476_0.out) | (with_reducible refine Kd.C_alloc ?_ _) | (with_reducible refine Kd.C_drewN ?_ _) | (with_reducible refine Kd.C_drew ?_) | exact HR476_0.out)) | (with_reducible refine Kd.C_alloc ?_ _) | (with_reducible refine Kd.C_drewN ?_ _) | (with_reducible refine Kd.C_drew ?_))); (case side4 => exact HC476_0.out); rintro e w' ⟨rfl, ⟨nd, rfl⟩⟩; refine ⟨_, rfl, ?_⟩) | ((with_reducible refine xF (f := 73) rfl ?_); refine xM (some 32) rfl rfl Try.func73 jk rfl #[.slice A0 l0.length c0, .slice Ao28 x3_1.length co28] rfl qc ?_; (with_reducible refine (r5weight.calls k1 _ _ l0 _ _ x3_1 t478 _ ?side1 ?side2 ?side3 ?side4 A10.out).mono ?_); (case side1 => repeat (first | exact (Kd.xR HR0.out qa) | (with_reducible refine Kd.C_alloc ?_ _) | (with_reducible refine Kd.C_drewN ?_ _) | (with_reducible refine Kd.C_drew ?_))); (case side2 => exact HC0.out); (case side3 => exact qm (Kd.xV HO_3.out).2.2); (case side4 => exact (Kd.xV HO_3.out).2.1); rintro e w' ⟨rfl, ⟨nd, rfl⟩⟩; refine ⟨_, rfl, ?_⟩))
   go_roundg k1
   case measure => have := HK1.out; omega
   case rel => exact ⟨(x3_1), (wrap64 (x5_1 + 1)), qf, H', ⟨by have := HK1.out; omega⟩, ⟨qj HO_3.out⟩, ⟨qk HO_4.out⟩, ⟨qa⟩, ⟨HZ.out⟩⟩
  by_cases c15 : ((rd_L1 t473 x5_1).length : Int) < (x3_1.length : Int)
  ·
   rw [if_pos c15] at H
   have c15b0 : decide (((rd_L1 t473 x5_1).length : Int) < (x3_1.length : Int)) = true := qu c15
   have c15b1 : decide ((rd_L1 t473 x5_1).length < x3_1.length) = true := qu (Int.ofNat_lt.mp c15)
   clear c15
   have H' := xA.mk H
   clear H
   obtain ⟨Ao16, co16, eo16⟩ := Kd.N_slice HO_4.out
   subst eo16
   have p476 : 0 ≤ (x5_1 : Int) := qr
   have q476 : x5_1 < (t473.length : Int) := qr
   obtain ⟨ad476, A476_0, c476_0, e476, hx476_0, hl476_0, hi476_0⟩ := at_L1 (Kd.yB HO_4.out).2.2 x5_1 p476 q476
   cases e476
   obtain ⟨ce476, hce476, hMe476, hcc476⟩ := Kd.N_get HO_4.out [] x5_1 p476 (by first | exact q476 | exact qr | (have e_ := (Kd.yB HO_4.out).1; omega))
   obtain ⟨ua476_0, uc476_0, rfl, ul476_0, ge476_0⟩ := Kd.yC hMe476
   have hv476_0 := hcc476 0 _ rfl
   rw [Nat.add_zero, show ((Kd.slice 3 (Kd.int .i64))).sz = 1 from rfl, Nat.mul_one] at hv476_0
   replace hv476_0 := qx (hv476_0.symm.trans hx476_0)
   injection hv476_0 with hva_ hvn_ hvc_
   rw [hva_] at ge476_0
   rw [hvc_] at ul476_0
   have HL476_0 := xA.mk (show Kd.V (Kd.int .i64) 3 _ w.heap.size _ _ (rd_L1 t473 x5_1) from Kd.V_mk ul476_0 ge476_0)
   clear hva_ hvn_ hvc_ ge476_0 ul476_0
   clear hcc476 hce476
   have HR476_0 := xA.mk hi476_0
   have HC476_0 := xA.mk hl476_0
   clear hi476_0 hl476_0
   replace p476 := eq_true p476
   have p476_ := p476
   replace q476 := eq_true q476
   have q476_ := q476
   obtain ⟨Ao17, co17, eo17⟩ := Kd.V_slice HO_3.out
   subst eo17
   have he_ := Kd.V_eql (P := Try.prog) (t := 26) (e' := 3) Try.underlying26 HO_3.out HZ.out c6b0
   go_wp2_with (first | ((with_reducible refine xF (f := 73) rfl ?_); refine xM (some 26) rfl rfl Try.func73 jk rfl #[.slice A0 l0.length c0, .slice A476_0 (rd_L1 t473 x5_1).length c476_0] rfl qc ?_; (with_reducible refine (r5weight.calls k1 _ _ l0 _ _ (rd_L1 t473 x5_1) t477 _ ?side1 ?side2 ?side3 ?side4 A9.out).mono ?_); (case side1 => exact qm (Kd.xR HR0.out HB.out)); (case side2 => exact HC0.out); (case side3 => repeat (first | exact (by repeat (first | (with_reducible exact HR476_0.out) | (with_reducible refine Kd.C_alloc ?_ _) | (with_reducible refine Kd.C_drewN ?_ _) | (with_reducible refine Kd.C_drew ?_) | exact HR476_0.out)) | (with_reducible refine Kd.C_alloc ?_ _) | (with_reducible refine Kd.C_drewN ?_ _) | (with_reducible refine Kd.C_drew ?_))); (case side4 => exact HC476_0.out); rintro e w' ⟨rfl, ⟨nd, rfl⟩⟩; refine ⟨_, rfl, ?_⟩) | ((with_reducible refine xF (f := 73) rfl ?_); refine xM (some 32) rfl rfl Try.func73 jk rfl #[.slice A0 l0.length c0, .slice Ao17 x3_1.length co17] rfl qc ?_; (with_reducible refine (r5weight.calls k1 _ _ l0 _ _ x3_1 t478 _ ?side1 ?side2 ?side3 ?side4 A10.out).mono ?_); (case side1 => repeat (first | exact (Kd.xR HR0.out qa) | (with_reducible refine Kd.C_alloc ?_ _) | (with_reducible refine Kd.C_drewN ?_ _) | (with_reducible refine Kd.C_drew ?_))); (case side2 => exact HC0.out); (case side3 => exact qm (Kd.xV HO_3.out).2.2); (case side4 => exact (Kd.xV HO_3.out).2.1); rintro e w' ⟨rfl, ⟨nd, rfl⟩⟩; refine ⟨_, rfl, ?_⟩))
   go_roundg k1
   case measure => have := HK1.out; omega
   case rel => exact ⟨(rd_L1 t473 x5_1), (wrap64 (x5_1 + 1)), qf, H', ⟨by have := HK1.out; omega⟩, ⟨qj HL476_0.out⟩, ⟨qk HO_4.out⟩, ⟨qa⟩, ⟨fun h_ => absurd h_ (Cycles_row A2.out x5_1 p476_ q476_)⟩⟩
  rw [if_neg c15] at H
  have c15b0 : decide (((rd_L1 t473 x5_1).length : Int) < (x3_1.length : Int)) = false := qv c15
  have c15b1 : decide ((rd_L1 t473 x5_1).length < x3_1.length) = false := qv (fun h => c15 (Int.ofNat_lt.mpr h))
  clear c15
  by_cases c18 : ((rd_L1 t473 x5_1).length : Int) = (x3_1.length : Int)
  rotate_left
  ·
   rw [if_neg c18] at H
   have c18b0 : (((rd_L1 t473 x5_1).length : Int) == (x3_1.length : Int)) = false := jg c18
   have c18b1 : (((rd_L1 t473 x5_1).length : Int) != (x3_1.length : Int)) = true := bne_iff_ne.mpr c18
   have c18b2 : ((rd_L1 t473 x5_1).length == x3_1.length) = false := by first | simpa using c18 | (simp at c18 ⊢; omega)
   have H' := xA.mk H
   clear H
   obtain ⟨Ao25, co25, eo25⟩ := Kd.N_slice HO_4.out
   subst eo25
   have p476 : 0 ≤ (x5_1 : Int) := qq
   have q476 : x5_1 < (t473.length : Int) := qr
   obtain ⟨ad476, A476_0, c476_0, e476, hx476_0, hl476_0, hi476_0⟩ := at_L1 (Kd.yB HO_4.out).2.2 x5_1 p476 q476
   cases e476
   obtain ⟨ce476, hce476, hMe476, hcc476⟩ := Kd.N_get HO_4.out [] x5_1 p476 (by first | exact q476 | exact qr | (have e_ := (Kd.yB HO_4.out).1; omega))
   obtain ⟨ua476_0, uc476_0, rfl, ul476_0, ge476_0⟩ := Kd.yC hMe476
   have hv476_0 := hcc476 0 _ rfl
   rw [Nat.add_zero, show ((Kd.slice 3 (Kd.int .i64))).sz = 1 from rfl, Nat.mul_one] at hv476_0
   replace hv476_0 := qx (hv476_0.symm.trans hx476_0)
   injection hv476_0 with hva_ hvn_ hvc_
   rw [hva_] at ge476_0
   rw [hvc_] at ul476_0
   have HL476_0 := xA.mk (show Kd.V (Kd.int .i64) 3 _ w.heap.size _ _ (rd_L1 t473 x5_1) from Kd.V_mk ul476_0 ge476_0)
   clear hva_ hvn_ hvc_ ge476_0 ul476_0
   clear hcc476 hce476
   have HR476_0 := xA.mk hi476_0
   have HC476_0 := xA.mk hl476_0
   clear hi476_0 hl476_0
   replace p476 := eq_true p476
   have p476_ := p476
   replace q476 := eq_true q476
   have q476_ := q476
   obtain ⟨Ao26, co26, eo26⟩ := Kd.V_slice HO_3.out
   subst eo26
   have he_ := Kd.V_eql (P := Try.prog) (t := 26) (e' := 3) Try.underlying26 HO_3.out HZ.out c6b0
   go_wp2_with (first | ((with_reducible refine xF (f := 73) rfl ?_); refine xM (some 26) rfl rfl Try.func73 jk rfl #[.slice A0 l0.length c0, .slice A476_0 (rd_L1 t473 x5_1).length c476_0] rfl qc ?_; (with_reducible refine (r5weight.calls k1 _ _ l0 _ _ (rd_L1 t473 x5_1) t477 _ ?side1 ?side2 ?side3 ?side4 A9.out).mono ?_); (case side1 => exact qm (Kd.xR HR0.out HB.out)); (case side2 => exact HC0.out); (case side3 => repeat (first | exact (by repeat (first | (with_reducible exact HR476_0.out) | (with_reducible refine Kd.C_alloc ?_ _) | (with_reducible refine Kd.C_drewN ?_ _) | (with_reducible refine Kd.C_drew ?_) | exact HR476_0.out)) | (with_reducible refine Kd.C_alloc ?_ _) | (with_reducible refine Kd.C_drewN ?_ _) | (with_reducible refine Kd.C_drew ?_))); (case side4 => exact HC476_0.out); rintro e w' ⟨rfl, ⟨nd, rfl⟩⟩; refine ⟨_, rfl, ?_⟩) | ((with_reducible refine xF (f := 73) rfl ?_); refine xM (some 32) rfl rfl Try.func73 jk rfl #[.slice A0 l0.length c0, .slice Ao26 x3_1.length co26] rfl qc ?_; (with_reducible refine (r5weight.calls k1 _ _ l0 _ _ x3_1 t478 _ ?side1 ?side2 ?side3 ?side4 A10.out).mono ?_); (case side1 => repeat (first | exact (Kd.xR HR0.out qa) | (with_reducible refine Kd.C_alloc ?_ _) | (with_reducible refine Kd.C_drewN ?_ _) | (with_reducible refine Kd.C_drew ?_))); (case side2 => exact HC0.out); (case side3 => exact qm (Kd.xV HO_3.out).2.2); (case side4 => exact (Kd.xV HO_3.out).2.1); rintro e w' ⟨rfl, ⟨nd, rfl⟩⟩; refine ⟨_, rfl, ?_⟩))
   go_roundg k1
   case measure => have := HK1.out; omega
   case rel => exact ⟨(x3_1), (wrap64 (x5_1 + 1)), qf, H', ⟨by have := HK1.out; omega⟩, ⟨qj HO_3.out⟩, ⟨qk HO_4.out⟩, ⟨qa⟩, ⟨HZ.out⟩⟩
  rw [if_pos c18] at H
  have c18b0 : (((rd_L1 t473 x5_1).length : Int) == (x3_1.length : Int)) = true := beq_iff_eq.mpr c18
  have c18b2 : ((rd_L1 t473 x5_1).length == x3_1.length) = true := by first | simpa using c18 | (simp at c18 ⊢; omega)
  clear c18
  replace H := qw H
  obtain ⟨t479, A190, H⟩ := H
  replace H : (if t479 = true then (r5best.l0 k1 l0 (rd_L1 t473 x5_1) t473 (wrap64 (x5_1 + 1))) else (r5best.l0 k1 l0 x3_1 t473 (wrap64 (x5_1 + 1)))) = some r := H
  have A19 := xA.mk A190
  clear A190
  by_cases c20 : t479 = true
  ·
   subst c20
   have H1 : (r5best.l0 k1 l0 (rd_L1 t473 x5_1) t473 (wrap64 (x5_1 + 1))) = some r := by rw [if_pos rfl] at H; exact H
   clear H
   have H := H1
   clear H1
   have H' := xA.mk H
   clear H
   obtain ⟨Ao21, co21, eo21⟩ := Kd.N_slice HO_4.out
   subst eo21
   have p476 : 0 ≤ (x5_1 : Int) := qq
   have q476 : x5_1 < (t473.length : Int) := qr
   obtain ⟨ad476, A476_0, c476_0, e476, hx476_0, hl476_0, hi476_0⟩ := at_L1 (Kd.yB HO_4.out).2.2 x5_1 p476 q476
   cases e476
   obtain ⟨ce476, hce476, hMe476, hcc476⟩ := Kd.N_get HO_4.out [] x5_1 p476 (by first | exact q476 | exact qr | (have e_ := (Kd.yB HO_4.out).1; omega))
   obtain ⟨ua476_0, uc476_0, rfl, ul476_0, ge476_0⟩ := Kd.yC hMe476
   have hv476_0 := hcc476 0 _ rfl
   rw [Nat.add_zero, show ((Kd.slice 3 (Kd.int .i64))).sz = 1 from rfl, Nat.mul_one] at hv476_0
   replace hv476_0 := qx (hv476_0.symm.trans hx476_0)
   injection hv476_0 with hva_ hvn_ hvc_
   rw [hva_] at ge476_0
   rw [hvc_] at ul476_0
   have HL476_0 := xA.mk (show Kd.V (Kd.int .i64) 3 _ w.heap.size _ _ (rd_L1 t473 x5_1) from Kd.V_mk ul476_0 ge476_0)
   clear hva_ hvn_ hvc_ ge476_0 ul476_0
   clear hcc476 hce476
   have HR476_0 := xA.mk hi476_0
   have HC476_0 := xA.mk hl476_0
   clear hi476_0 hl476_0
   replace p476 := eq_true p476
   have p476_ := p476
   replace q476 := eq_true q476
   have q476_ := q476
   obtain ⟨Ao22, co22, eo22⟩ := Kd.V_slice HO_3.out
   subst eo22
   have he_ := Kd.V_eql (P := Try.prog) (t := 26) (e' := 3) Try.underlying26 HO_3.out HZ.out c6b0
   go_wp2_with (first | ((with_reducible refine xF (f := 73) rfl ?_); refine xM (some 26) rfl rfl Try.func73 jk rfl #[.slice A0 l0.length c0, .slice A476_0 (rd_L1 t473 x5_1).length c476_0] rfl qc ?_; (with_reducible refine (r5weight.calls k1 _ _ l0 _ _ (rd_L1 t473 x5_1) t477 _ ?side1 ?side2 ?side3 ?side4 A9.out).mono ?_); (case side1 => exact qm (Kd.xR HR0.out HB.out)); (case side2 => exact HC0.out); (case side3 => repeat (first | exact (by repeat (first | (with_reducible exact HR476_0.out) | (with_reducible refine Kd.C_alloc ?_ _) | (with_reducible refine Kd.C_drewN ?_ _) | (with_reducible refine Kd.C_drew ?_) | exact HR476_0.out)) | (with_reducible refine Kd.C_alloc ?_ _) | (with_reducible refine Kd.C_drewN ?_ _) | (with_reducible refine Kd.C_drew ?_))); (case side4 => exact HC476_0.out); rintro e w' ⟨rfl, ⟨nd, rfl⟩⟩; refine ⟨_, rfl, ?_⟩) | ((with_reducible refine xF (f := 73) rfl ?_); refine xM (some 32) rfl rfl Try.func73 jk rfl #[.slice A0 l0.length c0, .slice Ao22 x3_1.length co22] rfl qc ?_; (with_reducible refine (r5weight.calls k1 _ _ l0 _ _ x3_1 t478 _ ?side1 ?side2 ?side3 ?side4 A10.out).mono ?_); (case side1 => repeat (first | exact (Kd.xR HR0.out qa) | (with_reducible refine Kd.C_alloc ?_ _) | (with_reducible refine Kd.C_drewN ?_ _) | (with_reducible refine Kd.C_drew ?_))); (case side2 => exact HC0.out); (case side3 => exact qm (Kd.xV HO_3.out).2.2); (case side4 => exact (Kd.xV HO_3.out).2.1); rintro e w' ⟨rfl, ⟨nd, rfl⟩⟩; refine ⟨_, rfl, ?_⟩) | (go_at_call 94; (with_reducible refine (r5less.calls k1 _ _ (rd_L1 t473 x5_1) _ _ x3_1 true _ ?side1 ?side2 ?side3 ?side4 A19.out).mono ?_); (case side1 => repeat (first | exact (by repeat (first | (with_reducible exact HR476_0.out) | (with_reducible refine Kd.C_alloc ?_ _) | (with_reducible refine Kd.C_drewN ?_ _) | (with_reducible refine Kd.C_drew ?_) | exact HR476_0.out)) | (with_reducible refine Kd.C_alloc ?_ _) | (with_reducible refine Kd.C_drewN ?_ _) | (with_reducible refine Kd.C_drew ?_))); (case side2 => exact HC476_0.out); (case side3 => exact qm (Kd.xV HO_3.out).2.2); (case side4 => exact (Kd.xV HO_3.out).2.1); rintro e w' ⟨rfl, ⟨nd, rfl⟩⟩))
   go_roundg k1
   case measure => have := HK1.out; omega
   case rel => exact ⟨(rd_L1 t473 x5_1), (wrap64 (x5_1 + 1)), qf, H', ⟨by have := HK1.out; omega⟩, ⟨qj HL476_0.out⟩, ⟨qk HO_4.out⟩, ⟨qa⟩, ⟨fun h_ => absurd h_ (Cycles_row A2.out x5_1 p476_ q476_)⟩⟩
  replace c20 := Bool.eq_false_iff.mpr c20
  subst c20
  have H1 : (r5best.l0 k1 l0 x3_1 t473 (wrap64 (x5_1 + 1))) = some r := by rw [if_neg (show ¬ (false = true) by decide)] at H; exact H
  clear H
  have H := H1
  clear H1
  have H' := xA.mk H
  clear H
  obtain ⟨Ao23, co23, eo23⟩ := Kd.N_slice HO_4.out
  subst eo23
  have p476 : 0 ≤ (x5_1 : Int) := qq
  have q476 : x5_1 < (t473.length : Int) := qr
  obtain ⟨ad476, A476_0, c476_0, e476, hx476_0, hl476_0, hi476_0⟩ := at_L1 (Kd.yB HO_4.out).2.2 x5_1 p476 q476
  cases e476
  obtain ⟨ce476, hce476, hMe476, hcc476⟩ := Kd.N_get HO_4.out [] x5_1 p476 (by first | exact q476 | exact qr | (have e_ := (Kd.yB HO_4.out).1; omega))
  obtain ⟨ua476_0, uc476_0, rfl, ul476_0, ge476_0⟩ := Kd.yC hMe476
  have hv476_0 := hcc476 0 _ rfl
  rw [Nat.add_zero, show ((Kd.slice 3 (Kd.int .i64))).sz = 1 from rfl, Nat.mul_one] at hv476_0
  replace hv476_0 := qx (hv476_0.symm.trans hx476_0)
  injection hv476_0 with hva_ hvn_ hvc_
  rw [hva_] at ge476_0
  rw [hvc_] at ul476_0
  have HL476_0 := xA.mk (show Kd.V (Kd.int .i64) 3 _ w.heap.size _ _ (rd_L1 t473 x5_1) from Kd.V_mk ul476_0 ge476_0)
  clear hva_ hvn_ hvc_ ge476_0 ul476_0
  clear hcc476 hce476
  have HR476_0 := xA.mk hi476_0
  have HC476_0 := xA.mk hl476_0
  clear hi476_0 hl476_0
  replace p476 := eq_true p476
  have p476_ := p476
  replace q476 := eq_true q476
  have q476_ := q476
  obtain ⟨Ao24, co24, eo24⟩ := Kd.V_slice HO_3.out
  subst eo24
  have he_ := Kd.V_eql (P := Try.prog) (t := 26) (e' := 3) Try.underlying26 HO_3.out HZ.out c6b0
  go_wp2_with (first | ((with_reducible refine xF (f := 73) rfl ?_); refine xM (some 26) rfl rfl Try.func73 jk rfl #[.slice A0 l0.length c0, .slice A476_0 (rd_L1 t473 x5_1).length c476_0] rfl qc ?_; (with_reducible refine (r5weight.calls k1 _ _ l0 _ _ (rd_L1 t473 x5_1) t477 _ ?side1 ?side2 ?side3 ?side4 A9.out).mono ?_); (case side1 => exact qm (Kd.xR HR0.out HB.out)); (case side2 => exact HC0.out); (case side3 => repeat (first | exact (by repeat (first | (with_reducible exact HR476_0.out) | (with_reducible refine Kd.C_alloc ?_ _) | (with_reducible refine Kd.C_drewN ?_ _) | (with_reducible refine Kd.C_drew ?_) | exact HR476_0.out)) | (with_reducible refine Kd.C_alloc ?_ _) | (with_reducible refine Kd.C_drewN ?_ _) | (with_reducible refine Kd.C_drew ?_))); (case side4 => exact HC476_0.out); rintro e w' ⟨rfl, ⟨nd, rfl⟩⟩; refine ⟨_, rfl, ?_⟩) | ((with_reducible refine xF (f := 73) rfl ?_); refine xM (some 32) rfl rfl Try.func73 jk rfl #[.slice A0 l0.length c0, .slice Ao24 x3_1.length co24] rfl qc ?_; (with_reducible refine (r5weight.calls k1 _ _ l0 _ _ x3_1 t478 _ ?side1 ?side2 ?side3 ?side4 A10.out).mono ?_); (case side1 => repeat (first | exact (Kd.xR HR0.out qa) | (with_reducible refine Kd.C_alloc ?_ _) | (with_reducible refine Kd.C_drewN ?_ _) | (with_reducible refine Kd.C_drew ?_))); (case side2 => exact HC0.out); (case side3 => exact qm (Kd.xV HO_3.out).2.2); (case side4 => exact (Kd.xV HO_3.out).2.1); rintro e w' ⟨rfl, ⟨nd, rfl⟩⟩; refine ⟨_, rfl, ?_⟩) | (go_at_call 94; (with_reducible refine (r5less.calls k1 _ _ (rd_L1 t473 x5_1) _ _ x3_1 false _ ?side1 ?side2 ?side3 ?side4 A19.out).mono ?_); (case side1 => repeat (first | exact (by repeat (first | (with_reducible exact HR476_0.out) | (with_reducible refine Kd.C_alloc ?_ _) | (with_reducible refine Kd.C_drewN ?_ _) | (with_reducible refine Kd.C_drew ?_) | exact HR476_0.out)) | (with_reducible refine Kd.C_alloc ?_ _) | (with_reducible refine Kd.C_drewN ?_ _) | (with_reducible refine Kd.C_drew ?_))); (case side2 => exact HC476_0.out); (case side3 => exact qm (Kd.xV HO_3.out).2.2); (case side4 => exact (Kd.xV HO_3.out).2.1); rintro e w' ⟨rfl, ⟨nd, rfl⟩⟩))
  go_roundg k1
  case measure => have := HK1.out; omega
  case rel => exact ⟨(x3_1), (wrap64 (x5_1 + 1)), qf, H', ⟨by have := HK1.out; omega⟩, ⟨qj HO_3.out⟩, ⟨qk HO_4.out⟩, ⟨qa⟩, ⟨HZ.out⟩⟩
def r5gcd.l0 : Nat → Int → Int → Option (Int)
 | 0, _, _ => none
 | k + 1, x0, x1 => if x1 = 0 then (some (mx x0 (wrap64 (-x0)))) else (r5gcd.l0 k x1 (Int.tmod x0 x1))
def r5gcd.f (k : Nat) (a0 : Int) (a1 : Int) : Option (Int) := r5gcd.l0 k a0 a1
theorem r5gcd.calls (k : Nat) (a0 : Int) (a1 : Int) (r : Int) (w : World) (h : r5gcd.f k a0 a1 = some r) :
  Calls Try.prog 95 #[.int .i64 a0, .int .i64 a1] w fun e w' => e = .returned (.int .i64 r) ∧ Below w.heap.size w w' := by
 have HB := xA.mk (Below.refl w.heap.size w)
 have H : (r5gcd.l0 k a0 a1) = some r := h
 clear h
 have H' := xA.mk H
 clear H
 go_enter Try.func95, Try.ntmps95
 go_wp2
 go_loopg [0, 1] k (fun kq v0 v1 w' => ∃ (x0_1 : Int) (x1_1 : Int), v0 = .int .i64 x0_1 ∧ v1 = .int .i64 x1_1 ∧ xA (r5gcd.l0 kq x0_1 x1_1 = some r) ∧ xA (kq ≤ k) ∧ xA (Below w.heap.size w w'))
 case atStart => exact ⟨(a0), (a1), rfl, rfl, H', ⟨Nat.le_refl _⟩, ⟨HB.out⟩⟩
 case round =>
  clear H'
  obtain ⟨x0_1, x1_1, rfl, rfl, HA, HK1, HB⟩ := hrel
  obtain _ | k1 := gk
  · exact absurd HA.out (by simp [r5gcd.l0])
  have H := HA.out
  clear HA
  simp only [r5gcd.l0] at H
  by_cases c3 : x1_1 = 0
  rotate_left
  ·
   rw [if_neg c3] at H
   have c3b0 : (x1_1 == 0) = false := jg c3
   have H' := xA.mk H
   clear H
   go_wp2
   repeat (go_quiet (fail); try go_wp2)
   go_roundg k1
   case measure => have := HK1.out; omega
   case rel => exact ⟨(x1_1), (Int.tmod x0_1 x1_1), rfl, rfl, H', ⟨by have := HK1.out; omega⟩, ⟨qb⟩⟩
  rw [if_pos c3] at H
  have c3b0 : (x1_1 == 0) = true := beq_iff_eq.mpr c3
  clear c3
  obtain ⟨ji4, hji4⟩ : ∃ j_ : Int, (mx x0_1 (wrap64 (-x0_1))) = j_ := ⟨_, rfl⟩
  replace H : (some ji4) = some r := by first | (rw [hji4] at H; exact H) | (simp only [hji4] at H ⊢; exact H)
  have hji4_ : (if x0_1 < (wrap64 (-x0_1)) then (wrap64 (-x0_1)) else x0_1) = ji4 := hji4
  obtain rfl := qx H
  go_wp2
  repeat (go_quiet (fail); try go_wp2)
  go_ret
  exact ⟨by first | rfl | (simp [errW_none, errW_some] <;> rfl) | (simp only [← hji4]; first | rfl | (simp [errW_none, errW_some] <;> rfl)) | (simp [*, errW_none, errW_some] <;> rfl), qb⟩
def r5pace.f (k : Nat) (l0 : List (List Int)) (l1 : List Int) : Option (Int × Int) := (r5weight.f k l0 l1).bind fun t481 => ((r5gcd.f k t481 (l1.length : Int)).bind fun t482 => (if t482 = 0 then (none) else (some (wrap64 (Int.tdiv t481 t482), wrap64 ((l1.length : Int) / t482)))))
def r5pace.T3 : Bool × List (List Nat × List Nat) := (true, [([], []), ([], []), ([0, 1], [0, 1]), ([], []), ([3], [3]), ([], []), ([4, 5], [4, 5]), ([2, 6], [2, 6]), ([7, 0, 1, 2, 3, 4, 5, 6, 7], [7])])
def r5pace.B3 : List Nat := [0, 0, 3, 0, 8, 0, 56, 127, 255]
theorem r5pace.tab3 : rtab .any (opsOf Try.f74 3) = r5pace.T3 := by kernel_rfl
theorem r5pace.bits3 : waitsOk r5pace.T3.2 r5pace.B3 = true := by kernel_rfl
theorem r5pace.calls (k : Nat) (A0 : Option Addr) (c0 : Nat) (l0 : List (List Int)) (A1 : Option Addr) (c1 : Nat) (l1 : List Int) (r1 : Int) (r2 : Int) (w : World) (hr0 : Kd.C (Kd.slice 3 (Kd.int .i64)) w A0 l0.length l0) (hc0 : l0.length ≤ c0) (hr1 : Kd.C (Kd.int .i64) w A1 l1.length l1) (hc1 : l1.length ≤ c1) (h : r5pace.f k l0 l1 = some (r1, r2)) :
  Calls Try.prog 74 #[.slice A0 l0.length c0, .slice A1 l1.length c1] w fun e w' => e = .returned (.agg #[.int .i64 r1, .int .i64 r2]) ∧ Below w.heap.size w w' := by
 have hu37 := Try.underlying37
 have HR0 := xA.mk hr0
 have HC0 := xA.mk hc0
 clear hr0 hc0
 have HR1 := xA.mk hr1
 have HC1 := xA.mk hc1
 clear hr1 hc1
 have HB := xA.mk (Below.refl w.heap.size w)
 have H : ((r5weight.f k l0 l1).bind fun t481 => ((r5gcd.f k t481 (l1.length : Int)).bind fun t482 => (if t482 = 0 then (none) else (some (wrap64 (Int.tdiv t481 t482), wrap64 ((l1.length : Int) / t482)))))) = some (r1, r2) := h
 clear h
 replace H := qw H
 obtain ⟨t481, A30, H⟩ := H
 replace H : ((r5gcd.f k t481 (l1.length : Int)).bind fun t482 => (if t482 = 0 then (none) else (some (wrap64 (Int.tdiv t481 t482), wrap64 ((l1.length : Int) / t482))))) = some (r1, r2) := H
 have A3 := xA.mk A30
 clear A30
 replace H := qw H
 obtain ⟨t482, A40, H⟩ := H
 replace H : (if t482 = 0 then (none) else (some (wrap64 (Int.tdiv t481 t482), wrap64 ((l1.length : Int) / t482)))) = some (r1, r2) := H
 have A4 := xA.mk A40
 clear A40
 by_cases c5 : t482 = 0
 ·
  rw [if_pos c5] at H
  exact absurd H (by simp)
 rw [if_neg c5] at H
 have c5b0 : (t482 == 0) = false := jg c5
 have c5b1 : (t482 != 0) = true := bne_iff_ne.mpr c5
 simp only [Option.some.injEq, Prod.mk.injEq] at H
 obtain ⟨rfl, rfl⟩ := H
 go_enter Try.func74, Try.ntmps74
 try go_wp2_with (first | ((with_reducible refine xW (N := 4) rfl ?_); refine xY ?hg (N := 4) ?hd (cs := #[.int .i64 0, .int .i64 0]) (t := 37) ?hr ?_; (case hd => rfl); (case hg => rfl); (case hr => first | (go_simp; done) | (go_simp; rfl)); intro gb480 hg w6 hbox hb; have n0_ := xA.mk (xE qa hb); have n1_ := xA.mk (hbox); have n2_ := xA.mk ((by rw [hg]; exact (xC qa) : w.heap.size ≤ gb480)); have n3_ := xA.mk ((by rw [hg]; exact (xC qa) : w.heap.size ≤ gb480)); clear HB; have HB := n0_; have BK480 := n1_; have GW480 := n2_; have GE480 := n3_; clear n0_ n1_ n2_ n3_; clear hb hbox hg) | ((with_reducible refine xF (f := 73) rfl ?_); refine xM (some 9) rfl rfl Try.func73 jk rfl #[.slice A0 l0.length c0, .slice A1 l1.length c1] rfl qc ?_; (with_reducible refine (r5weight.calls k _ _ l0 _ _ l1 t481 _ ?side1 ?side2 ?side3 ?side4 A3.out).mono ?_); (case side1 => exact qm (Kd.xR HR0.out HB.out)); (case side2 => exact HC0.out); (case side3 => exact qm (Kd.xR HR1.out HB.out)); (case side4 => exact HC1.out); rintro e w' ⟨rfl, ⟨nd, rfl⟩⟩; refine ⟨_, rfl, ?_⟩; (try (rw [drewN_self w6]; generalize hq_ : World.drewN w6 _ = w6; have n0_ : xA (w6.heap[gb480]? = some (.cells #[.int .i64 0, .int .i64 0] 37 (0, 0))) := ⟨by rw [← hq_]; exact (qn BK480.out)⟩; have n1_ : xA (Below w.heap.size w w6) := ⟨by rw [← hq_]; exact (qo GE480.out)⟩; clear BK480 HB hq_; have BK480 := n0_; have HB := n1_; clear n0_ n1_))) | ((with_reducible refine xF (f := 95) rfl ?_); refine xM (some 13) rfl rfl Try.func95 jk rfl #[.int .i64 t481, .int .i64 (l1.length : Int)] rfl qc ?_; (with_reducible refine (r5gcd.calls k t481 (l1.length : Int) t482 _ A4.out).mono ?_); rintro e w7 ⟨rfl, hb⟩; refine ⟨_, rfl, ?_⟩; replace BK480 := xA.mk (xN (g := gb480) (o := .cells #[.int .i64 0, .int .i64 0] 37 (0, 0)) (qn BK480.out) hb); replace HB := xA.mk (xE (qo GE480.out) hb); (try clear hb); (try clear hb2); (try clear hk); (try clear hi)))
 have n0_ := xA.mk (xI BK480.out)
 have n1_ := xA.mk (xP HB.out)
 clear BK480
 clear HB
 have BK480 := n0_
 have HB := n1_
 clear n0_ n1_
 refine start_ (n := 9) (S := fun w' => True) (ds := []) (jl 9 0) jk rfl rfl trivial (fun hHeld => ?_); refine with_tabW r5pace.tab3 r5pace.bits3 (fun HT_ HW_ => ?_)
 generalize w7.drew = w8 at BK480 HB hHeld ⊢
 refine pure_ (i := 0) (N := some 14) (v := ?_) (a' := ?_) (jl 9 1) rfl rfl (xQ HT_.out jk) (fun _ _ _ h => h) (Or.inl ⟨by rfl, ?_⟩) ?_ ?_
 rotate_left
 ·
  intro w'
  go_simp
  with_reducible rfl
 rotate_left
 ·
  simp only [Act.put, qy, qz, ja, i64_w, i32_w]
  rfl
 refine pure_ (i := 1) (N := some 15) (v := ?_) (a' := ?_) (jl 9 3) rfl rfl (xQ HT_.out jk) (fun _ _ _ h => h) (Or.inl ⟨by rfl, ?_⟩) ?_ ?_
 rotate_left
 ·
  intro w'
  go_simp
  with_reducible rfl
 rotate_left
 ·
  simp only [Act.put, qy, qz, ja, i64_w, i32_w]
  rfl
 refine pure_ (i := 2) (N := some 16) (v := ?_) (a' := ?_) (jl 9 7) rfl rfl (xQ HT_.out jk) (fun _ _ _ h => h) (Or.inl ⟨by rfl, ?_⟩) ?_ ?_
 rotate_left
 ·
  intro w'
  go_simp
  with_reducible rfl
 rotate_left
 ·
  simp only [Act.put, qy, qz, ja, i64_w, i32_w]
  rfl
 refine pure_ (i := 3) (N := some 17) (v := ?_) (a' := ?_) (jl 9 15) rfl rfl (xQ HT_.out jk) (fun _ _ _ h => h) (Or.inl ⟨by rfl, ?_⟩) ?_ ?_
 rotate_left
 ·
  intro w'
  go_simp
  with_reducible rfl
 rotate_left
 ·
  simp only [Act.put, qy, qz, ja, i64_w, i32_w]
  rfl
 refine pure_ (i := 4) (N := some 18) (v := ?_) (a' := ?_) (jl 9 31) rfl rfl (xQ HT_.out jk) (fun _ _ _ h => h) (Or.inl ⟨by rfl, ?_⟩) ?_ ?_
 rotate_left
 ·
  intro w'
  go_simp
  with_reducible rfl
 rotate_left
 ·
  simp only [Act.put, qy, qz, ja, i64_w, i32_w]
  rfl
 refine pure_ (i := 5) (N := some 19) (v := ?_) (a' := ?_) (jl 9 63) rfl rfl (xQ HT_.out jk) (fun _ _ _ h => h) (Or.inl ⟨by rfl, ?_⟩) ?_ ?_
 rotate_left
 ·
  intro w'
  go_simp
  with_reducible rfl
 rotate_left
 ·
  simp only [Act.put, qy, qz, ja, i64_w, i32_w]
  rfl
 refine pure_ (i := 6) (N := some 20) (v := ?_) (a' := ?_) (jl 9 127) rfl rfl (xQ HT_.out jk) (fun _ _ _ h => h) (Or.inl ⟨by rfl, ?_⟩) ?_ ?_
 rotate_left
 ·
  intro w'
  go_simp
  with_reducible rfl
 rotate_left
 ·
  simp only [Act.put, qy, qz, ja, i64_w, i32_w]
  rfl
 refine pure_ (i := 7) (N := some 21) (v := ?_) (a' := ?_) (jl 9 255) rfl rfl (xQ HT_.out jk) (fun _ _ _ h => h) (Or.inl ⟨by rfl, ?_⟩) ?_ ?_
 rotate_left
 ·
  intro w'
  go_simp
  with_reducible rfl
 rotate_left
 ·
  simp only [Act.put, qy, qz, ja, i64_w, i32_w]
  rfl
 refine one_ (i := 8) (N := none) (jl 9 511) rfl rfl (one_of HT_.out jk) (by decide) (fun K hK => ?_)
 have hs9 : w8.cell? ⟨gb480, 0, none⟩ = some (.int .i64 0) := (xB BK480.out 0).trans rfl
 have hfs9 := xD BK480.out 0
 have hs10 : w8.cell? ⟨gb480, 1, none⟩ = some (.int .i64 0) := (xB BK480.out 1).trans rfl
 have hfs10 := xD BK480.out 1
 refine skip_ (w1 := ?_) (by rfl) rfl ?_ ?_
 rotate_left
 ·
  go_simp
  rfl
 refine hK.out _ _ trivial (fun hHeld => ?_)
 clear hK K
 refine done_ (done_of HT_.out jk) ?_
 try go_wp2
 refine bodyPost_ret (results_cell_row rfl _ _ gb480 37 #[.int .i64 (wrap64 (Int.tdiv t481 t482)), .int .i64 (wrap64 ((l1.length : Int) / t482))] (0, 0) _ rfl (by refine xT (cs := #[.int .i64 (wrap64 (Int.tdiv t481 t482)), .int .i64 0]) ?_ 1 _ rfl; refine xT (cs := #[.int .i64 0, .int .i64 0]) ?_ 0 _ rfl; exact BK480.out) Try.underlying37 rfl jk) rfl ?_
 exact ⟨rfl, by repeat (first | exact HB.out | apply xS | apply xO | apply xP | refine xL ?_ GE480.out)⟩
def r5Speed.f (k : Nat) (l0 : List (List Int)) : Option (Int × Int × Int) := (r5Matrix.f k l0).bind fun t484 => (if t484 = true then ((r5best.f k l0).bind fun t485 => (if (t485.length : Int) = 0 then (some (0, 0, 10)) else ((r5pace.f k l0 t485).bind fun bt488 => (some (bt488.1, bt488.2, 0))))) else (some (0, 0, 2)))
theorem r5Speed.calls (k : Nat) (A0 : Option Addr) (c0 : Nat) (l0 : List (List Int)) (r1 : Int) (r2 : Int) (r3 : Int) (w : World) (hr0 : Kd.C (Kd.slice 3 (Kd.int .i64)) w A0 l0.length l0) (hc0 : l0.length ≤ c0) (h : r5Speed.f k l0 = some (r1, r2, r3)) :
  Calls Try.prog 32 #[.slice A0 l0.length c0] w fun e w' => e = .returned (.tuple #[.agg #[.int .i64 r1, .int .i64 r2], .int .i64 r3]) ∧ Below w.heap.size w w' := by
 have hu37 := Try.underlying37
 have HR0 := xA.mk hr0
 have HC0 := xA.mk hc0
 clear hr0 hc0
 have HB := xA.mk (Below.refl w.heap.size w)
 have H : ((r5Matrix.f k l0).bind fun t484 => (if t484 = true then ((r5best.f k l0).bind fun t485 => (if (t485.length : Int) = 0 then (some (0, 0, 10)) else ((r5pace.f k l0 t485).bind fun bt488 => (some (bt488.1, bt488.2, 0))))) else (some (0, 0, 2)))) = some (r1, r2, r3) := h
 clear h
 replace H := qw H
 obtain ⟨t484, A20, H⟩ := H
 replace H : (if t484 = true then ((r5best.f k l0).bind fun t485 => (if (t485.length : Int) = 0 then (some (0, 0, 10)) else ((r5pace.f k l0 t485).bind fun bt488 => (some (bt488.1, bt488.2, 0))))) else (some (0, 0, 2))) = some (r1, r2, r3) := H
 have A2 := xA.mk A20
 clear A20
 by_cases c3 : t484 = true
 rotate_left
 ·
  replace c3 := Bool.eq_false_iff.mpr c3
  subst c3
  have H1 : (some (0, 0, 2)) = some (r1, r2, r3) := by rw [if_neg (show ¬ (false = true) by decide)] at H; exact H
  clear H
  have H := H1
  clear H1
  simp only [Option.some.injEq, Prod.mk.injEq] at H
  obtain ⟨rfl, rfl, rfl⟩ := H
  go_enter Try.func32, Try.ntmps32
  go_wp2_with (first | ((with_reducible refine xW (N := 2) rfl ?_); refine xY ?hg (N := 2) ?hd (cs := #[.int .i64 0, .int .i64 0]) (t := 37) ?hr ?_; (case hd => rfl); (case hg => rfl); (case hr => go_simp); intro gb483 hg w16 hbox hb; have n0_ := xA.mk (xE (HB.out) hb); have n1_ := xA.mk (hbox); have n2_ := xA.mk ((by rw [hg]; exact (xC (HB.out)) : w.heap.size ≤ gb483)); have n3_ := xA.mk ((by rw [hg]; exact (xC (HB.out)) : w.heap.size ≤ gb483)); clear HB; have HB := n0_; have BK483 := n1_; have GW483 := n2_; have GE483 := n3_; clear n0_ n1_ n2_ n3_; clear hb hbox hg) | ((with_reducible refine xF (f := 49) rfl ?_); refine xM (some 6) rfl rfl Try.func49 jk rfl #[.slice A0 l0.length c0] rfl qd ?_; (with_reducible refine (r5Matrix.calls k _ _ l0 false _ ?side1 ?side2 A2.out).mono ?_); (case side1 => repeat (first | exact (Kd.xR HR0.out HB.out))); (case side2 => exact HC0.out); rintro e w' ⟨rfl, ⟨nd, rfl⟩⟩; refine ⟨_, rfl, ?_⟩; (try (rw [drewN_self w16]; generalize hq_ : World.drewN w16 _ = w16; have n0_ : xA (w16.heap[gb483]? = some (.cells #[.int .i64 0, .int .i64 0] 37 (0, 0))) := ⟨by rw [← hq_]; exact (by exact BK483.out)⟩; have n1_ : xA (Below w.heap.size w w16) := ⟨by rw [← hq_]; exact (HB.out)⟩; clear BK483 HB hq_; have BK483 := n0_; have HB := n1_; clear n0_ n1_)); have hcz17_0 : w16.cell? ⟨gb483, 0, none⟩ = some (.int .i64 0) := (xB BK483.out 0).trans rfl; have hcz17_1 : w16.cell? ⟨gb483, 1, none⟩ = some (.int .i64 0) := (xB BK483.out 1).trans rfl; have hfz17_0 := xD BK483.out 0; have hfz17_1 := xD BK483.out 1))
  refine bodyPost_ret (results_ct rfl _ _ gb483 37 #[.int .i64 0, .int .i64 0] (0, 0) _ rfl (by refine xT (cs := #[.int .i64 0, .int .i64 0]) ?_ 1 _ rfl; refine xT (cs := #[.int .i64 0, .int .i64 0]) ?_ 0 _ rfl; exact BK483.out) Try.underlying37 rfl jk) rfl ?_
  exact ⟨rfl, by repeat (first | exact HB.out | apply xS | apply xO | apply xP | refine xL ?_ GE483.out)⟩
 subst c3
 have H1 : ((r5best.f k l0).bind fun t485 => (if (t485.length : Int) = 0 then (some (0, 0, 10)) else ((r5pace.f k l0 t485).bind fun bt488 => (some (bt488.1, bt488.2, 0))))) = some (r1, r2, r3) := by rw [if_pos rfl] at H; exact H
 clear H
 have H := H1
 clear H1
 replace H := qw H
 obtain ⟨t485, A40, H⟩ := H
 replace H : (if (t485.length : Int) = 0 then (some (0, 0, 10)) else ((r5pace.f k l0 t485).bind fun bt488 => (some (bt488.1, bt488.2, 0)))) = some (r1, r2, r3) := H
 have A4 := xA.mk A40
 clear A40
 obtain ⟨⟨c5b0, c5b1⟩, H⟩ | ⟨c5, ⟨c5b0, c5b1⟩, H⟩ := itn_or H
 ·
  simp only [Option.some.injEq, Prod.mk.injEq] at H
  obtain ⟨rfl, rfl, rfl⟩ := H
  go_enter Try.func32, Try.ntmps32
  go_wp2_with (first | ((with_reducible refine xW (N := 2) rfl ?_); refine xY ?hg (N := 2) ?hd (cs := #[.int .i64 0, .int .i64 0]) (t := 37) ?hr ?_; (case hd => rfl); (case hg => rfl); (case hr => first | (go_simp; done) | (go_simp; rfl)); intro gb483 hg w6 hbox hb; have n0_ := xA.mk (xE qa hb); have n1_ := xA.mk (hbox); have n2_ := xA.mk ((by rw [hg]; exact (xC qa) : w.heap.size ≤ gb483)); have n3_ := xA.mk ((by rw [hg]; exact (xC qa) : w.heap.size ≤ gb483)); clear HB; have HB := n0_; have BK483 := n1_; have GW483 := n2_; have GE483 := n3_; clear n0_ n1_ n2_ n3_; clear hb hbox hg) | ((with_reducible refine xF (f := 49) rfl ?_); refine xM (some 6) rfl rfl Try.func49 jk rfl #[.slice A0 l0.length c0] rfl qc ?_; (with_reducible refine (r5Matrix.calls k _ _ l0 true _ ?side1 ?side2 A2.out).mono ?_); (case side1 => exact qm (Kd.xR HR0.out HB.out)); (case side2 => exact HC0.out); rintro e w' ⟨rfl, ⟨nd, rfl⟩⟩; refine ⟨_, rfl, ?_⟩; (try (rw [drewN_self w6]; generalize hq_ : World.drewN w6 _ = w6; have n0_ : xA (w6.heap[gb483]? = some (.cells #[.int .i64 0, .int .i64 0] 37 (0, 0))) := ⟨by rw [← hq_]; exact (qn BK483.out)⟩; have n1_ : xA (Below w.heap.size w w6) := ⟨by rw [← hq_]; exact (qo GE483.out)⟩; clear BK483 HB hq_; have BK483 := n0_; have HB := n1_; clear n0_ n1_))) | ((with_reducible refine xF (f := 72) rfl ?_); refine xM (some 10) rfl rfl Try.func72 jk rfl #[.slice A0 l0.length c0] rfl qc ?_; (with_reducible refine (r5best.calls k _ _ l0 t485 _ ?side1 ?side2 A4.out).mono ?_); (case side1 => exact qm (Kd.xR HR0.out HB.out)); (case side2 => exact HC0.out); rintro e w7 ⟨v486, rfl, ho0, hz0_, hb⟩; refine ⟨_, rfl, ?_⟩; have HO487 := xA.mk (Kd.V_lower (Kd.V_mono (ok' := fun k_ => k_ ≠ gb483) ho0 (fun k_ hk_ => (Kd.freshB (g := gb483) (o := .cells #[.int .i64 0, .int .i64 0] 37 (0, 0)) (qn BK483.out) k_ hk_))) (xC (qo GE483.out))); replace BK483 := xA.mk (xN (g := gb483) (o := .cells #[.int .i64 0, .int .i64 0] 37 (0, 0)) (qn BK483.out) hb); replace HB := xA.mk (xE (qo GE483.out) hb); (try clear hb); (try clear hb2); (try clear hk); (try clear hi); (try clear ho0); obtain ⟨Ao8, co8, eo8⟩ := Kd.V_slice HO487.out; subst eo8; have he_ := Kd.V_eql (P := Try.prog) (t := 26) (e' := 3) Try.underlying26 HO487.out hz0_ c5b0; have hn_ := Kd.V_neq (P := Try.prog) (t := 26) (e' := 3) Try.underlying26 HO487.out hz0_ c5b1; clear hz0_; have hcz9_0 : w7.cell? ⟨gb483, 0, none⟩ = some (.int .i64 0) := (xB BK483.out 0).trans rfl; have hcz9_1 : w7.cell? ⟨gb483, 1, none⟩ = some (.int .i64 0) := (xB BK483.out 1).trans rfl; have hfz9_0 := xD BK483.out 0; have hfz9_1 := xD BK483.out 1))
  refine bodyPost_ret (results_ct rfl _ _ gb483 37 #[.int .i64 0, .int .i64 0] (0, 0) _ rfl (by (with_reducible repeat (first | refine xJ ?_ _ | refine xI ?_ | refine xH ?_ _)); refine xT (cs := #[.int .i64 0, .int .i64 0]) ?_ 1 _ rfl; (with_reducible repeat (first | refine xJ ?_ _ | refine xI ?_ | refine xH ?_ _)); refine xT (cs := #[.int .i64 0, .int .i64 0]) ?_ 0 _ rfl; (with_reducible repeat (first | refine xJ ?_ _ | refine xI ?_ | refine xH ?_ _)); exact BK483.out) Try.underlying37 rfl jk) rfl ?_
  exact ⟨qg, qo GE483.out⟩
 have c5b2 : ¬ (t485 = []) := fun h_ => c5 (by rw [h_]; rfl)
 replace H := qw H
 obtain ⟨⟨t488, t489⟩, A100, H⟩ := H
 replace H : (some (t488, t489, 0)) = some (r1, r2, r3) := H
 have A10 := xA.mk A100
 clear A100
 simp only [Option.some.injEq, Prod.mk.injEq] at H
 obtain ⟨rfl, rfl, rfl⟩ := H
 go_enter Try.func32, Try.ntmps32
 go_wp2_with (first | ((with_reducible refine xW (N := 2) rfl ?_); refine xY ?hg (N := 2) ?hd (cs := #[.int .i64 0, .int .i64 0]) (t := 37) ?hr ?_; (case hd => rfl); (case hg => rfl); (case hr => first | (go_simp; done) | (go_simp; rfl)); intro gb483 hg w11 hbox hb; have n0_ := xA.mk (xE qa hb); have n1_ := xA.mk (hbox); have n2_ := xA.mk ((by rw [hg]; exact (xC qa) : w.heap.size ≤ gb483)); have n3_ := xA.mk ((by rw [hg]; exact (xC qa) : w.heap.size ≤ gb483)); clear HB; have HB := n0_; have BK483 := n1_; have GW483 := n2_; have GE483 := n3_; clear n0_ n1_ n2_ n3_; clear hb hbox hg) | ((with_reducible refine xF (f := 49) rfl ?_); refine xM (some 6) rfl rfl Try.func49 jk rfl #[.slice A0 l0.length c0] rfl qc ?_; (with_reducible refine (r5Matrix.calls k _ _ l0 true _ ?side1 ?side2 A2.out).mono ?_); (case side1 => exact qm (Kd.xR HR0.out HB.out)); (case side2 => exact HC0.out); rintro e w' ⟨rfl, ⟨nd, rfl⟩⟩; refine ⟨_, rfl, ?_⟩; (try (rw [drewN_self w11]; generalize hq_ : World.drewN w11 _ = w11; have n0_ : xA (w11.heap[gb483]? = some (.cells #[.int .i64 0, .int .i64 0] 37 (0, 0))) := ⟨by rw [← hq_]; exact (qn BK483.out)⟩; have n1_ : xA (Below w.heap.size w w11) := ⟨by rw [← hq_]; exact (qo GE483.out)⟩; clear BK483 HB hq_; have BK483 := n0_; have HB := n1_; clear n0_ n1_))) | ((with_reducible refine xF (f := 72) rfl ?_); refine xM (some 10) rfl rfl Try.func72 jk rfl #[.slice A0 l0.length c0] rfl qc ?_; (with_reducible refine (r5best.calls k _ _ l0 t485 _ ?side1 ?side2 A4.out).mono ?_); (case side1 => exact qm (Kd.xR HR0.out HB.out)); (case side2 => exact HC0.out); rintro e w12 ⟨v486, rfl, ho0, hz0_, hb⟩; refine ⟨_, rfl, ?_⟩; have HO487 := xA.mk (Kd.V_lower (Kd.V_mono (ok' := fun k_ => k_ ≠ gb483) ho0 (fun k_ hk_ => (Kd.freshB (g := gb483) (o := .cells #[.int .i64 0, .int .i64 0] 37 (0, 0)) (qn BK483.out) k_ hk_))) (xC (qo GE483.out))); replace BK483 := xA.mk (xN (g := gb483) (o := .cells #[.int .i64 0, .int .i64 0] 37 (0, 0)) (qn BK483.out) hb); replace HB := xA.mk (xE (qo GE483.out) hb); (try clear hb); (try clear hb2); (try clear hk); (try clear hi); (try clear ho0); obtain ⟨Ao13, co13, eo13⟩ := Kd.V_slice HO487.out; subst eo13; have he_ := Kd.V_eql (P := Try.prog) (t := 26) (e' := 3) Try.underlying26 HO487.out hz0_ c5b0; have hn_ := Kd.V_neq (P := Try.prog) (t := 26) (e' := 3) Try.underlying26 HO487.out hz0_ c5b1; clear hz0_) | ((with_reducible refine xF (f := 74) rfl ?_); refine xM (some 16) rfl rfl Try.func74 jk rfl #[.slice A0 l0.length c0, .slice Ao13 t485.length co13] rfl qc ?_; (with_reducible refine (r5pace.calls k _ _ l0 _ _ t485 t488 t489 _ ?side1 ?side2 ?side3 ?side4 A10.out).mono ?_); (case side1 => exact qm (Kd.xR HR0.out HB.out)); (case side2 => exact HC0.out); (case side3 => exact qm (Kd.xV HO487.out).2.2); (case side4 => exact (Kd.xV HO487.out).2.1); rintro e w14 ⟨rfl, hb⟩; refine ⟨_, rfl, ?_⟩; replace HO487 := xA.mk (Kd.V_below (qj HO487.out) hb); replace BK483 := xA.mk (xN (g := gb483) (o := .cells #[.int .i64 0, .int .i64 0] 37 (0, 0)) (qn BK483.out) hb); replace HB := xA.mk (xE (qo GE483.out) hb); (try clear hb); (try clear hb2); (try clear hk); (try clear hi); have hcz15_0 : w14.cell? ⟨gb483, 0, none⟩ = some (.int .i64 0) := (xB BK483.out 0).trans rfl; have hcz15_1 : w14.cell? ⟨gb483, 1, none⟩ = some (.int .i64 0) := (xB BK483.out 1).trans rfl; have hfz15_0 := xD BK483.out 0; have hfz15_1 := xD BK483.out 1))
 refine bodyPost_ret (results_ct rfl _ _ gb483 37 #[.int .i64 t488, .int .i64 t489] (0, 0) _ rfl (by (with_reducible repeat (first | refine xJ ?_ _ | refine xI ?_ | refine xH ?_ _)); refine xT (cs := #[.int .i64 t488, .int .i64 0]) ?_ 1 _ rfl; (with_reducible repeat (first | refine xJ ?_ _ | refine xI ?_ | refine xH ?_ _)); refine xT (cs := #[.int .i64 0, .int .i64 0]) ?_ 0 _ rfl; (with_reducible repeat (first | refine xJ ?_ _ | refine xI ?_ | refine xH ?_ _)); exact BK483.out) Try.underlying37 rfl jk) rfl ?_
 exact ⟨qg, qo GE483.out⟩
def l5rows.l0 : Nat → List (List Int) → List (List Int) → Int → Option (Bool)
 | 0, _, _, _ => none
 | k + 1, x0, x1, x5 => if x5 < (x0.length : Int) then (if 0 ≤ x5 then (if x5 < (x1.length : Int) then ((l5same.f k (rd_L1 x0 x5) (rd_L1 x1 x5)).bind fun t624 => (if t624 = true then (l5rows.l0 k x0 x1 (wrap64 (x5 + 1))) else (some false))) else (none)) else (none)) else (some true)
def l5rows.f (k : Nat) (l0 : List (List Int)) (l1 : List (List Int)) : Option (Bool) := if (l0.length : Int) = (l1.length : Int) then (l5rows.l0 k l0 l1 0) else (some false)
theorem l5rows.calls (k : Nat) (A0 : Option Addr) (c0 : Nat) (l0 : List (List Int)) (A1 : Option Addr) (c1 : Nat) (l1 : List (List Int)) (r : Bool) (w : World) (hr0 : Kd.C (Kd.slice 3 (Kd.int .i64)) w A0 l0.length l0) (hc0 : l0.length ≤ c0) (hr1 : Kd.C (Kd.slice 3 (Kd.int .i64)) w A1 l1.length l1) (hc1 : l1.length ≤ c1) (h : l5rows.f k l0 l1 = some r) :
  Calls Try.prog 20 #[.slice A0 l0.length c0, .slice A1 l1.length c1] w fun e w' => e = .returned (.bool r) ∧ Drawn0 w w' := by
 have HR0 := xA.mk hr0
 have HC0 := xA.mk hc0
 clear hr0 hc0
 have HR1 := xA.mk hr1
 have HC1 := xA.mk hc1
 clear hr1 hc1
 have H : (if (l0.length : Int) = (l1.length : Int) then (l5rows.l0 k l0 l1 0) else (some false)) = some r := h
 clear h
 by_cases c3 : (l0.length : Int) = (l1.length : Int)
 rotate_left
 ·
  rw [if_neg c3] at H
  have c3b0 : ((l0.length : Int) == (l1.length : Int)) = false := jg c3
  have c3b2 : (l0.length == l1.length) = false := by first | simpa using c3 | (simp at c3 ⊢; omega)
  obtain rfl := qx H
  go_enter Try.func20, Try.ntmps20
  go_wp2
  go_ret
  exact ⟨qf, qe⟩
 rw [if_pos c3] at H
 have c3b0 : ((l0.length : Int) == (l1.length : Int)) = true := beq_iff_eq.mpr c3
 have c3b2 : (l0.length == l1.length) = true := by first | simpa using c3 | (simp at c3 ⊢; omega)
 clear c3
 have H' := xA.mk H
 clear H
 go_enter Try.func20, Try.ntmps20
 go_wp2
 go_loopg [5] k (fun kq v5 w' => ∃ (x5_1 : Int), v5 = .int .i64 x5_1 ∧ xA (l5rows.l0 kq l0 l1 x5_1 = some r) ∧ xA (kq ≤ k) ∧ Drawn0 w w')
 case atStart => exact ⟨(0), rfl, H', ⟨Nat.le_refl _⟩, qe⟩
 case round =>
  clear H'
  obtain ⟨x5_1, rfl, HA, HK1, ⟨m1, rfl⟩⟩ := hrel
  obtain _ | k1 := gk
  · exact absurd HA.out (by simp [l5rows.l0])
  have H := HA.out
  clear HA
  simp only [l5rows.l0] at H
  obtain ⟨c4b0, H⟩ | ⟨c4b0, H⟩ := itd_or H
  rotate_left
  ·
   obtain rfl := qx H
   go_wp2
   go_ret
   exact ⟨qf, qe⟩
  obtain ⟨c5b0, H⟩ := xK H
  obtain ⟨c6b0, H⟩ := xK H
  replace H := qw H
  obtain ⟨t624, A70, H⟩ := H
  replace H : (if t624 = true then (l5rows.l0 k1 l0 l1 (wrap64 (x5_1 + 1))) else (some false)) = some r := H
  have A7 := xA.mk A70
  clear A70
  by_cases c8 : t624 = true
  rotate_left
  ·
   replace c8 := Bool.eq_false_iff.mpr c8
   subst c8
   have H1 : (some false) = some r := by rw [if_neg (show ¬ (false = true) by decide)] at H; exact H
   clear H
   have H := H1
   clear H1
   obtain rfl := qx H
   have p622 : 0 ≤ (x5_1 : Int) := qq
   have q622 : x5_1 < (l0.length : Int) := qq
   obtain ⟨ad622, A622_0, c622_0, e622, hx622_0, hl622_0, hi622_0⟩ := at_L1 HR0.out x5_1 p622 q622
   cases e622
   have HR622_0 := xA.mk hi622_0
   have HC622_0 := xA.mk hl622_0
   clear hi622_0 hl622_0
   replace p622 := eq_true p622
   replace q622 := eq_true q622
   have p623 : 0 ≤ (x5_1 : Int) := qq
   have q623 : x5_1 < (l1.length : Int) := qq
   obtain ⟨ad623, A623_0, c623_0, e623, hx623_0, hl623_0, hi623_0⟩ := at_L1 HR1.out x5_1 p623 q623
   cases e623
   have HR623_0 := xA.mk hi623_0
   have HC623_0 := xA.mk hl623_0
   clear hi623_0 hl623_0
   replace p623 := eq_true p623
   replace q623 := eq_true q623
   go_wp2_with (first | (go_at_call 17; (with_reducible refine (l5same.calls k1 _ _ (rd_L1 l0 x5_1) _ _ (rd_L1 l1 x5_1) false _ ?side1 ?side2 ?side3 ?side4 A7.out).mono ?_); (case side1 => repeat (first | exact HR622_0.out)); (case side2 => exact HC622_0.out); (case side3 => repeat (first | exact HR623_0.out)); (case side4 => exact HC623_0.out); rintro e w' ⟨rfl, ⟨nd, rfl⟩⟩; (try exact qp)))
   repeat (go_quiet (first | (go_at_call 17; (with_reducible refine (l5same.calls k1 _ _ (rd_L1 l0 x5_1) _ _ (rd_L1 l1 x5_1) false _ ?side1 ?side2 ?side3 ?side4 A7.out).mono ?_); (case side1 => repeat (first | exact HR622_0.out)); (case side2 => exact HC622_0.out); (case side3 => repeat (first | exact HR623_0.out)); (case side4 => exact HC623_0.out); rintro e w' ⟨rfl, ⟨nd, rfl⟩⟩; (try exact qp))); try go_wp2_with (first | (go_at_call 17; (with_reducible refine (l5same.calls k1 _ _ (rd_L1 l0 x5_1) _ _ (rd_L1 l1 x5_1) false _ ?side1 ?side2 ?side3 ?side4 A7.out).mono ?_); (case side1 => repeat (first | exact HR622_0.out)); (case side2 => exact HC622_0.out); (case side3 => repeat (first | exact HR623_0.out)); (case side4 => exact HC623_0.out); rintro e w' ⟨rfl, ⟨nd, rfl⟩⟩; (try exact qp))))
   go_ret
   exact ⟨qf, qe⟩
  subst c8
  have H1 : (l5rows.l0 k1 l0 l1 (wrap64 (x5_1 + 1))) = some r := by rw [if_pos rfl] at H; exact H
  clear H
  have H := H1
  clear H1
  have H' := xA.mk H
  clear H
  have p622 : 0 ≤ (x5_1 : Int) := qq
  have q622 : x5_1 < (l0.length : Int) := qq
  obtain ⟨ad622, A622_0, c622_0, e622, hx622_0, hl622_0, hi622_0⟩ := at_L1 HR0.out x5_1 p622 q622
  cases e622
  have HR622_0 := xA.mk hi622_0
  have HC622_0 := xA.mk hl622_0
  clear hi622_0 hl622_0
  replace p622 := eq_true p622
  replace q622 := eq_true q622
  have p623 : 0 ≤ (x5_1 : Int) := qq
  have q623 : x5_1 < (l1.length : Int) := qq
  obtain ⟨ad623, A623_0, c623_0, e623, hx623_0, hl623_0, hi623_0⟩ := at_L1 HR1.out x5_1 p623 q623
  cases e623
  have HR623_0 := xA.mk hi623_0
  have HC623_0 := xA.mk hl623_0
  clear hi623_0 hl623_0
  replace p623 := eq_true p623
  replace q623 := eq_true q623
  go_wp2_with (first | (go_at_call 17; (with_reducible refine (l5same.calls k1 _ _ (rd_L1 l0 x5_1) _ _ (rd_L1 l1 x5_1) true _ ?side1 ?side2 ?side3 ?side4 A7.out).mono ?_); (case side1 => repeat (first | exact HR622_0.out)); (case side2 => exact HC622_0.out); (case side3 => repeat (first | exact HR623_0.out)); (case side4 => exact HC623_0.out); rintro e w' ⟨rfl, ⟨nd, rfl⟩⟩; (try exact qp)))
  repeat (go_quiet (first | (go_at_call 17; (with_reducible refine (l5same.calls k1 _ _ (rd_L1 l0 x5_1) _ _ (rd_L1 l1 x5_1) true _ ?side1 ?side2 ?side3 ?side4 A7.out).mono ?_); (case side1 => repeat (first | exact HR622_0.out)); (case side2 => exact HC622_0.out); (case side3 => repeat (first | exact HR623_0.out)); (case side4 => exact HC623_0.out); rintro e w' ⟨rfl, ⟨nd, rfl⟩⟩; (try exact qp))); try go_wp2_with (first | (go_at_call 17; (with_reducible refine (l5same.calls k1 _ _ (rd_L1 l0 x5_1) _ _ (rd_L1 l1 x5_1) true _ ?side1 ?side2 ?side3 ?side4 A7.out).mono ?_); (case side1 => repeat (first | exact HR622_0.out)); (case side2 => exact HC622_0.out); (case side3 => repeat (first | exact HR623_0.out)); (case side4 => exact HC623_0.out); rintro e w' ⟨rfl, ⟨nd, rfl⟩⟩; (try exact qp))))
  go_roundg k1
  case measure => have := HK1.out; omega
  case rel => exact ⟨(wrap64 (x5_1 + 1)), rfl, H', ⟨by have := HK1.out; omega⟩, qe⟩
mutual
def llcycle.l0 : Nat → List Int → Int → Int → Int → Int → List (List Int) → Int → Int → List (List Int) → List (List Int) → Option (List Int)
 | 0, _, _, _, _, _, _, _, _, _, _ => none
 | k + 1, x1, x2, x7, x30, x31, x894000, x894001, x894002, x894003, x894004 => if x31 < x30 then ((slices_Contains_int_int.f k x1 x31).bind fun t900 => (if t900 = true then (llcycle.j1 k x1 x2 x7 x31 x30 x31 true x894000 x894001 x894002 x894003 x894004) else ((llcritical.f x894000 x894001 x894002 x894003 x894004 x31 x7).bind fun t901 => (llcycle.j1 k x1 x2 x7 x31 x30 x31 (!t901) x894000 x894001 x894002 x894003 x894004)))) else (some ([] : List Int))
def llcycle.j1 : Nat → List Int → Int → Int → Int → Int → Int → Bool → List (List Int) → Int → Int → List (List Int) → List (List Int) → Option (List Int)
 | 0, _, _, _, _, _, _, _, _, _, _, _, _ => none
 | k + 1, x1, x2, x7, x8, x30, x31, x43, x894000, x894001, x894002, x894003, x894004 => if x43 = true then (llcycle.l0 k x1 x2 x7 x30 (wrap64 (x31 + 1)) x894000 x894001 x894002 x894003 x894004) else ((slices_Clone_int_int.f x1).bind fun t902 => (if t902.length < 17592186044416 then ((llcycle.f k x894000 x894001 x894002 x894003 x894004 (t902 ++ [x8]) x2).bind fun t908 => (if (t908.length : Int) = 0 then (llcycle.l0 k x1 x2 x7 x30 (wrap64 (x31 + 1)) x894000 x894001 x894002 x894003 x894004) else (some t908))) else (none)))
def llcycle.f : Nat → List (List Int) → Int → Int → List (List Int) → List (List Int) → List Int → Int → Option (List Int)
 | 0, _, _, _, _, _, _, _ => none
 | k + 1, l0_0, a0_1, a0_2, l0_3, l0_4, l1, a2 => if 0 ≤ (wrap64 ((l1.length : Int) - 1)) then (if (wrap64 ((l1.length : Int) - 1)) < (l1.length : Int) then (if (l1.length : Int) = a2 then (if 0 < (l1.length : Int) then ((llcritical.f l0_0 a0_1 a0_2 l0_3 l0_4 (rd l1 0) (rd l1 (wrap64 ((l1.length : Int) - 1)))).bind fun t896 => (if t896 = true then ((slices_Clone_int_int.f l1).bind fun t897 => (some t897)) else (some ([] : List Int)))) else (none)) else (llcycle.l0 k l1 a2 (rd l1 (wrap64 ((l1.length : Int) - 1))) (l0_3.length : Int) 0 l0_0 a0_1 a0_2 l0_3 l0_4)) else (none)) else (none)
end
def llcycle.T10 : Bool × List (List Nat × List Nat) := (true, [([], []), ([], []), ([], []), ([2], [2]), ([1, 3], [1, 3]), ([], []), ([0, 4, 5, 4], [0, 4, 5]), ([6, 6, 0, 1, 2, 3, 4, 5, 6], [6])])
def llcycle.B10 : List Nat := [0, 0, 0, 4, 14, 0, 63, 127]
theorem llcycle.tab10 : rtab .any (opsOf Try.f75 10) = llcycle.T10 := by kernel_rfl
theorem llcycle.bits10 : waitsOk llcycle.T10.2 llcycle.B10 = true := by kernel_rfl
theorem llcycle.clone {l t : List Int} (h : slices_Clone_int_int.f l = some t) : l = t := by
 unfold slices_Clone_int_int.f at h
 simp only [Option.bind_some, List.length_nil, List.nil_append] at h
 split at h
 ·
  exact qx h
 ·
  cases h
theorem llcycle.clone_ne {l t : List Int} (h : slices_Clone_int_int.f l = some t) (hp : decide (0 < l.length) = true) {v : Value} (he : t = []) : v = .slice none 0 0 := by
 have h1 := llcycle.clone h
 have h2 := qt hp
 rw [h1, he] at h2
 exact absurd h2 (by decide)
theorem llcycle.calls (k : Nat) : ∀ (A0_0 : Option Addr) (c0_0 : Nat) (l0_0 : List (List Int)) (a0_1 : Int) (a0_2 : Int) (A0_3 : Option Addr) (c0_3 : Nat) (l0_3 : List (List Int)) (A0_4 : Option Addr) (c0_4 : Nat) (l0_4 : List (List Int)) (A1 : Option Addr) (c1 : Nat) (l1 : List Int) (a2 : Int) (r : List Int) (w0 w : World) (hb0 : Below w0.heap.size w0 w) (hr0_0 : Kd.C (Kd.slice 3 (Kd.int .i64)) w0 A0_0 l0_0.length l0_0) (hc0_0 : l0_0.length ≤ c0_0) (hr0_3 : Kd.C (Kd.slice 3 (Kd.int .i64)) w0 A0_3 l0_3.length l0_3) (hc0_3 : l0_3.length ≤ c0_3) (hr0_4 : Kd.C (Kd.slice 3 (Kd.int .i64)) w0 A0_4 l0_4.length l0_4) (hc0_4 : l0_4.length ≤ c0_4) (hr1 : Kd.R (Kd.int .i64) 3 w w0.heap.size (fun _ => True) (.slice A1 l1.length c1) l1) (h : llcycle.f k l0_0 a0_1 a0_2 l0_3 l0_4 l1 a2 = some r),
  Calls Try.prog 75 #[.agg #[.slice A0_0 l0_0.length c0_0, .int .i64 a0_1, .int .i64 a0_2, .slice A0_3 l0_3.length c0_3, .slice A0_4 l0_4.length c0_4], .slice A1 l1.length c1, .int .i64 a2] w fun e w' => ∃ v0_ : Value, e = .returned (v0_) ∧ Kd.R (Kd.int .i64) 3 w' w0.heap.size (fun _ => True) v0_ r ∧ (r = [] → v0_ = .slice none 0 0) ∧ Kd.Still w0 w (.slice A1 l1.length c1) l1 w' := by
 induction k using Nat.strongRecOn with
 | _ k ih =>
 intro A0_0 c0_0 l0_0 a0_1 a0_2 A0_3 c0_3 l0_3 A0_4 c0_4 l0_4 A1 c1 l1 a2 r w0 w hb0 hr0_0 hc0_0 hr0_3 hc0_3 hr0_4 hc0_4 hr1 h
 cases k with
 | zero => exact absurd h (by simp [llcycle.f])
 | succ k =>
 simp only [llcycle.f] at h
 have hu58 := Try.underlying58
 have HW0_0 := xA.mk hr0_0
 have HR0_0 := xA.mk (Kd.xR hr0_0 hb0)
 have HC0_0 := xA.mk hc0_0
 clear hr0_0 hc0_0
 have HW0_3 := xA.mk hr0_3
 have HR0_3 := xA.mk (Kd.xR hr0_3 hb0)
 have HC0_3 := xA.mk hc0_3
 clear hr0_3 hc0_3
 have HW0_4 := xA.mk hr0_4
 have HR0_4 := xA.mk (Kd.xR hr0_4 hb0)
 have HC0_4 := xA.mk hc0_4
 clear hr0_4 hc0_4
 have HR1 := xA.mk (Kd.yA hr1).2.2
 have HC1 := xA.mk (Kd.yA hr1).2.1
 have HI := xA.mk (Kd.Still.start hb0 hr1)
 have HB0 := xA.mk hb0
 clear hr1 hb0
 have HB := xA.mk (Below.refl w.heap.size w)
 have H : (if 0 ≤ (wrap64 ((l1.length : Int) - 1)) then (if (wrap64 ((l1.length : Int) - 1)) < (l1.length : Int) then (if (l1.length : Int) = a2 then (if 0 < (l1.length : Int) then ((llcritical.f l0_0 a0_1 a0_2 l0_3 l0_4 (rd l1 0) (rd l1 (wrap64 ((l1.length : Int) - 1)))).bind fun t896 => (if t896 = true then ((slices_Clone_int_int.f l1).bind fun t897 => (some t897)) else (some ([] : List Int)))) else (none)) else (llcycle.l0 k l1 a2 (rd l1 (wrap64 ((l1.length : Int) - 1))) (l0_3.length : Int) 0 l0_0 a0_1 a0_2 l0_3 l0_4)) else (none)) else (none)) = some r := h
 clear h
 obtain ⟨ji4, hji4⟩ : ∃ j_ : Int, (wrap64 ((l1.length : Int) - 1)) = j_ := ⟨_, rfl⟩
 replace H : (if 0 ≤ (ji4) then (if (ji4) < (l1.length : Int) then (if (l1.length : Int) = a2 then (if 0 < (l1.length : Int) then ((llcritical.f l0_0 a0_1 a0_2 l0_3 l0_4 (rd l1 0) (rd l1 (ji4))).bind fun t896 => (if t896 = true then ((slices_Clone_int_int.f l1).bind fun t897 => (some t897)) else (some ([] : List Int)))) else (none)) else (llcycle.l0 k l1 a2 (rd l1 (ji4)) (l0_3.length : Int) 0 l0_0 a0_1 a0_2 l0_3 l0_4)) else (none)) else (none)) = some r := by first | (rw [hji4] at H; exact H) | (simp only [hji4] at H ⊢; exact H)
 have hji4w : (IntKind.i64.wrap ((l1.length : Int) - 1)) = ji4 := (i64_w _).trans hji4
 by_cases c5 : 0 ≤ (ji4)
 ·
  rw [if_pos c5] at H
  have c5b0 : decide (0 ≤ (ji4)) = true := qu c5
  clear c5
  by_cases c6 : (ji4) < (l1.length : Int)
  ·
   rw [if_pos c6] at H
   have c6b0 : decide ((ji4) < (l1.length : Int)) = true := qu c6
   clear c6
   by_cases c7 : (l1.length : Int) = a2
   ·
    rw [if_pos c7] at H
    have c7b0 : ((l1.length : Int) == a2) = true := beq_iff_eq.mpr c7
    have c7b1 : ((l1.length : Int) != a2) = false := bne_eq_false_iff_eq.mpr c7
    clear c7
    by_cases c8 : 0 < (l1.length : Int)
    ·
     rw [if_pos c8] at H
     have c8b0 : decide (0 < (l1.length : Int)) = true := qu c8
     have c8b1 : decide (0 < l1.length) = true := qu jj
     clear c8
     replace H := qw H
     obtain ⟨t896, A90, H⟩ := H
     replace H : (if t896 = true then ((slices_Clone_int_int.f l1).bind fun t897 => (some t897)) else (some ([] : List Int))) = some r := H
     have A9 := xA.mk A90
     clear A90
     by_cases c10 : t896 = true
     ·
      subst c10
      have H1 : ((slices_Clone_int_int.f l1).bind fun t897 => (some t897)) = some r := by rw [if_pos rfl] at H; exact H
      clear H
      have H := H1
      clear H1
      replace H := qw H
      obtain ⟨t897, A110, H⟩ := H
      replace H : (some t897) = some r := H
      have A11 := xA.mk A110
      clear A110
      obtain rfl := qx H
      go_enter Try.func75, Try.ntmps75
      try go_wp2_with (first | ((with_reducible refine xW (N := 3) rfl ?_); refine xY ?hg (N := 3) ?hd (cs := #[.slice A0_0 l0_0.length c0_0, .int .i64 a0_1, .int .i64 a0_2, .slice A0_3 l0_3.length c0_3, .slice A0_4 l0_4.length c0_4]) (t := 58) ?hr ?_; (case hd => rfl); (case hg => rfl); (case hr => first | (go_simp; done) | (go_simp; rfl)); intro gb893 hg w12 hbox hb; have n0_ := xA.mk (xE qa hb); have n1_ := xA.mk (hbox); have n2_ := xA.mk ((by rw [hg]; exact (xC qa) : w.heap.size ≤ gb893)); have n3_ := xA.mk ((by rw [hg]; exact (xC qa) : w.heap.size ≤ gb893)); clear HB; have HB := n0_; have BK893 := n1_; have GW893 := n2_; have GE893 := n3_; clear n0_ n1_ n2_ n3_; clear hb hbox hg; have p894 : 0 ≤ ((ji4) : Int) := qr; have q894 : (ji4) < (l1.length : Int) := qr; obtain ⟨ad894, e894, hx894_0⟩ := Kd.xX HR1.out (ji4) p894 q894; cases e894; replace hx894_0 := (HB.out.cell (World.block_lt_of_cell? w _ hx894_0)).trans hx894_0; replace p894 := eq_true p894; replace q894 := eq_true q894))
      have n0_ := xA.mk (xI BK893.out)
      have n1_ := xA.mk (xP HB.out)
      clear BK893
      clear HB
      have BK893 := n0_
      have HB := n1_
      clear n0_ n1_
      have p895 : 0 ≤ (0 : Int) := jj
      have q895 : 0 < (l1.length : Int) := qr
      obtain ⟨ad895, e895, hx895_0⟩ := Kd.xX HR1.out 0 p895 q895
      have hw895_0 := hx895_0
      (try rw [show ((0 : Int)).toNat = 0 from rfl] at hw895_0)
      (try rw [show 0 * 1 = 0 from rfl] at hw895_0)
      (try rw [Addr.add_zero'] at hw895_0)
      obtain rfl : ad894 = ad895 := (by injection e895)
      have qi895 : (0 < l1.length) = True := eq_true jj
      (try rw [show ((0 : Int)).toNat = 0 from rfl] at hx895_0)
      (try rw [Addr.add_zero'] at hx895_0)
      replace hx895_0 := (HB.out.cell (World.block_lt_of_cell? w _ hx895_0)).trans hx895_0
      replace p895 := eq_true p895
      replace q895 := eq_true q895
      refine start_ (n := 6) (S := fun w' => w'.cell? ⟨gb893, 0, none⟩ = some (.slice A0_0 l0_0.length c0_0) ∧ w'.cell? ⟨gb893, 1, none⟩ = some (.int .i64 a0_1) ∧ w'.cell? ⟨gb893, 2, none⟩ = some (.int .i64 a0_2) ∧ w'.cell? ⟨gb893, 3, none⟩ = some (.slice A0_3 l0_3.length c0_3) ∧ w'.cell? ⟨gb893, 4, none⟩ = some (.slice A0_4 l0_4.length c0_4) ∧ w'.cell? ad894 = some (.int .i64 (rd l1 0))) (ds := []) (jl 6 0) jk rfl rfl ⟨(xB BK893.out 0).trans rfl, (xB BK893.out 1).trans rfl, (xB BK893.out 2).trans rfl, (xB BK893.out 3).trans rfl, (xB BK893.out 4).trans rfl, ((HB.out.cell (World.block_lt_of_cell? w _ hw895_0)).trans hw895_0)⟩ (fun hHeld => ?_)
      generalize w12.drew = w13 at BK893 HB hx895_0 hHeld ⊢
      refine pure_ (i := 1) (N := some 21) (v := ?_) (a' := ?_) (jl 6 2) rfl rfl jk (fun _ _ _ h => h) (Or.inl ⟨by rfl, ?_⟩) ?_ ?_
      rotate_left
      ·
       intro w'
       go_simp
       with_reducible rfl
      rotate_left
      ·
       simp only [Act.put, qy, qz, ja, i64_w, i32_w]
       rfl
      refine pure_ (i := 2) (N := some 22) (v := ?_) (a' := ?_) (jl 6 6) rfl rfl jk (fun _ _ _ h => h) (Or.inl ⟨by rfl, ?_⟩) ?_ ?_
      rotate_left
      ·
       intro w'
       go_simp
       with_reducible rfl
      rotate_left
      ·
       simp only [Act.put, qy, qz, ja, i64_w, i32_w]
       rfl
      refine pure_ (i := 4) (N := some 24) (v := ?_) (a' := ?_) (jl 6 22) rfl rfl jk (fun _ _ _ h => h) (Or.inl ⟨by rfl, ?_⟩) ?_ ?_
      rotate_left
      ·
       intro w'
       go_simp
       with_reducible rfl
      rotate_left
      ·
       simp only [Act.put, qy, qz, ja, i64_w, i32_w]
       rfl
      refine take_ (i := 0) (N := some 20) (v := ?_) (a' := ?_) (jl 6 23) rfl rfl jk (fun _ _ _ h => h) (Or.inl ⟨by rfl, ?_⟩) hHeld ?_ ?_
      rotate_left
      ·
       rintro w' ⟨s0, s1, s2, s3, s4, s5⟩
       go_simp
       with_reducible rfl
      rotate_left
      ·
       simp only [Act.put, qy, qz, ja, i64_w, i32_w]
       rfl
      refine take_ (i := 3) (N := some 23) (v := ?_) (a' := ?_) (jl 6 31) rfl rfl jk (fun _ _ _ h => h) (Or.inl ⟨by rfl, ?_⟩) hHeld ?_ ?_
      rotate_left
      ·
       rintro w' ⟨s0, s1, s2, s3, s4, s5⟩
       go_simp
       with_reducible rfl
      rotate_left
      ·
       simp only [Act.put, qy, qz, ja, i64_w, i32_w]
       rfl
      refine one_ (i := 5) (N := some 25) (jl 6 63) rfl rfl jk (by decide) (fun K hK => ?_)
      with_reducible refine goes_ (f := 84) (fn := Try.f84) (as0 := #[.tmp 20, .tmp 23, .tmp 24]) (ts := #[58, 3, 3]) ?z1_1 ?z1_2 ?z1_3 #[.agg #[.slice A0_0 l0_0.length c0_0, .int .i64 a0_1, .int .i64 a0_2, .slice A0_3 l0_3.length c0_3, .slice A0_4 l0_4.length c0_4], .int .i64 (rd l1 0), .int .i64 (rd l1 (ji4))] ?z1_4 ?z1_5 ?z1_6 ?z1_7 ?z1_8
      (case z1_1 => exact Try.func84)
      (case z1_2 => kernel_rfl)
      (case z1_3 => kernel_rfl)
      (case z1_4 => rfl)
      (case z1_5 => rfl)
      (case z1_6 => rfl)
      (case z1_7 => (try simp only [jb, jc, jd]); first | done | (simp only [hji4]; rfl) | rfl | (simp only [jf, je]; rfl))
      with_reducible refine (llcritical.calls _ _ l0_0 a0_1 a0_2 _ _ l0_3 _ _ l0_4 (rd l1 0) (rd l1 (ji4)) true _ ?side1 ?side2 ?side3 ?side4 ?side5 ?side6 A9.out).mono ?_
      (case side1 => exact qm (Kd.xR HR0_0.out HB.out))
      (case side2 => exact HC0_0.out)
      (case side3 => exact qm (Kd.xR HR0_3.out HB.out))
      (case side4 => exact HC0_3.out)
      (case side5 => exact qm (Kd.xR HR0_4.out HB.out))
      (case side6 => exact HC0_4.out)
      rintro e w14 ⟨rfl, hb⟩
      refine ⟨_, rfl, ?_⟩
      have n0_ := xA.mk (xN (g := gb893) (o := .cells #[.slice A0_0 l0_0.length c0_0, .int .i64 a0_1, .int .i64 a0_2, .slice A0_3 l0_3.length c0_3, .slice A0_4 l0_4.length c0_4] 58 (0, 0)) (qn BK893.out) hb)
      have n1_ := xA.mk (xE (qo GE893.out) hb)
      clear BK893
      clear HB
      have BK893 := n0_
      have HB := n1_
      clear n0_ n1_
      (try clear hb)
      (try clear hb2)
      (try clear hk)
      (try clear hi)
      refine hK.out _ _ ⟨(xB BK893.out 0).trans rfl, (xB BK893.out 1).trans rfl, (xB BK893.out 2).trans rfl, (xB BK893.out 3).trans rfl, (xB BK893.out 4).trans rfl, ((HB.out.cell (World.block_lt_of_cell? w _ hw895_0)).trans hw895_0)⟩ (fun hHeld => ?_)
      clear hK K
      refine norm_ (a' := ?_) ?_ ?_
      rotate_left
      ·
       show Act.put _ (some 25) _ = _
       simp only [Act.put, qy, qz, ja, i64_w, i32_w]
       rfl
      refine done_ jk ?_
      try go_wp2_with (first | ((with_reducible refine xF (f := 90) rfl ?_); refine xM (some 27) rfl rfl Try.func90 jk rfl #[.slice (some ad894) l1.length c1] rfl qc ?_; (with_reducible refine (slices_Clone_int_int.calls _ _ l1 t897 _ ?side1 ?side2 A11.out).mono ?_); (case side1 => exact qm (Kd.xR HR1.out HB.out)); (case side2 => exact HC1.out); rintro e w15 ⟨v898, rfl, ho0, hb⟩; refine ⟨_, rfl, ?_⟩; have HO899 := xA.mk (Kd.R_lower ho0 (xC (qo GE893.out))); replace BK893 := xA.mk (xN (g := gb893) (o := .cells #[.slice A0_0 l0_0.length c0_0, .int .i64 a0_1, .int .i64 a0_2, .slice A0_3 l0_3.length c0_3, .slice A0_4 l0_4.length c0_4] 58 (0, 0)) (qn BK893.out) hb); replace HB := xA.mk (xE (qo GE893.out) hb); (try clear hb); (try clear hb2); (try clear hk); (try clear hi); (try clear ho0)))
      go_ret
      exact ⟨_, by first | rfl | (simp [errW_none, errW_some] <;> rfl) | (simp only [← hji4]; first | rfl | (simp [errW_none, errW_some] <;> rfl)) | (simp [*, errW_none, errW_some] <;> rfl), Kd.R_lower (qi HO899.out) (xC HB0.out), (fun h_ => llcycle.clone_ne A11.out c8b1 h_), Kd.Still.step HI.out (qo GE893.out)⟩
     ·
      replace c10 := Bool.eq_false_iff.mpr c10
      subst c10
      have H1 : (some ([] : List Int)) = some r := by rw [if_neg (show ¬ (false = true) by decide)] at H; exact H
      clear H
      have H := H1
      clear H1
      obtain rfl := qx H
      go_enter Try.func75, Try.ntmps75
      try go_wp2_with (first | ((with_reducible refine xW (N := 3) rfl ?_); refine xY ?hg (N := 3) ?hd (cs := #[.slice A0_0 l0_0.length c0_0, .int .i64 a0_1, .int .i64 a0_2, .slice A0_3 l0_3.length c0_3, .slice A0_4 l0_4.length c0_4]) (t := 58) ?hr ?_; (case hd => rfl); (case hg => rfl); (case hr => first | (go_simp; done) | (go_simp; rfl)); intro gb893 hg w16 hbox hb; have n0_ := xA.mk (xE qa hb); have n1_ := xA.mk (hbox); have n2_ := xA.mk ((by rw [hg]; exact (xC qa) : w.heap.size ≤ gb893)); have n3_ := xA.mk ((by rw [hg]; exact (xC qa) : w.heap.size ≤ gb893)); clear HB; have HB := n0_; have BK893 := n1_; have GW893 := n2_; have GE893 := n3_; clear n0_ n1_ n2_ n3_; clear hb hbox hg; have p894 : 0 ≤ ((ji4) : Int) := qr; have q894 : (ji4) < (l1.length : Int) := qr; obtain ⟨ad894, e894, hx894_0⟩ := Kd.xX HR1.out (ji4) p894 q894; cases e894; replace hx894_0 := (HB.out.cell (World.block_lt_of_cell? w _ hx894_0)).trans hx894_0; replace p894 := eq_true p894; replace q894 := eq_true q894))
      have n0_ := xA.mk (xI BK893.out)
      have n1_ := xA.mk (xP HB.out)
      clear BK893
      clear HB
      have BK893 := n0_
      have HB := n1_
      clear n0_ n1_
      have p895 : 0 ≤ (0 : Int) := jj
      have q895 : 0 < (l1.length : Int) := qr
      obtain ⟨ad895, e895, hx895_0⟩ := Kd.xX HR1.out 0 p895 q895
      have hw895_0 := hx895_0
      (try rw [show ((0 : Int)).toNat = 0 from rfl] at hw895_0)
      (try rw [show 0 * 1 = 0 from rfl] at hw895_0)
      (try rw [Addr.add_zero'] at hw895_0)
      obtain rfl : ad894 = ad895 := (by injection e895)
      have qi895 : (0 < l1.length) = True := eq_true jj
      (try rw [show ((0 : Int)).toNat = 0 from rfl] at hx895_0)
      (try rw [Addr.add_zero'] at hx895_0)
      replace hx895_0 := (HB.out.cell (World.block_lt_of_cell? w _ hx895_0)).trans hx895_0
      replace p895 := eq_true p895
      replace q895 := eq_true q895
      refine start_ (n := 6) (S := fun w' => w'.cell? ⟨gb893, 0, none⟩ = some (.slice A0_0 l0_0.length c0_0) ∧ w'.cell? ⟨gb893, 1, none⟩ = some (.int .i64 a0_1) ∧ w'.cell? ⟨gb893, 2, none⟩ = some (.int .i64 a0_2) ∧ w'.cell? ⟨gb893, 3, none⟩ = some (.slice A0_3 l0_3.length c0_3) ∧ w'.cell? ⟨gb893, 4, none⟩ = some (.slice A0_4 l0_4.length c0_4) ∧ w'.cell? ad894 = some (.int .i64 (rd l1 0))) (ds := []) (jl 6 0) jk rfl rfl ⟨(xB BK893.out 0).trans rfl, (xB BK893.out 1).trans rfl, (xB BK893.out 2).trans rfl, (xB BK893.out 3).trans rfl, (xB BK893.out 4).trans rfl, ((HB.out.cell (World.block_lt_of_cell? w _ hw895_0)).trans hw895_0)⟩ (fun hHeld => ?_)
      generalize w16.drew = w17 at BK893 HB hx895_0 hHeld ⊢
      refine pure_ (i := 1) (N := some 21) (v := ?_) (a' := ?_) (jl 6 2) rfl rfl jk (fun _ _ _ h => h) (Or.inl ⟨by rfl, ?_⟩) ?_ ?_
      rotate_left
      ·
       intro w'
       go_simp
       with_reducible rfl
      rotate_left
      ·
       simp only [Act.put, qy, qz, ja, i64_w, i32_w]
       rfl
      refine pure_ (i := 2) (N := some 22) (v := ?_) (a' := ?_) (jl 6 6) rfl rfl jk (fun _ _ _ h => h) (Or.inl ⟨by rfl, ?_⟩) ?_ ?_
      rotate_left
      ·
       intro w'
       go_simp
       with_reducible rfl
      rotate_left
      ·
       simp only [Act.put, qy, qz, ja, i64_w, i32_w]
       rfl
      refine pure_ (i := 4) (N := some 24) (v := ?_) (a' := ?_) (jl 6 22) rfl rfl jk (fun _ _ _ h => h) (Or.inl ⟨by rfl, ?_⟩) ?_ ?_
      rotate_left
      ·
       intro w'
       go_simp
       with_reducible rfl
      rotate_left
      ·
       simp only [Act.put, qy, qz, ja, i64_w, i32_w]
       rfl
      refine take_ (i := 0) (N := some 20) (v := ?_) (a' := ?_) (jl 6 23) rfl rfl jk (fun _ _ _ h => h) (Or.inl ⟨by rfl, ?_⟩) hHeld ?_ ?_
      rotate_left
      ·
       rintro w' ⟨s0, s1, s2, s3, s4, s5⟩
       go_simp
       with_reducible rfl
      rotate_left
      ·
       simp only [Act.put, qy, qz, ja, i64_w, i32_w]
       rfl
      refine take_ (i := 3) (N := some 23) (v := ?_) (a' := ?_) (jl 6 31) rfl rfl jk (fun _ _ _ h => h) (Or.inl ⟨by rfl, ?_⟩) hHeld ?_ ?_
      rotate_left
      ·
       rintro w' ⟨s0, s1, s2, s3, s4, s5⟩
       go_simp
       with_reducible rfl
      rotate_left
      ·
       simp only [Act.put, qy, qz, ja, i64_w, i32_w]
       rfl
      refine one_ (i := 5) (N := some 25) (jl 6 63) rfl rfl jk (by decide) (fun K hK => ?_)
      with_reducible refine goes_ (f := 84) (fn := Try.f84) (as0 := #[.tmp 20, .tmp 23, .tmp 24]) (ts := #[58, 3, 3]) ?z2_1 ?z2_2 ?z2_3 #[.agg #[.slice A0_0 l0_0.length c0_0, .int .i64 a0_1, .int .i64 a0_2, .slice A0_3 l0_3.length c0_3, .slice A0_4 l0_4.length c0_4], .int .i64 (rd l1 0), .int .i64 (rd l1 (ji4))] ?z2_4 ?z2_5 ?z2_6 ?z2_7 ?z2_8
      (case z2_1 => exact Try.func84)
      (case z2_2 => kernel_rfl)
      (case z2_3 => kernel_rfl)
      (case z2_4 => rfl)
      (case z2_5 => rfl)
      (case z2_6 => rfl)
      (case z2_7 => (try simp only [jb, jc, jd]); first | done | (simp only [hji4]; rfl) | rfl | (simp only [jf, je]; rfl))
      with_reducible refine (llcritical.calls _ _ l0_0 a0_1 a0_2 _ _ l0_3 _ _ l0_4 (rd l1 0) (rd l1 (ji4)) false _ ?side1 ?side2 ?side3 ?side4 ?side5 ?side6 A9.out).mono ?_
      (case side1 => exact qm (Kd.xR HR0_0.out HB.out))
      (case side2 => exact HC0_0.out)
      (case side3 => exact qm (Kd.xR HR0_3.out HB.out))
      (case side4 => exact HC0_3.out)
      (case side5 => exact qm (Kd.xR HR0_4.out HB.out))
      (case side6 => exact HC0_4.out)
      rintro e w18 ⟨rfl, hb⟩
      refine ⟨_, rfl, ?_⟩
      have n0_ := xA.mk (xN (g := gb893) (o := .cells #[.slice A0_0 l0_0.length c0_0, .int .i64 a0_1, .int .i64 a0_2, .slice A0_3 l0_3.length c0_3, .slice A0_4 l0_4.length c0_4] 58 (0, 0)) (qn BK893.out) hb)
      have n1_ := xA.mk (xE (qo GE893.out) hb)
      clear BK893
      clear HB
      have BK893 := n0_
      have HB := n1_
      clear n0_ n1_
      (try clear hb)
      (try clear hb2)
      (try clear hk)
      (try clear hi)
      refine hK.out _ _ ⟨(xB BK893.out 0).trans rfl, (xB BK893.out 1).trans rfl, (xB BK893.out 2).trans rfl, (xB BK893.out 3).trans rfl, (xB BK893.out 4).trans rfl, ((HB.out.cell (World.block_lt_of_cell? w _ hw895_0)).trans hw895_0)⟩ (fun hHeld => ?_)
      clear hK K
      refine norm_ (a' := ?_) ?_ ?_
      rotate_left
      ·
       show Act.put _ (some 25) _ = _
       simp only [Act.put, qy, qz, ja, i64_w, i32_w]
       rfl
      refine done_ jk ?_
      try go_wp2
      go_ret
      exact ⟨_, by first | rfl | (simp [errW_none, errW_some] <;> rfl) | (simp only [← hji4]; first | rfl | (simp [errW_none, errW_some] <;> rfl)) | (simp [*, errW_none, errW_some] <;> rfl), by first | exact Kd.R_nil _ _ _ _ _ | exact Kd.N_nil _ _ _ _ _ | exact Kd.V_nil _ _ _ _ _ | exact Kd.Q_nil _ _ _ _ _ | exact Kd.S_nil _ _ _ _ _, (by first | exact (fun _ => rfl) | rfl | simp), Kd.Still.step HI.out (qo GE893.out)⟩
    ·
     rw [if_neg c8] at H
     exact absurd H (by simp)
   ·
    rw [if_neg c7] at H
    have c7b0 : ((l1.length : Int) == a2) = false := jg c7
    have c7b1 : ((l1.length : Int) != a2) = true := bne_iff_ne.mpr c7
    have H' := xA.mk H
    clear H
    go_enter Try.func75, Try.ntmps75
    go_wp2_with (first | ((with_reducible refine xW (N := 3) rfl ?_); refine xY ?hg (N := 3) ?hd (cs := #[.slice A0_0 l0_0.length c0_0, .int .i64 a0_1, .int .i64 a0_2, .slice A0_3 l0_3.length c0_3, .slice A0_4 l0_4.length c0_4]) (t := 58) ?hr ?_; (case hd => rfl); (case hg => rfl); (case hr => first | (go_simp; done) | (go_simp; rfl)); intro gb893 hg w19 hbox hb; have n0_ := xA.mk (xE qa hb); have n1_ := xA.mk (hbox); have n2_ := xA.mk ((by rw [hg]; exact (xC qa) : w.heap.size ≤ gb893)); have n3_ := xA.mk ((by rw [hg]; exact (xC qa) : w.heap.size ≤ gb893)); clear HB; have HB := n0_; have BK893 := n1_; have GW893 := n2_; have GE893 := n3_; clear n0_ n1_ n2_ n3_; clear hb hbox hg; have p894 : 0 ≤ ((ji4) : Int) := qr; have q894 : (ji4) < (l1.length : Int) := qr; obtain ⟨ad894, e894, hx894_0⟩ := Kd.xX HR1.out (ji4) p894 q894; cases e894; replace hx894_0 := (HB.out.cell (World.block_lt_of_cell? w _ hx894_0)).trans hx894_0; replace p894 := eq_true p894; replace q894 := eq_true q894; have hcz20_0 : w19.cell? ⟨gb893, 0, none⟩ = some (.slice A0_0 l0_0.length c0_0) := (xB BK893.out 0).trans rfl; have hcz20_1 : w19.cell? ⟨gb893, 1, none⟩ = some (.int .i64 a0_1) := (xB BK893.out 1).trans rfl; have hcz20_2 : w19.cell? ⟨gb893, 2, none⟩ = some (.int .i64 a0_2) := (xB BK893.out 2).trans rfl; have hcz20_3 : w19.cell? ⟨gb893, 3, none⟩ = some (.slice A0_3 l0_3.length c0_3) := (xB BK893.out 3).trans rfl; have hcz20_4 : w19.cell? ⟨gb893, 4, none⟩ = some (.slice A0_4 l0_4.length c0_4) := (xB BK893.out 4).trans rfl; have hfz20_0 := xD BK893.out 0; have hfz20_1 := xD BK893.out 1; have hfz20_2 := xD BK893.out 2; have hfz20_3 := xD BK893.out 3; have hfz20_4 := xD BK893.out 4))
    go_loopg [31] k (fun kq v31 w' => ∃ (x31_1 : Int), v31 = .int .i64 x31_1 ∧ xA (llcycle.l0 kq l1 a2 (rd l1 (ji4)) (l0_3.length : Int) x31_1 l0_0 a0_1 a0_2 l0_3 l0_4 = some r) ∧ xA (kq ≤ k) ∧ xA (w'.heap[gb893]? = some (.cells #[(.slice A0_0 l0_0.length c0_0), .int .i64 a0_1, .int .i64 a0_2, (.slice A0_3 l0_3.length c0_3), (.slice A0_4 l0_4.length c0_4)] 58 (0, 0))) ∧ xA (Kd.Still w0 w (.slice (some ad894) l1.length c1) l1 w'))
    case atStart => exact ⟨(0), qf, H', ⟨Nat.le_refl _⟩, ⟨qn BK893.out⟩, ⟨Kd.Still.step HI.out (qo GE893.out)⟩⟩
    case round =>
     clear H'
     try clear c1
     try clear p2
     try clear c5
     try clear c5b0
     try clear c6
     try clear c6b0
     try clear p6
     try clear c7
     try clear c7b0
     try clear c7b1
     try clear c8
     try clear c8b0
     try clear c8b1
     try clear p8
     try clear q8
     try clear hx8
     try clear qi8
     try clear c9
     try clear c10
     try clear hcz20_0
     try clear hcz20_1
     try clear hcz20_2
     try clear hcz20_3
     try clear hcz20_4
     try clear hfz20_0
     try clear hfz20_1
     try clear hfz20_2
     try clear hfz20_3
     try clear hfz20_4
     try clear hx894_0
     try clear hx895_0
     try clear p894
     try clear p895
     try clear q894
     try clear q895
     obtain ⟨x31_1, rfl, HA, HK1, BK893, HI⟩ := hrel
     have HR0_0 := xA.mk (Kd.xR HW0_0.out HI.out.1)
     have HR0_3 := xA.mk (Kd.xR HW0_3.out HI.out.1)
     have HR0_4 := xA.mk (Kd.xR HW0_4.out HI.out.1)
     have HR1 := xA.mk (Kd.yA HI.out.2.2).2.2
     have HC1 := xA.mk (Kd.yA HI.out.2.2).2.1
     have HB := xA.mk (Below.refl wr.heap.size wr)
     cases gk with
     | zero => exact absurd HA.out (by simp [llcycle.l0])
     | succ k1 =>
      have H := HA.out
      clear HA
      simp only [llcycle.l0] at H
      by_cases c21 : x31_1 < (l0_3.length : Int)
      ·
       rw [if_pos c21] at H
       have c21b0 : decide (x31_1 < (l0_3.length : Int)) = true := qu c21
       clear c21
       have HC22 := xA.mk H
       clear H
       go_upto_region 9 with (fail)
       go_cut [43] (fun v43 wc => ∃ (kq : Nat) (x43_21 : Bool), v43 = .bool x43_21 ∧ xA (llcycle.j1 kq l1 a2 (rd l1 (ji4)) x31_1 (l0_3.length : Int) x31_1 x43_21 l0_0 a0_1 a0_2 l0_3 l0_4 = some r) ∧ xA (kq ≤ k1) ∧ xA (wc.heap[gb893]? = some (.cells #[(.slice A0_0 l0_0.length c0_0), .int .i64 a0_1, .int .i64 a0_2, (.slice A0_3 l0_3.length c0_3), (.slice A0_4 l0_4.length c0_4)] 58 (0, 0))) ∧ xA (Below wr.heap.size wr wc))
       case first =>
        have H := HC22.out
        clear HC22
        replace H := qw H
        obtain ⟨t900, A230, H⟩ := H
        replace H : (if t900 = true then (llcycle.j1 k1 l1 a2 (rd l1 (ji4)) x31_1 (l0_3.length : Int) x31_1 true l0_0 a0_1 a0_2 l0_3 l0_4) else ((llcritical.f l0_0 a0_1 a0_2 l0_3 l0_4 x31_1 (rd l1 (ji4))).bind fun t901 => (llcycle.j1 k1 l1 a2 (rd l1 (ji4)) x31_1 (l0_3.length : Int) x31_1 (!t901) l0_0 a0_1 a0_2 l0_3 l0_4))) = some r := H
        have A23 := xA.mk A230
        clear A230
        by_cases c24 : t900 = true
        ·
         subst c24
         have H1 : (llcycle.j1 k1 l1 a2 (rd l1 (ji4)) x31_1 (l0_3.length : Int) x31_1 true l0_0 a0_1 a0_2 l0_3 l0_4) = some r := by rw [if_pos rfl] at H; exact H
         clear H
         have H := H1
         clear H1
         have H' := xA.mk H
         clear H
         go_wp2_with (first | ((with_reducible refine xF (f := 82) rfl ?_); refine xM (some 36) rfl rfl Try.func82 jk rfl #[.slice (some ad894) l1.length c1, .int .i64 x31_1] rfl qc ?_; (with_reducible refine (slices_Contains_int_int.calls k1 _ _ l1 x31_1 true _ ?side1 ?side2 A23.out).mono ?_); (case side1 => exact qm (Kd.xR HR1.out HB.out)); (case side2 => exact HC1.out); rintro e w' ⟨rfl, ⟨nd, rfl⟩⟩; refine ⟨_, rfl, ?_⟩))
         go_meet
         case rel => exact ⟨_, (true), qf, H', ⟨by have := HK1.out; first | omega | exact Nat.le_refl _⟩, ⟨qn BK893.out⟩, ⟨qo GE893.out⟩⟩
        ·
         replace c24 := Bool.eq_false_iff.mpr c24
         subst c24
         have H1 : ((llcritical.f l0_0 a0_1 a0_2 l0_3 l0_4 x31_1 (rd l1 (ji4))).bind fun t901 => (llcycle.j1 k1 l1 a2 (rd l1 (ji4)) x31_1 (l0_3.length : Int) x31_1 (!t901) l0_0 a0_1 a0_2 l0_3 l0_4)) = some r := by rw [if_neg (show ¬ (false = true) by decide)] at H; exact H
         clear H
         have H := H1
         clear H1
         replace H := qw H
         obtain ⟨t901, A250, H⟩ := H
         replace H : (llcycle.j1 k1 l1 a2 (rd l1 (ji4)) x31_1 (l0_3.length : Int) x31_1 (!t901) l0_0 a0_1 a0_2 l0_3 l0_4) = some r := H
         have A25 := xA.mk A250
         clear A250
         have H' := xA.mk H
         clear H
         go_wp2_with (first | ((with_reducible refine xF (f := 82) rfl ?_); refine xM (some 36) rfl rfl Try.func82 jk rfl #[.slice (some ad894) l1.length c1, .int .i64 x31_1] rfl qc ?_; (with_reducible refine (slices_Contains_int_int.calls k1 _ _ l1 x31_1 false _ ?side1 ?side2 A23.out).mono ?_); (case side1 => exact qm (Kd.xR HR1.out HB.out)); (case side2 => exact HC1.out); rintro e w' ⟨rfl, ⟨nd, rfl⟩⟩; refine ⟨_, rfl, ?_⟩; have hcz26_0 : wr.cell? ⟨gb893, 0, none⟩ = some (.slice A0_0 l0_0.length c0_0) := (xB BK893.out 0).trans rfl; have hcz26_1 : wr.cell? ⟨gb893, 1, none⟩ = some (.int .i64 a0_1) := (xB BK893.out 1).trans rfl; have hcz26_2 : wr.cell? ⟨gb893, 2, none⟩ = some (.int .i64 a0_2) := (xB BK893.out 2).trans rfl; have hcz26_3 : wr.cell? ⟨gb893, 3, none⟩ = some (.slice A0_3 l0_3.length c0_3) := (xB BK893.out 3).trans rfl; have hcz26_4 : wr.cell? ⟨gb893, 4, none⟩ = some (.slice A0_4 l0_4.length c0_4) := (xB BK893.out 4).trans rfl; have hfz26_0 := xD BK893.out 0; have hfz26_1 := xD BK893.out 1; have hfz26_2 := xD BK893.out 2; have hfz26_3 := xD BK893.out 3; have hfz26_4 := xD BK893.out 4) | (go_at_call 84; (with_reducible refine (llcritical.calls _ _ l0_0 a0_1 a0_2 _ _ l0_3 _ _ l0_4 x31_1 (rd l1 (ji4)) t901 _ ?side1 ?side2 ?side3 ?side4 ?side5 ?side6 A25.out).mono ?_); (case side1 => repeat (first | exact (Kd.xR HR0_0.out (qo GE893.out)) | (with_reducible refine Kd.C_alloc ?_ _) | (with_reducible refine Kd.C_drewN ?_ _) | (with_reducible refine Kd.C_drew ?_))); (case side2 => exact HC0_0.out); (case side3 => repeat (first | exact (Kd.xR HR0_3.out (qo GE893.out)) | (with_reducible refine Kd.C_alloc ?_ _) | (with_reducible refine Kd.C_drewN ?_ _) | (with_reducible refine Kd.C_drew ?_))); (case side4 => exact HC0_3.out); (case side5 => repeat (first | exact (Kd.xR HR0_4.out (qo GE893.out)) | (with_reducible refine Kd.C_alloc ?_ _) | (with_reducible refine Kd.C_drewN ?_ _) | (with_reducible refine Kd.C_drew ?_))); (case side6 => exact HC0_4.out); rintro e w27 ⟨rfl, hb⟩; replace BK893 := xA.mk (xN (g := gb893) (o := .cells #[.slice A0_0 l0_0.length c0_0, .int .i64 a0_1, .int .i64 a0_2, .slice A0_3 l0_3.length c0_3, .slice A0_4 l0_4.length c0_4] 58 (0, 0)) (qn BK893.out) hb); replace HB := xA.mk (xE (qo GE893.out) hb); (try clear hb); (try clear hb2); (try clear hk); (try clear hi)))
         go_meet
         case rel => exact ⟨_, (!t901), qf, H', ⟨by have := HK1.out; first | omega | exact Nat.le_refl _⟩, ⟨qn BK893.out⟩, ⟨qo GE893.out⟩⟩
       case rest =>
        clear HC22
        try clear c1
        try clear c2
        try clear p2
        try clear c5
        try clear c5b0
        try clear c6
        try clear c6b0
        try clear p6
        try clear c7
        try clear c7b0
        try clear c7b1
        try clear c8
        try clear c8b0
        try clear c8b1
        try clear p8
        try clear q8
        try clear hx8
        try clear qi8
        try clear c9
        try clear c10
        try clear c21
        try clear c21b0
        try clear c24
        try clear hcz20_0
        try clear hcz20_1
        try clear hcz20_2
        try clear hcz20_3
        try clear hcz20_4
        try clear hcz26_0
        try clear hcz26_1
        try clear hcz26_2
        try clear hcz26_3
        try clear hcz26_4
        try clear hfz20_0
        try clear hfz20_1
        try clear hfz20_2
        try clear hfz20_3
        try clear hfz20_4
        try clear hfz26_0
        try clear hfz26_1
        try clear hfz26_2
        try clear hfz26_3
        try clear hfz26_4
        try clear hx894_0
        try clear hx895_0
        try clear p2
        try clear p6
        try clear p8
        try clear p894
        try clear p895
        try clear q8
        try clear q894
        try clear q895
        obtain ⟨kq, x43_21, rfl, HA, HJ21, BK893, HB⟩ := hcut
        cases kq with
        | zero => exact absurd HA.out (by simp [llcycle.j1])
        | succ kj21 =>
         have H := HA.out
         clear HA
         simp only [llcycle.j1] at H
         by_cases c28 : x43_21 = true
         ·
          subst c28
          have H1 : (llcycle.l0 kj21 l1 a2 (rd l1 (ji4)) (l0_3.length : Int) (wrap64 (x31_1 + 1)) l0_0 a0_1 a0_2 l0_3 l0_4) = some r := by rw [if_pos rfl] at H; exact H
          clear H
          have H := H1
          clear H1
          have H' := xA.mk H
          clear H
          go_wp2
          go_roundg kj21
          case measure => have := HK1.out; have := HJ21.out; omega
          case rel => exact ⟨(wrap64 (x31_1 + 1)), qf, H', ⟨by have := HK1.out; have := HJ21.out; omega⟩, ⟨qn BK893.out⟩, ⟨Kd.Still.step HI.out (qo GE893.out)⟩⟩
         ·
          replace c28 := Bool.eq_false_iff.mpr c28
          subst c28
          have H1 : ((slices_Clone_int_int.f l1).bind fun t902 => (if t902.length < 17592186044416 then ((llcycle.f kj21 l0_0 a0_1 a0_2 l0_3 l0_4 (t902 ++ [x31_1]) a2).bind fun t908 => (if (t908.length : Int) = 0 then (llcycle.l0 kj21 l1 a2 (rd l1 (ji4)) (l0_3.length : Int) (wrap64 (x31_1 + 1)) l0_0 a0_1 a0_2 l0_3 l0_4) else (some t908))) else (none))) = some r := by rw [if_neg (show ¬ (false = true) by decide)] at H; exact H
          clear H
          have H := H1
          clear H1
          replace H := qw H
          obtain ⟨t902, A290, H⟩ := H
          replace H : (if t902.length < 17592186044416 then ((llcycle.f kj21 l0_0 a0_1 a0_2 l0_3 l0_4 (t902 ++ [x31_1]) a2).bind fun t908 => (if (t908.length : Int) = 0 then (llcycle.l0 kj21 l1 a2 (rd l1 (ji4)) (l0_3.length : Int) (wrap64 (x31_1 + 1)) l0_0 a0_1 a0_2 l0_3 l0_4) else (some t908))) else (none)) = some r := H
          have e902_ := llcycle.clone A290
          clear A290
          subst e902_
          by_cases c30 : l1.length < 17592186044416
          ·
           rw [if_pos c30] at H
           have LMc30 := xA.mk c30
           clear c30
           obtain ⟨y905, hy905⟩ : ∃ y_ : List Int, y_ = (l1 ++ [x31_1]) := ⟨_, rfl⟩
           replace H : ((llcycle.f kj21 l0_0 a0_1 a0_2 l0_3 l0_4 y905 a2).bind fun t908 => (if (t908.length : Int) = 0 then (llcycle.l0 kj21 l1 a2 (rd l1 (ji4)) (l0_3.length : Int) (wrap64 (x31_1 + 1)) l0_0 a0_1 a0_2 l0_3 l0_4) else (some t908))) = some r := by first | (rw [hy905]; with_reducible exact H) | (have H2_ := (Option.bind_some _ _).symm.trans H; rw [hy905]; with_reducible exact H2_) | (have H2_ := (Option.bind_some _ _).symm.trans H; with_reducible exact H2_) | with_reducible exact H | (rw [hy905]; exact H) | exact H
           have Ny905 := xA.mk hy905
           clear hy905
           replace H := qw H
           obtain ⟨t908, A310, H⟩ := H
           replace H : (if (t908.length : Int) = 0 then (llcycle.l0 kj21 l1 a2 (rd l1 (ji4)) (l0_3.length : Int) (wrap64 (x31_1 + 1)) l0_0 a0_1 a0_2 l0_3 l0_4) else (some t908)) = some r := H
           have A31 := xA.mk A310
           clear A310
           by_cases c32 : (t908.length : Int) = 0
           ·
            rw [if_pos c32] at H
            have c32b0 : ((t908.length : Int) == 0) = true := beq_iff_eq.mpr c32
            have c32b1 : ((t908.length : Int) != 0) = false := bne_eq_false_iff_eq.mpr c32
            clear c32
            have H' := xA.mk H
            clear H
            try go_wp2
            have HO904 := xA.mk (Kd.R_below HI.out.2.2 HB.out)
            have n0_ := xA.mk (Kd.R_drew HO904.out)
            have n1_ := xA.mk (xI BK893.out)
            have n2_ := xA.mk (xP HB.out)
            clear HO904
            clear BK893
            clear HB
            have HO904 := n0_
            have BK893 := n1_
            have HB := n2_
            clear n0_ n1_ n2_
            refine start_ (n := 8) (S := fun w' => w'.cell? ⟨gb893, 0, none⟩ = some (.slice A0_0 l0_0.length c0_0) ∧ w'.cell? ⟨gb893, 1, none⟩ = some (.int .i64 a0_1) ∧ w'.cell? ⟨gb893, 2, none⟩ = some (.int .i64 a0_2) ∧ w'.cell? ⟨gb893, 3, none⟩ = some (.slice A0_3 l0_3.length c0_3) ∧ w'.cell? ⟨gb893, 4, none⟩ = some (.slice A0_4 l0_4.length c0_4)) (ds := []) (jl 8 0) jk rfl rfl ⟨(xB BK893.out 0).trans rfl, (xB BK893.out 1).trans rfl, (xB BK893.out 2).trans rfl, (xB BK893.out 3).trans rfl, (xB BK893.out 4).trans rfl⟩ (fun hHeld => ?_); refine with_tabW llcycle.tab10 llcycle.bits10 (fun HT_ HW_ => ?_)
            generalize wc.drew = w34 at HO904 BK893 HB hHeld ⊢
            refine pure_ (i := 1) (N := some 45) (v := ?_) (a' := ?_) (jl 8 2) rfl rfl (xQ HT_.out jk) (fun _ _ _ h => h) (Or.inl ⟨by rfl, ?_⟩) ?_ ?_
            rotate_left
            ·
             intro w'
             go_simp
             with_reducible rfl
            rotate_left
            ·
             simp only [Act.put, qy, qz, ja, i64_w, i32_w]
             rfl
            refine pure_ (i := 2) (N := some 46) (v := ?_) (a' := ?_) (jl 8 6) rfl rfl (xQ HT_.out jk) (fun _ _ _ h => h) (Or.inl ⟨by rfl, ?_⟩) ?_ ?_
            rotate_left
            ·
             intro w'
             go_simp
             with_reducible rfl
            rotate_left
            ·
             simp only [Act.put, qy, qz, ja, i64_w, i32_w]
             rfl
            refine pure_ (i := 5) (N := some 49) (v := ?_) (a' := ?_) (jl 8 38) rfl rfl (xQ HT_.out jk) (fun _ _ _ h => h) (Or.inl ⟨by rfl, ?_⟩) ?_ ?_
            rotate_left
            ·
             intro w'
             go_simp
             with_reducible rfl
            rotate_left
            ·
             simp only [Act.put, qy, qz, ja, i64_w, i32_w]
             rfl
            refine take_ (i := 0) (N := some 44) (v := ?_) (a' := ?_) (jl 8 39) rfl rfl (take_ofW HT_.out HW_.out jk) (fun _ _ _ h => h) (Or.inl ⟨by rfl, ?_⟩) hHeld ?_ ?_
            rotate_left
            ·
             rintro w' ⟨s0, s1, s2, s3, s4⟩
             go_simp
             with_reducible rfl
            rotate_left
            ·
             simp only [Act.put, qy, qz, ja, i64_w, i32_w]
             rfl
            refine one_ (i := 3) (N := some 47) (jl 8 47) rfl rfl (one_of HT_.out jk) (by decide) (fun K hK => ?_)
            with_reducible refine value_ (w1 := ?z5_w) (v := ?z5_v) ?z5_a ?z5_b ?z5_c ?z5_d
            (case z5_a => rfl)
            (case z5_b => rfl)
            case z5_c =>
             go_simp
             constructor
             ·
              rfl
             ·
              rfl
            refine hK.out _ _ ⟨(xB (xH BK893.out _) 0).trans rfl, (xB (xH BK893.out _) 1).trans rfl, (xB (xH BK893.out _) 2).trans rfl, (xB (xH BK893.out _) 3).trans rfl, (xB (xH BK893.out _) 4).trans rfl⟩ (fun hHeld => ?_)
            clear hK K
            refine norm_ (a' := ?_) ?_ ?_
            rotate_left
            ·
             show Act.put _ (some 47) _ = _
             simp only [Act.put, qy, qz, ja, i64_w, i32_w]
             rfl
            refine one_ (i := 4) (N := some 48) (jl 8 63) rfl rfl (one_of HT_.out jk) (by decide) (fun K hK => ?_)
            refine Kd.R_append_keep (w0 := w0) w0.heap.size (by rfl) (.tmp 45) (.tmp 47) 26 3 (.int .i64 0) 8 rfl Try.underlying26 info3 rfl (by decide) jj (.slice (some ad894) l1.length c1) l1 x31_1 [.int .i64 x31_1] rfl rfl ?aP ?aO ?aB ?aS ?aL ?_
            (case aP => exact rfl)
            (case aB => exact (Kd.Still.step HI.out (qo GE893.out)).1)
            (case aO => exact (qi HO904.out))
            (case aS => exact (xC (Kd.Still.step HI.out (qo GE893.out)).1))
            (case aL => have := LMc30.out; omega)
            intro v906 w35 ho hb hg hat hkp
            have HBK := xA.mk (fun w2_ (h2_ : Kd.Still w0 w35 v906 (l1 ++ [x31_1]) w2_) => Kd.Still.back (Kd.Still.step HI.out (qo GE893.out)) ho hg hat hkp h2_)
            rw [← Ny905.out] at ho HBK
            have n0_ := xA.mk (blk_grown (g := gb893) (o := .cells #[.slice A0_0 l0_0.length c0_0, .int .i64 a0_1, .int .i64 a0_2, .slice A0_3 l0_3.length c0_3, .slice A0_4 l0_4.length c0_4] 58 (0, 0)) (qn BK893.out) hg (Kd.R_ne HO904.out BK893.out (by decide)))
            have n1_ := xA.mk (hb)
            have n2_ := xA.mk (ho)
            clear BK893
            clear HB
            clear HO904
            have BK893 := n0_
            have HB := n1_
            have HO907 := n2_
            clear n0_ n1_ n2_
            clear ho hb hg hat hkp
            have HR0_0 := HW0_0
            have HR0_3 := HW0_3
            have HR0_4 := HW0_4
            obtain ⟨Ao36, co36, eo36⟩ := Kd.R_slice HO907.out
            (first | subst eo36 | (injection eo36 with f1_ f2_ f3_; have f4_ := f1_.symm; have f5_ := f3_.symm; clear f1_ f2_ f3_; subst f4_; subst f5_))
            refine hK.out _ _ ⟨(xB BK893.out 0).trans rfl, (xB BK893.out 1).trans rfl, (xB BK893.out 2).trans rfl, (xB BK893.out 3).trans rfl, (xB BK893.out 4).trans rfl⟩ (fun hHeld => ?_)
            clear hK K
            refine norm_ (a' := ?_) ?_ ?_
            rotate_left
            ·
             show Act.put _ (some 48) _ = _
             simp only [Act.put, qy, qz, ja, i64_w, i32_w]
             rfl
            refine one_ (i := 6) (N := some 50) (jl 8 127) rfl rfl (one_of HT_.out jk) (by decide) (fun K hK => ?_)
            with_reducible refine goes_ (f := 75) (fn := Try.f75) (as0 := #[.tmp 44, .tmp 48, .tmp 49]) (ts := #[58, 26, 3]) ?z3_1 ?z3_2 ?z3_3 #[.agg #[.slice A0_0 l0_0.length c0_0, .int .i64 a0_1, .int .i64 a0_2, .slice A0_3 l0_3.length c0_3, .slice A0_4 l0_4.length c0_4], .slice Ao36 y905.length co36, .int .i64 a2] ?z3_4 ?z3_5 ?z3_6 ?z3_7 ?z3_8
            (case z3_1 => exact Try.func75)
            (case z3_2 => kernel_rfl)
            (case z3_3 => kernel_rfl)
            (case z3_4 => rfl)
            (case z3_5 => rfl)
            (case z3_6 => rfl)
            (case z3_7 => (try simp only [jb, jc, jd]); first | done | rfl | (simp only [jf, je]; rfl))
            with_reducible refine (ih kj21 (by have := HK1.out; have := HJ21.out; omega) _ _ l0_0 a0_1 a0_2 _ _ l0_3 _ _ l0_4 _ _ y905 a2 t908 w0 _ ?side0 ?side1 ?side2 ?side3 ?side4 ?side5 ?side6 ?side7 A31.out).mono ?_
            (case side0 => exact HB.out)
            (case side1 => exact HW0_0.out)
            (case side2 => exact HC0_0.out)
            (case side3 => exact HW0_3.out)
            (case side4 => exact HC0_3.out)
            (case side5 => exact HW0_4.out)
            (case side6 => exact HC0_4.out)
            (case side7 => exact HO907.out)
            rintro e w37 ⟨v909, rfl, ho0, hz0, hst⟩
            refine ⟨_, rfl, ?_⟩
            have n0_ := xA.mk (blk_grown (g := gb893) (o := .cells #[.slice A0_0 l0_0.length c0_0, .int .i64 a0_1, .int .i64 a0_2, .slice A0_3 l0_3.length c0_3, .slice A0_4 l0_4.length c0_4] 58 (0, 0)) BK893.out hst.2.1 (Kd.R_ne HO907.out BK893.out (by decide)))
            have HO910 := xA.mk ho0
            have HZ := xA.mk hz0
            have HI := xA.mk (HBK.out _ hst)
            clear HB
            have HB := xA.mk hst.1
            clear BK893 HO907 HBK
            have BK893 := n0_
            clear n0_ ho0 hz0 hst
            refine hK.out _ _ ⟨(xB BK893.out 0).trans rfl, (xB BK893.out 1).trans rfl, (xB BK893.out 2).trans rfl, (xB BK893.out 3).trans rfl, (xB BK893.out 4).trans rfl⟩ (fun hHeld => ?_)
            clear hK K
            refine norm_ (a' := ?_) ?_ ?_
            rotate_left
            ·
             show Act.put _ (some 50) _ = _
             simp only [Act.put, qy, qz, ja, i64_w, i32_w]
             rfl
            refine pure_ (i := 7) (N := some 9) (v := ?_) (a' := ?_) (jl 8 255) rfl rfl (xQ HT_.out jk) (fun _ _ _ h => h) (Or.inl ⟨by rfl, ?_⟩) ?_ ?_
            rotate_left
            ·
             intro w'
             go_simp
             with_reducible rfl
            rotate_left
            ·
             simp only [Act.put, qy, qz, ja, i64_w, i32_w]
             rfl
            refine done_ (done_of HT_.out jk) ?_
            obtain ⟨Ao38, co38, eo38⟩ := Kd.R_slice HO910.out
            subst eo38
            have he_ := Kd.R_neq (P := Try.prog) (t := 26) (e' := 3) Try.underlying26 HO910.out HZ.out c32b1
            try go_wp2
            go_roundg kj21
            case measure => have := HK1.out; have := HJ21.out; omega
            case rel => exact ⟨(wrap64 (x31_1 + 1)), qf, H', ⟨by have := HK1.out; have := HJ21.out; omega⟩, ⟨qn BK893.out⟩, ⟨HI.out⟩⟩
           ·
            rw [if_neg c32] at H
            have c32b0 : ((t908.length : Int) == 0) = false := jg c32
            have c32b1 : ((t908.length : Int) != 0) = true := bne_iff_ne.mpr c32
            have c32b2 : ¬ (t908 = []) := fun h_ => c32 (by rw [h_]; rfl)
            obtain rfl := qx H
            try go_wp2
            have HO904 := xA.mk (Kd.R_below HI.out.2.2 HB.out)
            have n0_ := xA.mk (Kd.R_drew HO904.out)
            have n1_ := xA.mk (xI BK893.out)
            have n2_ := xA.mk (xP HB.out)
            clear HO904
            clear BK893
            clear HB
            have HO904 := n0_
            have BK893 := n1_
            have HB := n2_
            clear n0_ n1_ n2_
            refine start_ (n := 8) (S := fun w' => w'.cell? ⟨gb893, 0, none⟩ = some (.slice A0_0 l0_0.length c0_0) ∧ w'.cell? ⟨gb893, 1, none⟩ = some (.int .i64 a0_1) ∧ w'.cell? ⟨gb893, 2, none⟩ = some (.int .i64 a0_2) ∧ w'.cell? ⟨gb893, 3, none⟩ = some (.slice A0_3 l0_3.length c0_3) ∧ w'.cell? ⟨gb893, 4, none⟩ = some (.slice A0_4 l0_4.length c0_4)) (ds := []) (jl 8 0) jk rfl rfl ⟨(xB BK893.out 0).trans rfl, (xB BK893.out 1).trans rfl, (xB BK893.out 2).trans rfl, (xB BK893.out 3).trans rfl, (xB BK893.out 4).trans rfl⟩ (fun hHeld => ?_); refine with_tabW llcycle.tab10 llcycle.bits10 (fun HT_ HW_ => ?_)
            generalize wc.drew = w40 at HO904 BK893 HB hHeld ⊢
            refine pure_ (i := 1) (N := some 45) (v := ?_) (a' := ?_) (jl 8 2) rfl rfl (xQ HT_.out jk) (fun _ _ _ h => h) (Or.inl ⟨by rfl, ?_⟩) ?_ ?_
            rotate_left
            ·
             intro w'
             go_simp
             with_reducible rfl
            rotate_left
            ·
             simp only [Act.put, qy, qz, ja, i64_w, i32_w]
             rfl
            refine pure_ (i := 2) (N := some 46) (v := ?_) (a' := ?_) (jl 8 6) rfl rfl (xQ HT_.out jk) (fun _ _ _ h => h) (Or.inl ⟨by rfl, ?_⟩) ?_ ?_
            rotate_left
            ·
             intro w'
             go_simp
             with_reducible rfl
            rotate_left
            ·
             simp only [Act.put, qy, qz, ja, i64_w, i32_w]
             rfl
            refine pure_ (i := 5) (N := some 49) (v := ?_) (a' := ?_) (jl 8 38) rfl rfl (xQ HT_.out jk) (fun _ _ _ h => h) (Or.inl ⟨by rfl, ?_⟩) ?_ ?_
            rotate_left
            ·
             intro w'
             go_simp
             with_reducible rfl
            rotate_left
            ·
             simp only [Act.put, qy, qz, ja, i64_w, i32_w]
             rfl
            refine take_ (i := 0) (N := some 44) (v := ?_) (a' := ?_) (jl 8 39) rfl rfl (take_ofW HT_.out HW_.out jk) (fun _ _ _ h => h) (Or.inl ⟨by rfl, ?_⟩) hHeld ?_ ?_
            rotate_left
            ·
             rintro w' ⟨s0, s1, s2, s3, s4⟩
             go_simp
             with_reducible rfl
            rotate_left
            ·
             simp only [Act.put, qy, qz, ja, i64_w, i32_w]
             rfl
            refine one_ (i := 3) (N := some 47) (jl 8 47) rfl rfl (one_of HT_.out jk) (by decide) (fun K hK => ?_)
            with_reducible refine value_ (w1 := ?z6_w) (v := ?z6_v) ?z6_a ?z6_b ?z6_c ?z6_d
            (case z6_a => rfl)
            (case z6_b => rfl)
            case z6_c =>
             go_simp
             constructor
             ·
              rfl
             ·
              rfl
            refine hK.out _ _ ⟨(xB (xH BK893.out _) 0).trans rfl, (xB (xH BK893.out _) 1).trans rfl, (xB (xH BK893.out _) 2).trans rfl, (xB (xH BK893.out _) 3).trans rfl, (xB (xH BK893.out _) 4).trans rfl⟩ (fun hHeld => ?_)
            clear hK K
            refine norm_ (a' := ?_) ?_ ?_
            rotate_left
            ·
             show Act.put _ (some 47) _ = _
             simp only [Act.put, qy, qz, ja, i64_w, i32_w]
             rfl
            refine one_ (i := 4) (N := some 48) (jl 8 63) rfl rfl (one_of HT_.out jk) (by decide) (fun K hK => ?_)
            refine Kd.R_append_keep (w0 := w0) w0.heap.size (by rfl) (.tmp 45) (.tmp 47) 26 3 (.int .i64 0) 8 rfl Try.underlying26 info3 rfl (by decide) jj (.slice (some ad894) l1.length c1) l1 x31_1 [.int .i64 x31_1] rfl rfl ?aP ?aO ?aB ?aS ?aL ?_
            (case aP => exact rfl)
            (case aB => exact (Kd.Still.step HI.out (qo GE893.out)).1)
            (case aO => exact (qi HO904.out))
            (case aS => exact (xC (Kd.Still.step HI.out (qo GE893.out)).1))
            (case aL => have := LMc30.out; omega)
            intro v906 w41 ho hb hg hat hkp
            have HBK := xA.mk (fun w2_ (h2_ : Kd.Still w0 w41 v906 (l1 ++ [x31_1]) w2_) => Kd.Still.back (Kd.Still.step HI.out (qo GE893.out)) ho hg hat hkp h2_)
            rw [← Ny905.out] at ho HBK
            have n0_ := xA.mk (blk_grown (g := gb893) (o := .cells #[.slice A0_0 l0_0.length c0_0, .int .i64 a0_1, .int .i64 a0_2, .slice A0_3 l0_3.length c0_3, .slice A0_4 l0_4.length c0_4] 58 (0, 0)) (qn BK893.out) hg (Kd.R_ne HO904.out BK893.out (by decide)))
            have n1_ := xA.mk (hb)
            have n2_ := xA.mk (ho)
            clear BK893
            clear HB
            clear HO904
            have BK893 := n0_
            have HB := n1_
            have HO907 := n2_
            clear n0_ n1_ n2_
            clear ho hb hg hat hkp
            have HR0_0 := HW0_0
            have HR0_3 := HW0_3
            have HR0_4 := HW0_4
            obtain ⟨Ao42, co42, eo42⟩ := Kd.R_slice HO907.out
            (first | subst eo42 | (injection eo42 with f1_ f2_ f3_; have f4_ := f1_.symm; have f5_ := f3_.symm; clear f1_ f2_ f3_; subst f4_; subst f5_))
            refine hK.out _ _ ⟨(xB BK893.out 0).trans rfl, (xB BK893.out 1).trans rfl, (xB BK893.out 2).trans rfl, (xB BK893.out 3).trans rfl, (xB BK893.out 4).trans rfl⟩ (fun hHeld => ?_)
            clear hK K
            refine norm_ (a' := ?_) ?_ ?_
            rotate_left
            ·
             show Act.put _ (some 48) _ = _
             simp only [Act.put, qy, qz, ja, i64_w, i32_w]
             rfl
            refine one_ (i := 6) (N := some 50) (jl 8 127) rfl rfl (one_of HT_.out jk) (by decide) (fun K hK => ?_)
            with_reducible refine goes_ (f := 75) (fn := Try.f75) (as0 := #[.tmp 44, .tmp 48, .tmp 49]) (ts := #[58, 26, 3]) ?z4_1 ?z4_2 ?z4_3 #[.agg #[.slice A0_0 l0_0.length c0_0, .int .i64 a0_1, .int .i64 a0_2, .slice A0_3 l0_3.length c0_3, .slice A0_4 l0_4.length c0_4], .slice Ao42 y905.length co42, .int .i64 a2] ?z4_4 ?z4_5 ?z4_6 ?z4_7 ?z4_8
            (case z4_1 => exact Try.func75)
            (case z4_2 => kernel_rfl)
            (case z4_3 => kernel_rfl)
            (case z4_4 => rfl)
            (case z4_5 => rfl)
            (case z4_6 => rfl)
            (case z4_7 => (try simp only [jb, jc, jd]); first | done | rfl | (simp only [jf, je]; rfl))
            with_reducible refine (ih kj21 (by have := HK1.out; have := HJ21.out; omega) _ _ l0_0 a0_1 a0_2 _ _ l0_3 _ _ l0_4 _ _ y905 a2 t908 w0 _ ?side0 ?side1 ?side2 ?side3 ?side4 ?side5 ?side6 ?side7 A31.out).mono ?_
            (case side0 => exact HB.out)
            (case side1 => exact HW0_0.out)
            (case side2 => exact HC0_0.out)
            (case side3 => exact HW0_3.out)
            (case side4 => exact HC0_3.out)
            (case side5 => exact HW0_4.out)
            (case side6 => exact HC0_4.out)
            (case side7 => exact HO907.out)
            rintro e w43 ⟨v909, rfl, ho0, hz0, hst⟩
            refine ⟨_, rfl, ?_⟩
            have n0_ := xA.mk (blk_grown (g := gb893) (o := .cells #[.slice A0_0 l0_0.length c0_0, .int .i64 a0_1, .int .i64 a0_2, .slice A0_3 l0_3.length c0_3, .slice A0_4 l0_4.length c0_4] 58 (0, 0)) BK893.out hst.2.1 (Kd.R_ne HO907.out BK893.out (by decide)))
            have HO910 := xA.mk ho0
            have HZ := xA.mk hz0
            have HI := xA.mk (HBK.out _ hst)
            clear HB
            have HB := xA.mk hst.1
            clear BK893 HO907 HBK
            have BK893 := n0_
            clear n0_ ho0 hz0 hst
            refine hK.out _ _ ⟨(xB BK893.out 0).trans rfl, (xB BK893.out 1).trans rfl, (xB BK893.out 2).trans rfl, (xB BK893.out 3).trans rfl, (xB BK893.out 4).trans rfl⟩ (fun hHeld => ?_)
            clear hK K
            refine norm_ (a' := ?_) ?_ ?_
            rotate_left
            ·
             show Act.put _ (some 50) _ = _
             simp only [Act.put, qy, qz, ja, i64_w, i32_w]
             rfl
            refine pure_ (i := 7) (N := some 9) (v := ?_) (a' := ?_) (jl 8 255) rfl rfl (xQ HT_.out jk) (fun _ _ _ h => h) (Or.inl ⟨by rfl, ?_⟩) ?_ ?_
            rotate_left
            ·
             intro w'
             go_simp
             with_reducible rfl
            rotate_left
            ·
             simp only [Act.put, qy, qz, ja, i64_w, i32_w]
             rfl
            refine done_ (done_of HT_.out jk) ?_
            obtain ⟨Ao44, co44, eo44⟩ := Kd.R_slice HO910.out
            subst eo44
            have he_ := Kd.R_neq (P := Try.prog) (t := 26) (e' := 3) Try.underlying26 HO910.out HZ.out c32b1
            try go_wp2
            go_ret
            exact ⟨_, by first | rfl | (simp [errW_none, errW_some] <;> rfl) | (simp only [← hji4]; first | rfl | (simp [errW_none, errW_some] <;> rfl)) | (simp [*, errW_none, errW_some] <;> rfl), by (with_reducible repeat (first | apply Kd.R_alloc | apply Kd.R_drewN | apply Kd.R_drew)); exact Kd.R_mono HO910.out (fun _ hk => trivial), (fun h_ => absurd h_ c32b2), HI.out⟩
          ·
           rw [if_neg c30] at H
           exact absurd H (by simp)
      ·
       rw [if_neg c21] at H
       have c21b0 : decide (x31_1 < (l0_3.length : Int)) = false := qv c21
       clear c21
       obtain rfl := qx H
       go_wp2
       go_ret
       exact ⟨_, by first | rfl | (simp [errW_none, errW_some] <;> rfl) | (simp only [← hji4]; first | rfl | (simp [errW_none, errW_some] <;> rfl)) | (simp [*, errW_none, errW_some] <;> rfl), by first | exact Kd.R_nil _ _ _ _ _ | exact Kd.N_nil _ _ _ _ _ | exact Kd.V_nil _ _ _ _ _ | exact Kd.Q_nil _ _ _ _ _ | exact Kd.S_nil _ _ _ _ _, (by first | exact (fun _ => rfl) | rfl | simp), Kd.Still.step HI.out (qo GE893.out)⟩
  ·
   rw [if_neg c6] at H
   exact absurd H (by simp)
 ·
  rw [if_neg c5] at H
  exact absurd H (by simp)
end Go.Proofs.Ythjmfbmffchicaa.V
