/- Walks of functions that the law LineRegimes reaches: each theorem '.calls' says that the call comes to what its printed plain function says, under the conditions that stand in it. -/
import Derived.Test.YthjmfbmffchicaaKGHub
import Derived.Test.YthjmfbmffchicaaKGf0
import Derived.Test.YthjmfbmffchicaaKGf2
namespace Go.Proofs.Ythjmfbmffchicaa.V
open Go.RowKit Go.Proofs.YthjmfbmffchicaaW.PrintWords Go.Proofs.YthjmfbmffchicaaW.PrintLast Go.Proofs.YthjmfbmffchicaaW.PrintMore
attribute [local go_sem] max2_int min2_int max_two min_two max_three min_three max_four min_four
set_option maxHeartbeats 8000000
set_option maxRecDepth 100000
set_option linter.unusedVariables false
set_option linter.unusedSimpArgs false
mutual
def r5less.l0 : Nat → List Int → List Int → Int → Option (Bool)
 | 0, _, _, _ => none
 | k + 1, x0, x1, x5 => if x5 < (x0.length : Int) then (r5less.j1 k x0 x1 x5 (decide (x5 < (x1.length : Int)))) else (r5less.j1 k x0 x1 x5 false)
def r5less.j1 : Nat → List Int → List Int → Int → Bool → Option (Bool)
 | 0, _, _, _, _ => none
 | k + 1, x0, x1, x5, x15 => if x15 = true then (if 0 ≤ x5 then (if x5 < (x0.length : Int) then (if x5 < (x1.length : Int) then (if (rd x0 x5) = (rd x1 x5) then (r5less.l0 k x0 x1 (wrap64 (x5 + 1))) else (some (decide ((rd x0 x5) < (rd x1 x5))))) else (none)) else (none)) else (none)) else (some (decide ((x0.length : Int) < (x1.length : Int))))
end
def r5less.f (k : Nat) (l0 : List Int) (l1 : List Int) : Option (Bool) := r5less.l0 k l0 l1 0
theorem r5less.calls (k : Nat) (A0 : Option Addr) (c0 : Nat) (l0 : List Int) (A1 : Option Addr) (c1 : Nat) (l1 : List Int) (r : Bool) (w : World) (hr0 : Kd.C (Kd.int .i64) w A0 l0.length l0) (hc0 : l0.length ≤ c0) (hr1 : Kd.C (Kd.int .i64) w A1 l1.length l1) (hc1 : l1.length ≤ c1) (h : r5less.f k l0 l1 = some r) :
  Calls Try.prog 94 #[.slice A0 l0.length c0, .slice A1 l1.length c1] w fun e w' => e = .returned (.bool r) ∧ Drawn0 w w' := by
 have HR0 := xA.mk hr0
 have HC0 := xA.mk hc0
 clear hr0 hc0
 have HR1 := xA.mk hr1
 have HC1 := xA.mk hc1
 clear hr1 hc1
 have H : (r5less.l0 k l0 l1 0) = some r := h
 clear h
 have H' := xA.mk H
 clear H
 go_enter Try.func94, Try.ntmps94
 go_wp2
 go_loopg [5] k (fun kq v5 w' => ∃ (x5_1 : Int), v5 = .int .i64 x5_1 ∧ xA (r5less.l0 kq l0 l1 x5_1 = some r) ∧ xA (kq ≤ k) ∧ Drawn0 w w')
 case atStart => exact ⟨(0), rfl, H', ⟨Nat.le_refl _⟩, qe⟩
 case round =>
  clear H'
  obtain ⟨x5_1, rfl, HA, HK1, ⟨m1, rfl⟩⟩ := hrel
  obtain _ | k1 := gk
  · exact absurd HA.out (by simp [r5less.l0])
  have H := HA.out
  clear HA
  simp only [r5less.l0] at H
  have HC3 := xA.mk H
  clear H
  go_upto_region 2 with (fail)
  go_cut [15] (fun v15 wc => ∃ (kq : Nat) (x15_2 : Bool), v15 = .bool x15_2 ∧ xA (r5less.j1 kq l0 l1 x5_1 x15_2 = some r) ∧ xA (kq ≤ k1) ∧ Drawn0 w wc)
  case first =>
   have H := HC3.out
   clear HC3
   obtain ⟨c4b0, H⟩ | ⟨c4b0, H⟩ := yA H
   rotate_left
   ·
    (first | rw [c4b0] | skip)
    have H' := xA.mk H
    clear H
    go_wp2
    go_meet
    case rel => exact ⟨_, (false), rfl, H', ⟨by have := HK1.out; first | omega | exact Nat.le_refl _⟩, qe⟩
   (first | rw [c4b0] | skip)
   have H' := xA.mk H
   clear H
   go_wp2
   go_meet
   case rel => exact ⟨_, (decide (x5_1 < (l1.length : Int))), rfl, H', ⟨by have := HK1.out; first | omega | exact Nat.le_refl _⟩, qe⟩
  case rest =>
   clear HC3
   obtain ⟨kq, x15_2, rfl, HA, HJ2, ⟨mc2, rfl⟩⟩ := hcut
   obtain _ | kj2 := kq
   · exact absurd HA.out (by simp [r5less.j1])
   have H := HA.out
   clear HA
   simp only [r5less.j1] at H
   by_cases c5 : x15_2 = true
   rotate_left
   ·
    replace c5 := Bool.eq_false_iff.mpr c5
    subst c5
    have H1 : (some (decide ((l0.length : Int) < (l1.length : Int)))) = some r := by rw [if_neg (show ¬ (false = true) by decide)] at H; exact H
    clear H
    have H := H1
    clear H1
    obtain rfl := qx H
    go_wp2
    go_ret
    exact ⟨qf, qe⟩
   subst c5
   have H1 : (if 0 ≤ x5_1 then (if x5_1 < (l0.length : Int) then (if x5_1 < (l1.length : Int) then (if (rd l0 x5_1) = (rd l1 x5_1) then (r5less.l0 kj2 l0 l1 (wrap64 (x5_1 + 1))) else (some (decide ((rd l0 x5_1) < (rd l1 x5_1))))) else (none)) else (none)) else (none)) = some r := by rw [if_pos rfl] at H; exact H
   clear H
   have H := H1
   clear H1
   obtain ⟨c6b0, H⟩ := xF H
   obtain ⟨c7b0, H⟩ := xF H
   obtain ⟨c8b0, H⟩ := xF H
   by_cases c9 : (rd l0 x5_1) = (rd l1 x5_1)
   ·
    rw [if_pos c9] at H
    have c9b0 : ((rd l0 x5_1) == (rd l1 x5_1)) = true := beq_iff_eq.mpr c9
    clear c9
    have H' := xA.mk H
    clear H
    have p469 : 0 ≤ (x5_1 : Int) := qq
    have q469 : x5_1 < (l0.length : Int) := qq
    obtain ⟨ad469, e469, hx469_0⟩ := Kd.xU HR0.out x5_1 p469 q469
    cases e469
    replace p469 := eq_true p469
    replace q469 := eq_true q469
    have p470 : 0 ≤ (x5_1 : Int) := qq
    have q470 : x5_1 < (l1.length : Int) := qq
    obtain ⟨ad470, e470, hx470_0⟩ := Kd.xU HR1.out x5_1 p470 q470
    cases e470
    replace p470 := eq_true p470
    replace q470 := eq_true q470
    go_wp2
    repeat (go_quiet (fail); try go_wp2)
    go_roundg kj2
    case measure => have := HK1.out; have := HJ2.out; omega
    case rel => exact ⟨(wrap64 (x5_1 + 1)), rfl, H', ⟨by have := HK1.out; have := HJ2.out; omega⟩, qe⟩
   rw [if_neg c9] at H
   have c9b0 : ((rd l0 x5_1) == (rd l1 x5_1)) = false := jg c9
   obtain rfl := qx H
   have p469 : 0 ≤ (x5_1 : Int) := qq
   have q469 : x5_1 < (l0.length : Int) := qq
   obtain ⟨ad469, e469, hx469_0⟩ := Kd.xU HR0.out x5_1 p469 q469
   cases e469
   replace p469 := eq_true p469
   replace q469 := eq_true q469
   have p470 : 0 ≤ (x5_1 : Int) := qq
   have q470 : x5_1 < (l1.length : Int) := qq
   obtain ⟨ad470, e470, hx470_0⟩ := Kd.xU HR1.out x5_1 p470 q470
   cases e470
   replace p470 := eq_true p470
   replace q470 := eq_true q470
   have p471 : 0 ≤ (x5_1 : Int) := qq
   have q471 : x5_1 < (l0.length : Int) := qq
   obtain ⟨ad471, e471, hx471_0⟩ := Kd.xU HR0.out x5_1 p471 q471
   obtain rfl : ad469 = ad471 := (by injection e471)
   replace p471 := eq_true p471
   replace q471 := eq_true q471
   have p472 : 0 ≤ (x5_1 : Int) := qq
   have q472 : x5_1 < (l1.length : Int) := qq
   obtain ⟨ad472, e472, hx472_0⟩ := Kd.xU HR1.out x5_1 p472 q472
   obtain rfl : ad470 = ad472 := (by injection e472)
   replace p472 := eq_true p472
   replace q472 := eq_true q472
   go_wp2
   repeat (go_quiet (fail); try go_wp2)
   go_ret
   exact ⟨qf, qe⟩
def r5best.l0 : Nat → List (List Int) → List Int → List (List Int) → Int → Option (List Int)
 | 0, _, _, _, _ => none
 | k + 1, x0, x3, x4, x5 => if x5 < (x4.length : Int) then (if 0 ≤ x5 then (if (x3.length : Int) = 0 then (r5best.l0 k x0 (rd_L1 x4 x5) x4 (wrap64 (x5 + 1))) else ((r5weight.f k x0 (rd_L1 x4 x5)).bind fun t477 => ((r5weight.f k x0 x3).bind fun t478 => (if (wrap64 (t477 * (x3.length : Int))) > (wrap64 (t478 * ((rd_L1 x4 x5).length : Int))) then (r5best.l0 k x0 (rd_L1 x4 x5) x4 (wrap64 (x5 + 1))) else (if (wrap64 (t477 * (x3.length : Int))) = (wrap64 (t478 * ((rd_L1 x4 x5).length : Int))) then (if ((rd_L1 x4 x5).length : Int) < (x3.length : Int) then (r5best.l0 k x0 (rd_L1 x4 x5) x4 (wrap64 (x5 + 1))) else (if ((rd_L1 x4 x5).length : Int) = (x3.length : Int) then ((r5less.f k (rd_L1 x4 x5) x3).bind fun t479 => (if t479 = true then (r5best.l0 k x0 (rd_L1 x4 x5) x4 (wrap64 (x5 + 1))) else (r5best.l0 k x0 x3 x4 (wrap64 (x5 + 1))))) else (r5best.l0 k x0 x3 x4 (wrap64 (x5 + 1))))) else (r5best.l0 k x0 x3 x4 (wrap64 (x5 + 1)))))))) else (none)) else (some x3)
def r5best.f (k : Nat) (l0 : List (List Int)) : Option (List Int) := (r5Cycles.f k l0).bind fun t473 => (r5best.l0 k l0 ([] : List Int) t473 0)
theorem r5best.calls (k : Nat) (A0 : Option Addr) (c0 : Nat) (l0 : List (List Int)) (r : List Int) (w : World) (hr0 : Kd.C (Kd.slice 3 (Kd.int .i64)) w A0 l0.length l0) (hc0 : l0.length ≤ c0) (h : r5best.f k l0 = some r) :
  Calls Try.prog 72 #[.slice A0 l0.length c0] w fun e w' => ∃ v0_ : Value, e = .returned (v0_) ∧ Kd.V (Kd.int .i64) 3 w' w.heap.size (fun k_ => (w.heap.size ≤ k_)) v0_ r ∧ (r = [] → v0_ = .slice none 0 0) ∧ Below w.heap.size w w' := by
 have HR0 := xA.mk hr0
 have HC0 := xA.mk hc0
 clear hr0 hc0
 have HB := xA.mk (Below.refl w.heap.size w)
 have H : ((r5Cycles.f k l0).bind fun t473 => (r5best.l0 k l0 ([] : List Int) t473 0)) = some r := h
 clear h
 replace H := qw H
 obtain ⟨t473, A20, H⟩ := H
 replace H : (r5best.l0 k l0 ([] : List Int) t473 0) = some r := H
 have A2 := xA.mk A20
 clear A20
 have H' := xA.mk H
 clear H
 go_enter Try.func72, Try.ntmps72
 go_wp2_with (first | ((with_reducible refine xG (f := 86) rfl ?_); refine xM (some 10) rfl rfl Try.func86 jk rfl #[.slice A0 l0.length c0] rfl qd ?_; (with_reducible refine (r5Cycles.calls k _ _ l0 t473 _ ?side1 ?side2 A2.out).mono ?_); (case side1 => repeat (first | exact HR0.out)); (case side2 => exact HC0.out); rintro e w3 ⟨v474, rfl, ho0, hb⟩; refine ⟨_, rfl, ?_⟩; have HO475 := xA.mk (Kd.N_lower (Kd.N_mono (ok' := fun k_ => (w.heap.size ≤ k_)) ho0 (fun k_ hk_ => (Nat.le_trans (xB (HB.out)) hk_))) (xB (HB.out))); replace HB := xA.mk (xD (HB.out) hb)))
 go_loopg [3, 5] k (fun kq v3 v5 w' => ∃ (x3_1 : List Int) (x5_1 : Int), v5 = .int .i64 x5_1 ∧ xA (r5best.l0 kq l0 x3_1 t473 x5_1 = some r) ∧ xA (kq ≤ k) ∧ xA (Kd.V (Kd.int .i64) 3 w' w.heap.size (fun k_ => (w.heap.size ≤ k_) ∧ some k_ ≠ (v474 : Value).ownBlock) v3 x3_1) ∧ xA (Kd.N (Kd.slice 3 (Kd.int .i64)) 26 w' w.heap.size (fun k_ => (w.heap.size ≤ k_)) v474 t473) ∧ xA (Below w.heap.size w w') ∧ xA (x3_1 = [] → v3 = .slice none 0 0))
 case atStart => exact ⟨(([] : List Int)), (0), rfl, H', ⟨Nat.le_refl _⟩, ⟨Kd.V_nil _ _ _ _ _⟩, ⟨by exact HO475.out⟩, ⟨HB.out⟩, ⟨fun _ => rfl⟩⟩
 case round =>
  clear H'
  obtain ⟨x3_1, x5_1, rfl, HA, HK1, HO_3, HO_4, HB, HZ⟩ := hrel
  obtain _ | k1 := gk
  · exact absurd HA.out (by simp [r5best.l0])
  have H := HA.out
  clear HA
  simp only [r5best.l0] at H
  obtain ⟨c4b0, H⟩ | ⟨c4b0, H⟩ := yA H
  rotate_left
  ·
   obtain rfl := qx H
   obtain ⟨Ao29, co29, eo29⟩ := Kd.N_slice HO_4.out
   subst eo29
   go_wp2
   go_ret
   exact ⟨_, rfl, by exact Kd.V_mono HO_3.out (fun _ hk => hk.1), HZ.out, HB.out⟩
  obtain ⟨c5b0, H⟩ := xF H
  by_cases c6 : (x3_1.length : Int) = 0
  ·
   rw [if_pos c6] at H
   have c6b0 : ((x3_1.length : Int) == 0) = true := beq_iff_eq.mpr c6
   clear c6
   have H' := xA.mk H
   clear H
   obtain ⟨Ao7, co7, eo7⟩ := Kd.N_slice HO_4.out
   subst eo7
   have p476 : 0 ≤ (x5_1 : Int) := qq
   have q476 : x5_1 < (t473.length : Int) := qq
   obtain ⟨ad476, A476_0, c476_0, e476, hx476_0, hl476_0, hi476_0⟩ := at_L1 (Kd.xP HO_4.out).2.2 x5_1 p476 q476
   cases e476
   obtain ⟨ce476, hce476, hMe476, hcc476⟩ := Kd.N_get HO_4.out [] x5_1 p476 (by first | exact q476 | exact qq | (have e_ := (Kd.xP HO_4.out).1; omega))
   obtain ⟨ua476_0, uc476_0, rfl, ul476_0, ge476_0⟩ := Kd.xX hMe476
   have hv476_0 := hcc476 0 _ rfl
   rw [Nat.add_zero, show ((Kd.slice 3 (Kd.int .i64))).sz = 1 from rfl, Nat.mul_one] at hv476_0
   replace hv476_0 := qx (hv476_0.symm.trans hx476_0)
   injection hv476_0 with hva_ hvn_ hvc_
   rw [hva_] at ge476_0
   rw [hvc_] at ul476_0
   have HL476_0 := xA.mk (show Kd.V (Kd.int .i64) 3 _ w.heap.size _ _ (rd_L1 t473 x5_1) from Kd.V_mk ul476_0 ge476_0)
   clear hva_ hvn_ hvc_ ge476_0 ul476_0
   clear hcc476 hce476
   have HR476_0 := xA.mk hi476_0
   have HC476_0 := xA.mk hl476_0
   clear hi476_0 hl476_0
   replace p476 := eq_true p476
   have p476_ := p476
   replace q476 := eq_true q476
   have q476_ := q476
   obtain ⟨Ao8, co8, eo8⟩ := Kd.V_slice HO_3.out
   subst eo8
   have he_ := Kd.V_eql (P := Try.prog) (t := 26) (e' := 3) Try.underlying26 HO_3.out HZ.out c6b0
   go_wp2
   go_roundg k1
   case measure => have := HK1.out; omega
   case rel => exact ⟨(rd_L1 t473 x5_1), (wrap64 (x5_1 + 1)), rfl, H', ⟨by have := HK1.out; omega⟩, ⟨by exact HL476_0.out⟩, ⟨by exact HO_4.out⟩, ⟨HB.out⟩, ⟨fun h_ => absurd h_ (Cycles_row A2.out x5_1 p476_ q476_)⟩⟩
  rw [if_neg c6] at H
  have c6b0 : ((x3_1.length : Int) == 0) = false := jg c6
  have c6b2 : ¬ (x3_1 = []) := fun h_ => c6 (by rw [h_]; rfl)
  replace H := qw H
  obtain ⟨t477, A90, H⟩ := H
  replace H : ((r5weight.f k1 l0 x3_1).bind fun t478 => (if (wrap64 (t477 * (x3_1.length : Int))) > (wrap64 (t478 * ((rd_L1 t473 x5_1).length : Int))) then (r5best.l0 k1 l0 (rd_L1 t473 x5_1) t473 (wrap64 (x5_1 + 1))) else (if (wrap64 (t477 * (x3_1.length : Int))) = (wrap64 (t478 * ((rd_L1 t473 x5_1).length : Int))) then (if ((rd_L1 t473 x5_1).length : Int) < (x3_1.length : Int) then (r5best.l0 k1 l0 (rd_L1 t473 x5_1) t473 (wrap64 (x5_1 + 1))) else (if ((rd_L1 t473 x5_1).length : Int) = (x3_1.length : Int) then ((r5less.f k1 (rd_L1 t473 x5_1) x3_1).bind fun t479 => (if t479 = true then (r5best.l0 k1 l0 (rd_L1 t473 x5_1) t473 (wrap64 (x5_1 + 1))) else (r5best.l0 k1 l0 x3_1 t473 (wrap64 (x5_1 + 1))))) else (r5best.l0 k1 l0 x3_1 t473 (wrap64 (x5_1 + 1))))) else (r5best.l0 k1 l0 x3_1 t473 (wrap64 (x5_1 + 1)))))) = some r := H
  have A9 := xA.mk A90
  clear A90
  replace H := qw H
  obtain ⟨t478, A100, H⟩ := H
  replace H : (if (wrap64 (t477 * (x3_1.length : Int))) > (wrap64 (t478 * ((rd_L1 t473 x5_1).length : Int))) then (r5best.l0 k1 l0 (rd_L1 t473 x5_1) t473 (wrap64 (x5_1 + 1))) else (if (wrap64 (t477 * (x3_1.length : Int))) = (wrap64 (t478 * ((rd_L1 t473 x5_1).length : Int))) then (if ((rd_L1 t473 x5_1).length : Int) < (x3_1.length : Int) then (r5best.l0 k1 l0 (rd_L1 t473 x5_1) t473 (wrap64 (x5_1 + 1))) else (if ((rd_L1 t473 x5_1).length : Int) = (x3_1.length : Int) then ((r5less.f k1 (rd_L1 t473 x5_1) x3_1).bind fun t479 => (if t479 = true then (r5best.l0 k1 l0 (rd_L1 t473 x5_1) t473 (wrap64 (x5_1 + 1))) else (r5best.l0 k1 l0 x3_1 t473 (wrap64 (x5_1 + 1))))) else (r5best.l0 k1 l0 x3_1 t473 (wrap64 (x5_1 + 1))))) else (r5best.l0 k1 l0 x3_1 t473 (wrap64 (x5_1 + 1))))) = some r := H
  have A10 := xA.mk A100
  clear A100
  by_cases c11 : (wrap64 (t477 * (x3_1.length : Int))) > (wrap64 (t478 * ((rd_L1 t473 x5_1).length : Int)))
  ·
   rw [if_pos c11] at H
   have c11b0 : decide ((wrap64 (t478 * ((rd_L1 t473 x5_1).length : Int))) < (wrap64 (t477 * (x3_1.length : Int)))) = true := qu c11
   clear c11
   have H' := xA.mk H
   clear H
   obtain ⟨Ao12, co12, eo12⟩ := Kd.N_slice HO_4.out
   subst eo12
   have p476 : 0 ≤ (x5_1 : Int) := qq
   have q476 : x5_1 < (t473.length : Int) := qr
   obtain ⟨ad476, A476_0, c476_0, e476, hx476_0, hl476_0, hi476_0⟩ := at_L1 (Kd.xP HO_4.out).2.2 x5_1 p476 q476
   cases e476
   obtain ⟨ce476, hce476, hMe476, hcc476⟩ := Kd.N_get HO_4.out [] x5_1 p476 (by first | exact q476 | exact qr | (have e_ := (Kd.xP HO_4.out).1; omega))
   obtain ⟨ua476_0, uc476_0, rfl, ul476_0, ge476_0⟩ := Kd.xX hMe476
   have hv476_0 := hcc476 0 _ rfl
   rw [Nat.add_zero, show ((Kd.slice 3 (Kd.int .i64))).sz = 1 from rfl, Nat.mul_one] at hv476_0
   replace hv476_0 := qx (hv476_0.symm.trans hx476_0)
   injection hv476_0 with hva_ hvn_ hvc_
   rw [hva_] at ge476_0
   rw [hvc_] at ul476_0
   have HL476_0 := xA.mk (show Kd.V (Kd.int .i64) 3 _ w.heap.size _ _ (rd_L1 t473 x5_1) from Kd.V_mk ul476_0 ge476_0)
   clear hva_ hvn_ hvc_ ge476_0 ul476_0
   clear hcc476 hce476
   have HR476_0 := xA.mk hi476_0
   have HC476_0 := xA.mk hl476_0
   clear hi476_0 hl476_0
   replace p476 := eq_true p476
   have p476_ := p476
   replace q476 := eq_true q476
   have q476_ := q476
   obtain ⟨Ao13, co13, eo13⟩ := Kd.V_slice HO_3.out
   subst eo13
   have he_ := Kd.V_eql (P := Try.prog) (t := 26) (e' := 3) Try.underlying26 HO_3.out HZ.out c6b0
   go_wp2_with (first | ((with_reducible refine xG (f := 73) rfl ?_); refine xM (some 26) rfl rfl Try.func73 jk rfl #[.slice A0 l0.length c0, .slice A476_0 (rd_L1 t473 x5_1).length c476_0] rfl qc ?_; (with_reducible refine (r5weight.calls k1 _ _ l0 _ _ (rd_L1 t473 x5_1) t477 _ ?side1 ?side2 ?side3 ?side4 A9.out).mono ?_); (case side1 => exact qm (Kd.xQ HR0.out HB.out)); (case side2 => exact HC0.out); (case side3 => repeat (first | exact (by repeat (first | (with_reducible exact HR476_0.out) | (with_reducible refine Kd.C_alloc ?_ _) | (with_reducible refine Kd.C_drewN ?_ _) | (with_reducible refine Kd.C_drew ?_) | exact HR476_0.out)) | (with_reducible refine Kd.C_alloc ?_ _) | (with_reducible refine Kd.C_drewN ?_ _) | (with_reducible refine Kd.C_drew ?_))); (case side4 => exact HC476_0.out); rintro e w' ⟨rfl, ⟨nd, rfl⟩⟩; refine ⟨_, rfl, ?_⟩) | ((with_reducible refine xG (f := 73) rfl ?_); refine xM (some 32) rfl rfl Try.func73 jk rfl #[.slice A0 l0.length c0, .slice Ao13 x3_1.length co13] rfl qc ?_; (with_reducible refine (r5weight.calls k1 _ _ l0 _ _ x3_1 t478 _ ?side1 ?side2 ?side3 ?side4 A10.out).mono ?_); (case side1 => repeat (first | exact (Kd.xQ HR0.out qa) | (with_reducible refine Kd.C_alloc ?_ _) | (with_reducible refine Kd.C_drewN ?_ _) | (with_reducible refine Kd.C_drew ?_))); (case side2 => exact HC0.out); (case side3 => exact qm (Kd.xW HO_3.out).2.2); (case side4 => exact (Kd.xW HO_3.out).2.1); rintro e w' ⟨rfl, ⟨nd, rfl⟩⟩; refine ⟨_, rfl, ?_⟩))
   go_roundg k1
   case measure => have := HK1.out; omega
   case rel => exact ⟨(rd_L1 t473 x5_1), (wrap64 (x5_1 + 1)), qf, H', ⟨by have := HK1.out; omega⟩, ⟨qj HL476_0.out⟩, ⟨qk HO_4.out⟩, ⟨qa⟩, ⟨fun h_ => absurd h_ (Cycles_row A2.out x5_1 p476_ q476_)⟩⟩
  rw [if_neg c11] at H
  have c11b0 : decide ((wrap64 (t478 * ((rd_L1 t473 x5_1).length : Int))) < (wrap64 (t477 * (x3_1.length : Int)))) = false := qv c11
  clear c11
  obtain ⟨⟨c14b0, c14b1⟩, H⟩ | ⟨c14, ⟨c14b0, c14b1⟩, H⟩ := itn_or H
  rotate_left
  ·
   have H' := xA.mk H
   clear H
   obtain ⟨Ao27, co27, eo27⟩ := Kd.N_slice HO_4.out
   subst eo27
   have p476 : 0 ≤ (x5_1 : Int) := qr
   have q476 : x5_1 < (t473.length : Int) := qr
   obtain ⟨ad476, A476_0, c476_0, e476, hx476_0, hl476_0, hi476_0⟩ := at_L1 (Kd.xP HO_4.out).2.2 x5_1 p476 q476
   cases e476
   obtain ⟨ce476, hce476, hMe476, hcc476⟩ := Kd.N_get HO_4.out [] x5_1 p476 (by first | exact q476 | exact qr | (have e_ := (Kd.xP HO_4.out).1; omega))
   obtain ⟨ua476_0, uc476_0, rfl, ul476_0, ge476_0⟩ := Kd.xX hMe476
   have hv476_0 := hcc476 0 _ rfl
   rw [Nat.add_zero, show ((Kd.slice 3 (Kd.int .i64))).sz = 1 from rfl, Nat.mul_one] at hv476_0
   replace hv476_0 := qx (hv476_0.symm.trans hx476_0)
   injection hv476_0 with hva_ hvn_ hvc_
   rw [hva_] at ge476_0
   rw [hvc_] at ul476_0
   have HL476_0 := xA.mk (show Kd.V (Kd.int .i64) 3 _ w.heap.size _ _ (rd_L1 t473 x5_1) from Kd.V_mk ul476_0 ge476_0)
   clear hva_ hvn_ hvc_ ge476_0 ul476_0
   clear hcc476 hce476
   have HR476_0 := xA.mk hi476_0
   have HC476_0 := xA.mk hl476_0
   clear hi476_0 hl476_0
   replace p476 := eq_true p476
   have p476_ := p476
   replace q476 := eq_true q476
   have q476_ := q476
   obtain ⟨Ao28, co28, eo28⟩ := Kd.V_slice HO_3.out
   subst eo28
   have he_ := Kd.V_eql (P := Try.prog) (t := 26) (e' := 3) Try.underlying26 HO_3.out HZ.out c6b0
   go_wp2_with (first | ((with_reducible refine xG (f := 73) rfl ?_); refine xM (some 26) rfl rfl Try.func73 jk rfl #[.slice A0 l0.length c0, .slice A476_0 (rd_L1 t473 x5_1).length c476_0] rfl qc ?_; (with_reducible refine (r5weight.calls k1 _ _ l0 _ _ (rd_L1 t473 x5_1) t477 _ ?side1 ?side2 ?side3 ?side4 A9.out).mono ?_); (case side1 => exact qm (Kd.xQ HR0.out HB.out)); (case side2 => exact HC0.out); (case side3 => repeat (first | exact (by repeat (first | (with_reducible exact HR476_0.out) | (with_reducible refine Kd.C_alloc ?_ _) | (with_reducible refine Kd.C_drewN ?_ _) | (with_reducible refine Kd.C_drew ?_) | exact HR476_0.out)) | (with_reducible refine Kd.C_alloc ?_ _) | (with_reducible refine Kd.C_drewN ?_ _) | (with_reducible refine Kd.C_drew ?_))); (case side4 => exact HC476_0.out); rintro e w' ⟨rfl, ⟨nd, rfl⟩⟩; refine ⟨_, rfl, ?_⟩) | ((with_reducible refine xG (f := 73) rfl ?_); refine xM (some 32) rfl rfl Try.func73 jk rfl #[.slice A0 l0.length c0, .slice Ao28 x3_1.length co28] rfl qc ?_; (with_reducible refine (r5weight.calls k1 _ _ l0 _ _ x3_1 t478 _ ?side1 ?side2 ?side3 ?side4 A10.out).mono ?_); (case side1 => repeat (first | exact (Kd.xQ HR0.out qa) | (with_reducible refine Kd.C_alloc ?_ _) | (with_reducible refine Kd.C_drewN ?_ _) | (with_reducible refine Kd.C_drew ?_))); (case side2 => exact HC0.out); (case side3 => exact qm (Kd.xW HO_3.out).2.2); (case side4 => exact (Kd.xW HO_3.out).2.1); rintro e w' ⟨rfl, ⟨nd, rfl⟩⟩; refine ⟨_, rfl, ?_⟩))
   go_roundg k1
   case measure => have := HK1.out; omega
   case rel => exact ⟨(x3_1), (wrap64 (x5_1 + 1)), qf, H', ⟨by have := HK1.out; omega⟩, ⟨qj HO_3.out⟩, ⟨qk HO_4.out⟩, ⟨qa⟩, ⟨HZ.out⟩⟩
  by_cases c15 : ((rd_L1 t473 x5_1).length : Int) < (x3_1.length : Int)
  ·
   rw [if_pos c15] at H
   have c15b0 : decide (((rd_L1 t473 x5_1).length : Int) < (x3_1.length : Int)) = true := qu c15
   have c15b1 : decide ((rd_L1 t473 x5_1).length < x3_1.length) = true := qu (Int.ofNat_lt.mp c15)
   clear c15
   have H' := xA.mk H
   clear H
   obtain ⟨Ao16, co16, eo16⟩ := Kd.N_slice HO_4.out
   subst eo16
   have p476 : 0 ≤ (x5_1 : Int) := qr
   have q476 : x5_1 < (t473.length : Int) := qr
   obtain ⟨ad476, A476_0, c476_0, e476, hx476_0, hl476_0, hi476_0⟩ := at_L1 (Kd.xP HO_4.out).2.2 x5_1 p476 q476
   cases e476
   obtain ⟨ce476, hce476, hMe476, hcc476⟩ := Kd.N_get HO_4.out [] x5_1 p476 (by first | exact q476 | exact qr | (have e_ := (Kd.xP HO_4.out).1; omega))
   obtain ⟨ua476_0, uc476_0, rfl, ul476_0, ge476_0⟩ := Kd.xX hMe476
   have hv476_0 := hcc476 0 _ rfl
   rw [Nat.add_zero, show ((Kd.slice 3 (Kd.int .i64))).sz = 1 from rfl, Nat.mul_one] at hv476_0
   replace hv476_0 := qx (hv476_0.symm.trans hx476_0)
   injection hv476_0 with hva_ hvn_ hvc_
   rw [hva_] at ge476_0
   rw [hvc_] at ul476_0
   have HL476_0 := xA.mk (show Kd.V (Kd.int .i64) 3 _ w.heap.size _ _ (rd_L1 t473 x5_1) from Kd.V_mk ul476_0 ge476_0)
   clear hva_ hvn_ hvc_ ge476_0 ul476_0
   clear hcc476 hce476
   have HR476_0 := xA.mk hi476_0
   have HC476_0 := xA.mk hl476_0
   clear hi476_0 hl476_0
   replace p476 := eq_true p476
   have p476_ := p476
   replace q476 := eq_true q476
   have q476_ := q476
   obtain ⟨Ao17, co17, eo17⟩ := Kd.V_slice HO_3.out
   subst eo17
   have he_ := Kd.V_eql (P := Try.prog) (t := 26) (e' := 3) Try.underlying26 HO_3.out HZ.out c6b0
   go_wp2_with (first | ((with_reducible refine xG (f := 73) rfl ?_); refine xM (some 26) rfl rfl Try.func73 jk rfl #[.slice A0 l0.length c0, .slice A476_0 (rd_L1 t473 x5_1).length c476_0] rfl qc ?_; (with_reducible refine (r5weight.calls k1 _ _ l0 _ _ (rd_L1 t473 x5_1) t477 _ ?side1 ?side2 ?side3 ?side4 A9.out).mono ?_); (case side1 => exact qm (Kd.xQ HR0.out HB.out)); (case side2 => exact HC0.out); (case side3 => repeat (first | exact (by repeat (first | (with_reducible exact HR476_0.out) | (with_reducible refine Kd.C_alloc ?_ _) | (with_reducible refine Kd.C_drewN ?_ _) | (with_reducible refine Kd.C_drew ?_) | exact HR476_0.out)) | (with_reducible refine Kd.C_alloc ?_ _) | (with_reducible refine Kd.C_drewN ?_ _) | (with_reducible refine Kd.C_drew ?_))); (case side4 => exact HC476_0.out); rintro e w' ⟨rfl, ⟨nd, rfl⟩⟩; refine ⟨_, rfl, ?_⟩) | ((with_reducible refine xG (f := 73) rfl ?_); refine xM (some 32) rfl rfl Try.func73 jk rfl #[.slice A0 l0.length c0, .slice Ao17 x3_1.length co17] rfl qc ?_; (with_reducible refine (r5weight.calls k1 _ _ l0 _ _ x3_1 t478 _ ?side1 ?side2 ?side3 ?side4 A10.out).mono ?_); (case side1 => repeat (first | exact (Kd.xQ HR0.out qa) | (with_reducible refine Kd.C_alloc ?_ _) | (with_reducible refine Kd.C_drewN ?_ _) | (with_reducible refine Kd.C_drew ?_))); (case side2 => exact HC0.out); (case side3 => exact qm (Kd.xW HO_3.out).2.2); (case side4 => exact (Kd.xW HO_3.out).2.1); rintro e w' ⟨rfl, ⟨nd, rfl⟩⟩; refine ⟨_, rfl, ?_⟩))
   go_roundg k1
   case measure => have := HK1.out; omega
   case rel => exact ⟨(rd_L1 t473 x5_1), (wrap64 (x5_1 + 1)), qf, H', ⟨by have := HK1.out; omega⟩, ⟨qj HL476_0.out⟩, ⟨qk HO_4.out⟩, ⟨qa⟩, ⟨fun h_ => absurd h_ (Cycles_row A2.out x5_1 p476_ q476_)⟩⟩
  rw [if_neg c15] at H
  have c15b0 : decide (((rd_L1 t473 x5_1).length : Int) < (x3_1.length : Int)) = false := qv c15
  have c15b1 : decide ((rd_L1 t473 x5_1).length < x3_1.length) = false := qv (fun h => c15 (Int.ofNat_lt.mpr h))
  clear c15
  by_cases c18 : ((rd_L1 t473 x5_1).length : Int) = (x3_1.length : Int)
  rotate_left
  ·
   rw [if_neg c18] at H
   have c18b0 : (((rd_L1 t473 x5_1).length : Int) == (x3_1.length : Int)) = false := jg c18
   have c18b1 : (((rd_L1 t473 x5_1).length : Int) != (x3_1.length : Int)) = true := bne_iff_ne.mpr c18
   have c18b2 : ((rd_L1 t473 x5_1).length == x3_1.length) = false := by first | simpa using c18 | (simp at c18 ⊢; omega)
   have H' := xA.mk H
   clear H
   obtain ⟨Ao25, co25, eo25⟩ := Kd.N_slice HO_4.out
   subst eo25
   have p476 : 0 ≤ (x5_1 : Int) := qq
   have q476 : x5_1 < (t473.length : Int) := qr
   obtain ⟨ad476, A476_0, c476_0, e476, hx476_0, hl476_0, hi476_0⟩ := at_L1 (Kd.xP HO_4.out).2.2 x5_1 p476 q476
   cases e476
   obtain ⟨ce476, hce476, hMe476, hcc476⟩ := Kd.N_get HO_4.out [] x5_1 p476 (by first | exact q476 | exact qr | (have e_ := (Kd.xP HO_4.out).1; omega))
   obtain ⟨ua476_0, uc476_0, rfl, ul476_0, ge476_0⟩ := Kd.xX hMe476
   have hv476_0 := hcc476 0 _ rfl
   rw [Nat.add_zero, show ((Kd.slice 3 (Kd.int .i64))).sz = 1 from rfl, Nat.mul_one] at hv476_0
   replace hv476_0 := qx (hv476_0.symm.trans hx476_0)
   injection hv476_0 with hva_ hvn_ hvc_
   rw [hva_] at ge476_0
   rw [hvc_] at ul476_0
   have HL476_0 := xA.mk (show Kd.V (Kd.int .i64) 3 _ w.heap.size _ _ (rd_L1 t473 x5_1) from Kd.V_mk ul476_0 ge476_0)
   clear hva_ hvn_ hvc_ ge476_0 ul476_0
   clear hcc476 hce476
   have HR476_0 := xA.mk hi476_0
   have HC476_0 := xA.mk hl476_0
   clear hi476_0 hl476_0
   replace p476 := eq_true p476
   have p476_ := p476
   replace q476 := eq_true q476
   have q476_ := q476
   obtain ⟨Ao26, co26, eo26⟩ := Kd.V_slice HO_3.out
   subst eo26
   have he_ := Kd.V_eql (P := Try.prog) (t := 26) (e' := 3) Try.underlying26 HO_3.out HZ.out c6b0
   go_wp2_with (first | ((with_reducible refine xG (f := 73) rfl ?_); refine xM (some 26) rfl rfl Try.func73 jk rfl #[.slice A0 l0.length c0, .slice A476_0 (rd_L1 t473 x5_1).length c476_0] rfl qc ?_; (with_reducible refine (r5weight.calls k1 _ _ l0 _ _ (rd_L1 t473 x5_1) t477 _ ?side1 ?side2 ?side3 ?side4 A9.out).mono ?_); (case side1 => exact qm (Kd.xQ HR0.out HB.out)); (case side2 => exact HC0.out); (case side3 => repeat (first | exact (by repeat (first | (with_reducible exact HR476_0.out) | (with_reducible refine Kd.C_alloc ?_ _) | (with_reducible refine Kd.C_drewN ?_ _) | (with_reducible refine Kd.C_drew ?_) | exact HR476_0.out)) | (with_reducible refine Kd.C_alloc ?_ _) | (with_reducible refine Kd.C_drewN ?_ _) | (with_reducible refine Kd.C_drew ?_))); (case side4 => exact HC476_0.out); rintro e w' ⟨rfl, ⟨nd, rfl⟩⟩; refine ⟨_, rfl, ?_⟩) | ((with_reducible refine xG (f := 73) rfl ?_); refine xM (some 32) rfl rfl Try.func73 jk rfl #[.slice A0 l0.length c0, .slice Ao26 x3_1.length co26] rfl qc ?_; (with_reducible refine (r5weight.calls k1 _ _ l0 _ _ x3_1 t478 _ ?side1 ?side2 ?side3 ?side4 A10.out).mono ?_); (case side1 => repeat (first | exact (Kd.xQ HR0.out qa) | (with_reducible refine Kd.C_alloc ?_ _) | (with_reducible refine Kd.C_drewN ?_ _) | (with_reducible refine Kd.C_drew ?_))); (case side2 => exact HC0.out); (case side3 => exact qm (Kd.xW HO_3.out).2.2); (case side4 => exact (Kd.xW HO_3.out).2.1); rintro e w' ⟨rfl, ⟨nd, rfl⟩⟩; refine ⟨_, rfl, ?_⟩))
   go_roundg k1
   case measure => have := HK1.out; omega
   case rel => exact ⟨(x3_1), (wrap64 (x5_1 + 1)), qf, H', ⟨by have := HK1.out; omega⟩, ⟨qj HO_3.out⟩, ⟨qk HO_4.out⟩, ⟨qa⟩, ⟨HZ.out⟩⟩
  rw [if_pos c18] at H
  have c18b0 : (((rd_L1 t473 x5_1).length : Int) == (x3_1.length : Int)) = true := beq_iff_eq.mpr c18
  have c18b2 : ((rd_L1 t473 x5_1).length == x3_1.length) = true := by first | simpa using c18 | (simp at c18 ⊢; omega)
  clear c18
  replace H := qw H
  obtain ⟨t479, A190, H⟩ := H
  replace H : (if t479 = true then (r5best.l0 k1 l0 (rd_L1 t473 x5_1) t473 (wrap64 (x5_1 + 1))) else (r5best.l0 k1 l0 x3_1 t473 (wrap64 (x5_1 + 1)))) = some r := H
  have A19 := xA.mk A190
  clear A190
  by_cases c20 : t479 = true
  ·
   subst c20
   have H1 : (r5best.l0 k1 l0 (rd_L1 t473 x5_1) t473 (wrap64 (x5_1 + 1))) = some r := by rw [if_pos rfl] at H; exact H
   clear H
   have H := H1
   clear H1
   have H' := xA.mk H
   clear H
   obtain ⟨Ao21, co21, eo21⟩ := Kd.N_slice HO_4.out
   subst eo21
   have p476 : 0 ≤ (x5_1 : Int) := qq
   have q476 : x5_1 < (t473.length : Int) := qr
   obtain ⟨ad476, A476_0, c476_0, e476, hx476_0, hl476_0, hi476_0⟩ := at_L1 (Kd.xP HO_4.out).2.2 x5_1 p476 q476
   cases e476
   obtain ⟨ce476, hce476, hMe476, hcc476⟩ := Kd.N_get HO_4.out [] x5_1 p476 (by first | exact q476 | exact qr | (have e_ := (Kd.xP HO_4.out).1; omega))
   obtain ⟨ua476_0, uc476_0, rfl, ul476_0, ge476_0⟩ := Kd.xX hMe476
   have hv476_0 := hcc476 0 _ rfl
   rw [Nat.add_zero, show ((Kd.slice 3 (Kd.int .i64))).sz = 1 from rfl, Nat.mul_one] at hv476_0
   replace hv476_0 := qx (hv476_0.symm.trans hx476_0)
   injection hv476_0 with hva_ hvn_ hvc_
   rw [hva_] at ge476_0
   rw [hvc_] at ul476_0
   have HL476_0 := xA.mk (show Kd.V (Kd.int .i64) 3 _ w.heap.size _ _ (rd_L1 t473 x5_1) from Kd.V_mk ul476_0 ge476_0)
   clear hva_ hvn_ hvc_ ge476_0 ul476_0
   clear hcc476 hce476
   have HR476_0 := xA.mk hi476_0
   have HC476_0 := xA.mk hl476_0
   clear hi476_0 hl476_0
   replace p476 := eq_true p476
   have p476_ := p476
   replace q476 := eq_true q476
   have q476_ := q476
   obtain ⟨Ao22, co22, eo22⟩ := Kd.V_slice HO_3.out
   subst eo22
   have he_ := Kd.V_eql (P := Try.prog) (t := 26) (e' := 3) Try.underlying26 HO_3.out HZ.out c6b0
   go_wp2_with (first | ((with_reducible refine xG (f := 73) rfl ?_); refine xM (some 26) rfl rfl Try.func73 jk rfl #[.slice A0 l0.length c0, .slice A476_0 (rd_L1 t473 x5_1).length c476_0] rfl qc ?_; (with_reducible refine (r5weight.calls k1 _ _ l0 _ _ (rd_L1 t473 x5_1) t477 _ ?side1 ?side2 ?side3 ?side4 A9.out).mono ?_); (case side1 => exact qm (Kd.xQ HR0.out HB.out)); (case side2 => exact HC0.out); (case side3 => repeat (first | exact (by repeat (first | (with_reducible exact HR476_0.out) | (with_reducible refine Kd.C_alloc ?_ _) | (with_reducible refine Kd.C_drewN ?_ _) | (with_reducible refine Kd.C_drew ?_) | exact HR476_0.out)) | (with_reducible refine Kd.C_alloc ?_ _) | (with_reducible refine Kd.C_drewN ?_ _) | (with_reducible refine Kd.C_drew ?_))); (case side4 => exact HC476_0.out); rintro e w' ⟨rfl, ⟨nd, rfl⟩⟩; refine ⟨_, rfl, ?_⟩) | ((with_reducible refine xG (f := 73) rfl ?_); refine xM (some 32) rfl rfl Try.func73 jk rfl #[.slice A0 l0.length c0, .slice Ao22 x3_1.length co22] rfl qc ?_; (with_reducible refine (r5weight.calls k1 _ _ l0 _ _ x3_1 t478 _ ?side1 ?side2 ?side3 ?side4 A10.out).mono ?_); (case side1 => repeat (first | exact (Kd.xQ HR0.out qa) | (with_reducible refine Kd.C_alloc ?_ _) | (with_reducible refine Kd.C_drewN ?_ _) | (with_reducible refine Kd.C_drew ?_))); (case side2 => exact HC0.out); (case side3 => exact qm (Kd.xW HO_3.out).2.2); (case side4 => exact (Kd.xW HO_3.out).2.1); rintro e w' ⟨rfl, ⟨nd, rfl⟩⟩; refine ⟨_, rfl, ?_⟩) | (go_at_call 94; (with_reducible refine (r5less.calls k1 _ _ (rd_L1 t473 x5_1) _ _ x3_1 true _ ?side1 ?side2 ?side3 ?side4 A19.out).mono ?_); (case side1 => repeat (first | exact (by repeat (first | (with_reducible exact HR476_0.out) | (with_reducible refine Kd.C_alloc ?_ _) | (with_reducible refine Kd.C_drewN ?_ _) | (with_reducible refine Kd.C_drew ?_) | exact HR476_0.out)) | (with_reducible refine Kd.C_alloc ?_ _) | (with_reducible refine Kd.C_drewN ?_ _) | (with_reducible refine Kd.C_drew ?_))); (case side2 => exact HC476_0.out); (case side3 => exact qm (Kd.xW HO_3.out).2.2); (case side4 => exact (Kd.xW HO_3.out).2.1); rintro e w' ⟨rfl, ⟨nd, rfl⟩⟩))
   go_roundg k1
   case measure => have := HK1.out; omega
   case rel => exact ⟨(rd_L1 t473 x5_1), (wrap64 (x5_1 + 1)), qf, H', ⟨by have := HK1.out; omega⟩, ⟨qj HL476_0.out⟩, ⟨qk HO_4.out⟩, ⟨qa⟩, ⟨fun h_ => absurd h_ (Cycles_row A2.out x5_1 p476_ q476_)⟩⟩
  replace c20 := Bool.eq_false_iff.mpr c20
  subst c20
  have H1 : (r5best.l0 k1 l0 x3_1 t473 (wrap64 (x5_1 + 1))) = some r := by rw [if_neg (show ¬ (false = true) by decide)] at H; exact H
  clear H
  have H := H1
  clear H1
  have H' := xA.mk H
  clear H
  obtain ⟨Ao23, co23, eo23⟩ := Kd.N_slice HO_4.out
  subst eo23
  have p476 : 0 ≤ (x5_1 : Int) := qq
  have q476 : x5_1 < (t473.length : Int) := qr
  obtain ⟨ad476, A476_0, c476_0, e476, hx476_0, hl476_0, hi476_0⟩ := at_L1 (Kd.xP HO_4.out).2.2 x5_1 p476 q476
  cases e476
  obtain ⟨ce476, hce476, hMe476, hcc476⟩ := Kd.N_get HO_4.out [] x5_1 p476 (by first | exact q476 | exact qr | (have e_ := (Kd.xP HO_4.out).1; omega))
  obtain ⟨ua476_0, uc476_0, rfl, ul476_0, ge476_0⟩ := Kd.xX hMe476
  have hv476_0 := hcc476 0 _ rfl
  rw [Nat.add_zero, show ((Kd.slice 3 (Kd.int .i64))).sz = 1 from rfl, Nat.mul_one] at hv476_0
  replace hv476_0 := qx (hv476_0.symm.trans hx476_0)
  injection hv476_0 with hva_ hvn_ hvc_
  rw [hva_] at ge476_0
  rw [hvc_] at ul476_0
  have HL476_0 := xA.mk (show Kd.V (Kd.int .i64) 3 _ w.heap.size _ _ (rd_L1 t473 x5_1) from Kd.V_mk ul476_0 ge476_0)
  clear hva_ hvn_ hvc_ ge476_0 ul476_0
  clear hcc476 hce476
  have HR476_0 := xA.mk hi476_0
  have HC476_0 := xA.mk hl476_0
  clear hi476_0 hl476_0
  replace p476 := eq_true p476
  have p476_ := p476
  replace q476 := eq_true q476
  have q476_ := q476
  obtain ⟨Ao24, co24, eo24⟩ := Kd.V_slice HO_3.out
  subst eo24
  have he_ := Kd.V_eql (P := Try.prog) (t := 26) (e' := 3) Try.underlying26 HO_3.out HZ.out c6b0
  go_wp2_with (first | ((with_reducible refine xG (f := 73) rfl ?_); refine xM (some 26) rfl rfl Try.func73 jk rfl #[.slice A0 l0.length c0, .slice A476_0 (rd_L1 t473 x5_1).length c476_0] rfl qc ?_; (with_reducible refine (r5weight.calls k1 _ _ l0 _ _ (rd_L1 t473 x5_1) t477 _ ?side1 ?side2 ?side3 ?side4 A9.out).mono ?_); (case side1 => exact qm (Kd.xQ HR0.out HB.out)); (case side2 => exact HC0.out); (case side3 => repeat (first | exact (by repeat (first | (with_reducible exact HR476_0.out) | (with_reducible refine Kd.C_alloc ?_ _) | (with_reducible refine Kd.C_drewN ?_ _) | (with_reducible refine Kd.C_drew ?_) | exact HR476_0.out)) | (with_reducible refine Kd.C_alloc ?_ _) | (with_reducible refine Kd.C_drewN ?_ _) | (with_reducible refine Kd.C_drew ?_))); (case side4 => exact HC476_0.out); rintro e w' ⟨rfl, ⟨nd, rfl⟩⟩; refine ⟨_, rfl, ?_⟩) | ((with_reducible refine xG (f := 73) rfl ?_); refine xM (some 32) rfl rfl Try.func73 jk rfl #[.slice A0 l0.length c0, .slice Ao24 x3_1.length co24] rfl qc ?_; (with_reducible refine (r5weight.calls k1 _ _ l0 _ _ x3_1 t478 _ ?side1 ?side2 ?side3 ?side4 A10.out).mono ?_); (case side1 => repeat (first | exact (Kd.xQ HR0.out qa) | (with_reducible refine Kd.C_alloc ?_ _) | (with_reducible refine Kd.C_drewN ?_ _) | (with_reducible refine Kd.C_drew ?_))); (case side2 => exact HC0.out); (case side3 => exact qm (Kd.xW HO_3.out).2.2); (case side4 => exact (Kd.xW HO_3.out).2.1); rintro e w' ⟨rfl, ⟨nd, rfl⟩⟩; refine ⟨_, rfl, ?_⟩) | (go_at_call 94; (with_reducible refine (r5less.calls k1 _ _ (rd_L1 t473 x5_1) _ _ x3_1 false _ ?side1 ?side2 ?side3 ?side4 A19.out).mono ?_); (case side1 => repeat (first | exact (by repeat (first | (with_reducible exact HR476_0.out) | (with_reducible refine Kd.C_alloc ?_ _) | (with_reducible refine Kd.C_drewN ?_ _) | (with_reducible refine Kd.C_drew ?_) | exact HR476_0.out)) | (with_reducible refine Kd.C_alloc ?_ _) | (with_reducible refine Kd.C_drewN ?_ _) | (with_reducible refine Kd.C_drew ?_))); (case side2 => exact HC476_0.out); (case side3 => exact qm (Kd.xW HO_3.out).2.2); (case side4 => exact (Kd.xW HO_3.out).2.1); rintro e w' ⟨rfl, ⟨nd, rfl⟩⟩))
  go_roundg k1
  case measure => have := HK1.out; omega
  case rel => exact ⟨(x3_1), (wrap64 (x5_1 + 1)), qf, H', ⟨by have := HK1.out; omega⟩, ⟨qj HO_3.out⟩, ⟨qk HO_4.out⟩, ⟨qa⟩, ⟨HZ.out⟩⟩
def r5gcd.l0 : Nat → Int → Int → Option (Int)
 | 0, _, _ => none
 | k + 1, x0, x1 => if x1 = 0 then (some (mx x0 (wrap64 (-x0)))) else (r5gcd.l0 k x1 (Int.tmod x0 x1))
def r5gcd.f (k : Nat) (a0 : Int) (a1 : Int) : Option (Int) := r5gcd.l0 k a0 a1
theorem r5gcd.calls (k : Nat) (a0 : Int) (a1 : Int) (r : Int) (w : World) (h : r5gcd.f k a0 a1 = some r) :
  Calls Try.prog 95 #[.int .i64 a0, .int .i64 a1] w fun e w' => e = .returned (.int .i64 r) ∧ Below w.heap.size w w' := by
 have HB := xA.mk (Below.refl w.heap.size w)
 have H : (r5gcd.l0 k a0 a1) = some r := h
 clear h
 have H' := xA.mk H
 clear H
 go_enter Try.func95, Try.ntmps95
 go_wp2
 go_loopg [0, 1] k (fun kq v0 v1 w' => ∃ (x0_1 : Int) (x1_1 : Int), v0 = .int .i64 x0_1 ∧ v1 = .int .i64 x1_1 ∧ xA (r5gcd.l0 kq x0_1 x1_1 = some r) ∧ xA (kq ≤ k) ∧ xA (Below w.heap.size w w'))
 case atStart => exact ⟨(a0), (a1), rfl, rfl, H', ⟨Nat.le_refl _⟩, ⟨HB.out⟩⟩
 case round =>
  clear H'
  obtain ⟨x0_1, x1_1, rfl, rfl, HA, HK1, HB⟩ := hrel
  obtain _ | k1 := gk
  · exact absurd HA.out (by simp [r5gcd.l0])
  have H := HA.out
  clear HA
  simp only [r5gcd.l0] at H
  by_cases c3 : x1_1 = 0
  rotate_left
  ·
   rw [if_neg c3] at H
   have c3b0 : (x1_1 == 0) = false := jg c3
   have H' := xA.mk H
   clear H
   go_wp2
   repeat (go_quiet (fail); try go_wp2)
   go_roundg k1
   case measure => have := HK1.out; omega
   case rel => exact ⟨(x1_1), (Int.tmod x0_1 x1_1), rfl, rfl, H', ⟨by have := HK1.out; omega⟩, ⟨qb⟩⟩
  rw [if_pos c3] at H
  have c3b0 : (x1_1 == 0) = true := beq_iff_eq.mpr c3
  clear c3
  obtain ⟨ji4, hji4⟩ : ∃ j_ : Int, (mx x0_1 (wrap64 (-x0_1))) = j_ := ⟨_, rfl⟩
  replace H : (some ji4) = some r := by first | (rw [hji4] at H; exact H) | (simp only [hji4] at H ⊢; exact H)
  have hji4_ : (if x0_1 < (wrap64 (-x0_1)) then (wrap64 (-x0_1)) else x0_1) = ji4 := hji4
  obtain rfl := qx H
  go_wp2
  repeat (go_quiet (fail); try go_wp2)
  go_ret
  exact ⟨by first | rfl | (simp [errW_none, errW_some] <;> rfl) | (simp only [← hji4]; first | rfl | (simp [errW_none, errW_some] <;> rfl)) | (simp [*, errW_none, errW_some] <;> rfl), qb⟩
def r5pace.f (k : Nat) (l0 : List (List Int)) (l1 : List Int) : Option (Int × Int) := (r5weight.f k l0 l1).bind fun t481 => ((r5gcd.f k t481 (l1.length : Int)).bind fun t482 => (if t482 = 0 then (none) else (some (wrap64 (Int.tdiv t481 t482), wrap64 ((l1.length : Int) / t482)))))
def r5pace.T3 : Bool × List (List Nat × List Nat) := (true, [([], []), ([], []), ([0, 1], [0, 1]), ([], []), ([3], [3]), ([], []), ([4, 5], [4, 5]), ([2, 6], [2, 6]), ([7, 0, 1, 2, 3, 4, 5, 6, 7], [7])])
def r5pace.B3 : List Nat := [0, 0, 3, 0, 8, 0, 56, 127, 255]
theorem r5pace.tab3 : rtab .any (opsOf Try.f74 3) = r5pace.T3 := by kernel_rfl
theorem r5pace.bits3 : waitsOk r5pace.T3.2 r5pace.B3 = true := by kernel_rfl
theorem r5pace.calls (k : Nat) (A0 : Option Addr) (c0 : Nat) (l0 : List (List Int)) (A1 : Option Addr) (c1 : Nat) (l1 : List Int) (r1 : Int) (r2 : Int) (w : World) (hr0 : Kd.C (Kd.slice 3 (Kd.int .i64)) w A0 l0.length l0) (hc0 : l0.length ≤ c0) (hr1 : Kd.C (Kd.int .i64) w A1 l1.length l1) (hc1 : l1.length ≤ c1) (h : r5pace.f k l0 l1 = some (r1, r2)) :
  Calls Try.prog 74 #[.slice A0 l0.length c0, .slice A1 l1.length c1] w fun e w' => e = .returned (.agg #[.int .i64 r1, .int .i64 r2]) ∧ Below w.heap.size w w' := by
 have hu37 := Try.underlying37
 have HR0 := xA.mk hr0
 have HC0 := xA.mk hc0
 clear hr0 hc0
 have HR1 := xA.mk hr1
 have HC1 := xA.mk hc1
 clear hr1 hc1
 have HB := xA.mk (Below.refl w.heap.size w)
 have H : ((r5weight.f k l0 l1).bind fun t481 => ((r5gcd.f k t481 (l1.length : Int)).bind fun t482 => (if t482 = 0 then (none) else (some (wrap64 (Int.tdiv t481 t482), wrap64 ((l1.length : Int) / t482)))))) = some (r1, r2) := h
 clear h
 replace H := qw H
 obtain ⟨t481, A30, H⟩ := H
 replace H : ((r5gcd.f k t481 (l1.length : Int)).bind fun t482 => (if t482 = 0 then (none) else (some (wrap64 (Int.tdiv t481 t482), wrap64 ((l1.length : Int) / t482))))) = some (r1, r2) := H
 have A3 := xA.mk A30
 clear A30
 replace H := qw H
 obtain ⟨t482, A40, H⟩ := H
 replace H : (if t482 = 0 then (none) else (some (wrap64 (Int.tdiv t481 t482), wrap64 ((l1.length : Int) / t482)))) = some (r1, r2) := H
 have A4 := xA.mk A40
 clear A40
 by_cases c5 : t482 = 0
 ·
  rw [if_pos c5] at H
  exact absurd H (by simp)
 rw [if_neg c5] at H
 have c5b0 : (t482 == 0) = false := jg c5
 have c5b1 : (t482 != 0) = true := bne_iff_ne.mpr c5
 simp only [Option.some.injEq, Prod.mk.injEq] at H
 obtain ⟨rfl, rfl⟩ := H
 go_enter Try.func74, Try.ntmps74
 try go_wp2_with (first | ((with_reducible refine xZ (N := 4) rfl ?_); refine yD ?hg (N := 4) ?hd (cs := #[.int .i64 0, .int .i64 0]) (t := 37) ?hr ?_; (case hd => rfl); (case hg => rfl); (case hr => first | (go_simp; done) | (go_simp; rfl)); intro gb480 hg w6 hbox hb; have n0_ := xA.mk (xD qa hb); have n1_ := xA.mk (hbox); have n2_ := xA.mk ((by rw [hg]; exact (xB qa) : w.heap.size ≤ gb480)); have n3_ := xA.mk ((by rw [hg]; exact (xB qa) : w.heap.size ≤ gb480)); clear HB; have HB := n0_; have BK480 := n1_; have GW480 := n2_; have GE480 := n3_; clear n0_ n1_ n2_ n3_; clear hb hbox hg) | ((with_reducible refine xG (f := 73) rfl ?_); refine xM (some 9) rfl rfl Try.func73 jk rfl #[.slice A0 l0.length c0, .slice A1 l1.length c1] rfl qc ?_; (with_reducible refine (r5weight.calls k _ _ l0 _ _ l1 t481 _ ?side1 ?side2 ?side3 ?side4 A3.out).mono ?_); (case side1 => exact qm (Kd.xQ HR0.out HB.out)); (case side2 => exact HC0.out); (case side3 => exact qm (Kd.xQ HR1.out HB.out)); (case side4 => exact HC1.out); rintro e w' ⟨rfl, ⟨nd, rfl⟩⟩; refine ⟨_, rfl, ?_⟩; (try (rw [drewN_self w6]; generalize hq_ : World.drewN w6 _ = w6; have n0_ : xA (w6.heap[gb480]? = some (.cells #[.int .i64 0, .int .i64 0] 37 (0, 0))) := ⟨by rw [← hq_]; exact (qn BK480.out)⟩; have n1_ : xA (Below w.heap.size w w6) := ⟨by rw [← hq_]; exact (qo GE480.out)⟩; clear BK480 HB hq_; have BK480 := n0_; have HB := n1_; clear n0_ n1_))) | ((with_reducible refine xG (f := 95) rfl ?_); refine xM (some 13) rfl rfl Try.func95 jk rfl #[.int .i64 t481, .int .i64 (l1.length : Int)] rfl qc ?_; (with_reducible refine (r5gcd.calls k t481 (l1.length : Int) t482 _ A4.out).mono ?_); rintro e w7 ⟨rfl, hb⟩; refine ⟨_, rfl, ?_⟩; replace BK480 := xA.mk (xO (g := gb480) (o := .cells #[.int .i64 0, .int .i64 0] 37 (0, 0)) (qn BK480.out) hb); replace HB := xA.mk (xD (qo GE480.out) hb); (try clear hb); (try clear hb2); (try clear hk); (try clear hi)))
 have n0_ := xA.mk (xI BK480.out)
 have n1_ := xA.mk (xS HB.out)
 clear BK480
 clear HB
 have BK480 := n0_
 have HB := n1_
 clear n0_ n1_
 refine start_ (n := 9) (S := fun w' => True) (ds := []) (jl 9 0) jk rfl rfl trivial (fun hHeld => ?_); refine with_tabW r5pace.tab3 r5pace.bits3 (fun HT_ HW_ => ?_)
 generalize w7.drew = w8 at BK480 HB hHeld ⊢
 refine pure_ (i := 0) (N := some 14) (v := ?_) (a' := ?_) (jl 9 1) rfl rfl (xL HT_.out jk) (fun _ _ _ h => h) (Or.inl ⟨by rfl, ?_⟩) ?_ ?_
 rotate_left
 ·
  intro w'
  go_simp
  with_reducible rfl
 rotate_left
 ·
  simp only [Act.put, qy, qz, ja, i64_w, i32_w]
  rfl
 refine pure_ (i := 1) (N := some 15) (v := ?_) (a' := ?_) (jl 9 3) rfl rfl (xL HT_.out jk) (fun _ _ _ h => h) (Or.inl ⟨by rfl, ?_⟩) ?_ ?_
 rotate_left
 ·
  intro w'
  go_simp
  with_reducible rfl
 rotate_left
 ·
  simp only [Act.put, qy, qz, ja, i64_w, i32_w]
  rfl
 refine pure_ (i := 2) (N := some 16) (v := ?_) (a' := ?_) (jl 9 7) rfl rfl (xL HT_.out jk) (fun _ _ _ h => h) (Or.inl ⟨by rfl, ?_⟩) ?_ ?_
 rotate_left
 ·
  intro w'
  go_simp
  with_reducible rfl
 rotate_left
 ·
  simp only [Act.put, qy, qz, ja, i64_w, i32_w]
  rfl
 refine pure_ (i := 3) (N := some 17) (v := ?_) (a' := ?_) (jl 9 15) rfl rfl (xL HT_.out jk) (fun _ _ _ h => h) (Or.inl ⟨by rfl, ?_⟩) ?_ ?_
 rotate_left
 ·
  intro w'
  go_simp
  with_reducible rfl
 rotate_left
 ·
  simp only [Act.put, qy, qz, ja, i64_w, i32_w]
  rfl
 refine pure_ (i := 4) (N := some 18) (v := ?_) (a' := ?_) (jl 9 31) rfl rfl (xL HT_.out jk) (fun _ _ _ h => h) (Or.inl ⟨by rfl, ?_⟩) ?_ ?_
 rotate_left
 ·
  intro w'
  go_simp
  with_reducible rfl
 rotate_left
 ·
  simp only [Act.put, qy, qz, ja, i64_w, i32_w]
  rfl
 refine pure_ (i := 5) (N := some 19) (v := ?_) (a' := ?_) (jl 9 63) rfl rfl (xL HT_.out jk) (fun _ _ _ h => h) (Or.inl ⟨by rfl, ?_⟩) ?_ ?_
 rotate_left
 ·
  intro w'
  go_simp
  with_reducible rfl
 rotate_left
 ·
  simp only [Act.put, qy, qz, ja, i64_w, i32_w]
  rfl
 refine pure_ (i := 6) (N := some 20) (v := ?_) (a' := ?_) (jl 9 127) rfl rfl (xL HT_.out jk) (fun _ _ _ h => h) (Or.inl ⟨by rfl, ?_⟩) ?_ ?_
 rotate_left
 ·
  intro w'
  go_simp
  with_reducible rfl
 rotate_left
 ·
  simp only [Act.put, qy, qz, ja, i64_w, i32_w]
  rfl
 refine pure_ (i := 7) (N := some 21) (v := ?_) (a' := ?_) (jl 9 255) rfl rfl (xL HT_.out jk) (fun _ _ _ h => h) (Or.inl ⟨by rfl, ?_⟩) ?_ ?_
 rotate_left
 ·
  intro w'
  go_simp
  with_reducible rfl
 rotate_left
 ·
  simp only [Act.put, qy, qz, ja, i64_w, i32_w]
  rfl
 refine one_ (i := 8) (N := none) (jl 9 511) rfl rfl (one_of HT_.out jk) (by decide) (fun K hK => ?_)
 have hs9 : w8.cell? ⟨gb480, 0, none⟩ = some (.int .i64 0) := (xE BK480.out 0).trans rfl
 have hfs9 := xC BK480.out 0
 have hs10 : w8.cell? ⟨gb480, 1, none⟩ = some (.int .i64 0) := (xE BK480.out 1).trans rfl
 have hfs10 := xC BK480.out 1
 refine skip_ (w1 := ?_) (by rfl) rfl ?_ ?_
 rotate_left
 ·
  go_simp
  rfl
 refine hK.out _ _ trivial (fun hHeld => ?_)
 clear hK K
 refine done_ (done_of HT_.out jk) ?_
 try go_wp2
 refine bodyPost_ret (results_cell_row rfl _ _ gb480 37 #[.int .i64 (wrap64 (Int.tdiv t481 t482)), .int .i64 (wrap64 ((l1.length : Int) / t482))] (0, 0) _ rfl (by refine xV (cs := #[.int .i64 (wrap64 (Int.tdiv t481 t482)), .int .i64 0]) ?_ 1 _ rfl; refine xV (cs := #[.int .i64 0, .int .i64 0]) ?_ 0 _ rfl; exact BK480.out) Try.underlying37 rfl jk) rfl ?_
 exact ⟨rfl, by repeat (first | exact HB.out | apply xY | apply xN | apply xS | refine xR ?_ GE480.out)⟩
def r5Speed.f (k : Nat) (l0 : List (List Int)) : Option (Int × Int × Int) := (r5Matrix.f k l0).bind fun t484 => (if t484 = true then ((r5best.f k l0).bind fun t485 => (if (t485.length : Int) = 0 then (some (0, 0, 10)) else ((r5pace.f k l0 t485).bind fun bt488 => (some (bt488.1, bt488.2, 0))))) else (some (0, 0, 2)))
theorem r5Speed.calls (k : Nat) (A0 : Option Addr) (c0 : Nat) (l0 : List (List Int)) (r1 : Int) (r2 : Int) (r3 : Int) (w : World) (hr0 : Kd.C (Kd.slice 3 (Kd.int .i64)) w A0 l0.length l0) (hc0 : l0.length ≤ c0) (h : r5Speed.f k l0 = some (r1, r2, r3)) :
  Calls Try.prog 32 #[.slice A0 l0.length c0] w fun e w' => e = .returned (.tuple #[.agg #[.int .i64 r1, .int .i64 r2], .int .i64 r3]) ∧ Below w.heap.size w w' := by
 have hu37 := Try.underlying37
 have HR0 := xA.mk hr0
 have HC0 := xA.mk hc0
 clear hr0 hc0
 have HB := xA.mk (Below.refl w.heap.size w)
 have H : ((r5Matrix.f k l0).bind fun t484 => (if t484 = true then ((r5best.f k l0).bind fun t485 => (if (t485.length : Int) = 0 then (some (0, 0, 10)) else ((r5pace.f k l0 t485).bind fun bt488 => (some (bt488.1, bt488.2, 0))))) else (some (0, 0, 2)))) = some (r1, r2, r3) := h
 clear h
 replace H := qw H
 obtain ⟨t484, A20, H⟩ := H
 replace H : (if t484 = true then ((r5best.f k l0).bind fun t485 => (if (t485.length : Int) = 0 then (some (0, 0, 10)) else ((r5pace.f k l0 t485).bind fun bt488 => (some (bt488.1, bt488.2, 0))))) else (some (0, 0, 2))) = some (r1, r2, r3) := H
 have A2 := xA.mk A20
 clear A20
 by_cases c3 : t484 = true
 rotate_left
 ·
  replace c3 := Bool.eq_false_iff.mpr c3
  subst c3
  have H1 : (some (0, 0, 2)) = some (r1, r2, r3) := by rw [if_neg (show ¬ (false = true) by decide)] at H; exact H
  clear H
  have H := H1
  clear H1
  simp only [Option.some.injEq, Prod.mk.injEq] at H
  obtain ⟨rfl, rfl, rfl⟩ := H
  go_enter Try.func32, Try.ntmps32
  go_wp2_with (first | ((with_reducible refine xZ (N := 2) rfl ?_); refine yD ?hg (N := 2) ?hd (cs := #[.int .i64 0, .int .i64 0]) (t := 37) ?hr ?_; (case hd => rfl); (case hg => rfl); (case hr => go_simp); intro gb483 hg w16 hbox hb; have n0_ := xA.mk (xD (HB.out) hb); have n1_ := xA.mk (hbox); have n2_ := xA.mk ((by rw [hg]; exact (xB (HB.out)) : w.heap.size ≤ gb483)); have n3_ := xA.mk ((by rw [hg]; exact (xB (HB.out)) : w.heap.size ≤ gb483)); clear HB; have HB := n0_; have BK483 := n1_; have GW483 := n2_; have GE483 := n3_; clear n0_ n1_ n2_ n3_; clear hb hbox hg) | ((with_reducible refine xG (f := 49) rfl ?_); refine xM (some 6) rfl rfl Try.func49 jk rfl #[.slice A0 l0.length c0] rfl qd ?_; (with_reducible refine (r5Matrix.calls k _ _ l0 false _ ?side1 ?side2 A2.out).mono ?_); (case side1 => repeat (first | exact (Kd.xQ HR0.out HB.out))); (case side2 => exact HC0.out); rintro e w' ⟨rfl, ⟨nd, rfl⟩⟩; refine ⟨_, rfl, ?_⟩; (try (rw [drewN_self w16]; generalize hq_ : World.drewN w16 _ = w16; have n0_ : xA (w16.heap[gb483]? = some (.cells #[.int .i64 0, .int .i64 0] 37 (0, 0))) := ⟨by rw [← hq_]; exact (by exact BK483.out)⟩; have n1_ : xA (Below w.heap.size w w16) := ⟨by rw [← hq_]; exact (HB.out)⟩; clear BK483 HB hq_; have BK483 := n0_; have HB := n1_; clear n0_ n1_)); have hcz17_0 : w16.cell? ⟨gb483, 0, none⟩ = some (.int .i64 0) := (xE BK483.out 0).trans rfl; have hcz17_1 : w16.cell? ⟨gb483, 1, none⟩ = some (.int .i64 0) := (xE BK483.out 1).trans rfl; have hfz17_0 := xC BK483.out 0; have hfz17_1 := xC BK483.out 1))
  refine bodyPost_ret (results_ct rfl _ _ gb483 37 #[.int .i64 0, .int .i64 0] (0, 0) _ rfl (by refine xV (cs := #[.int .i64 0, .int .i64 0]) ?_ 1 _ rfl; refine xV (cs := #[.int .i64 0, .int .i64 0]) ?_ 0 _ rfl; exact BK483.out) Try.underlying37 rfl jk) rfl ?_
  exact ⟨rfl, by repeat (first | exact HB.out | apply xY | apply xN | apply xS | refine xR ?_ GE483.out)⟩
 subst c3
 have H1 : ((r5best.f k l0).bind fun t485 => (if (t485.length : Int) = 0 then (some (0, 0, 10)) else ((r5pace.f k l0 t485).bind fun bt488 => (some (bt488.1, bt488.2, 0))))) = some (r1, r2, r3) := by rw [if_pos rfl] at H; exact H
 clear H
 have H := H1
 clear H1
 replace H := qw H
 obtain ⟨t485, A40, H⟩ := H
 replace H : (if (t485.length : Int) = 0 then (some (0, 0, 10)) else ((r5pace.f k l0 t485).bind fun bt488 => (some (bt488.1, bt488.2, 0)))) = some (r1, r2, r3) := H
 have A4 := xA.mk A40
 clear A40
 obtain ⟨⟨c5b0, c5b1⟩, H⟩ | ⟨c5, ⟨c5b0, c5b1⟩, H⟩ := itn_or H
 ·
  simp only [Option.some.injEq, Prod.mk.injEq] at H
  obtain ⟨rfl, rfl, rfl⟩ := H
  go_enter Try.func32, Try.ntmps32
  go_wp2_with (first | ((with_reducible refine xZ (N := 2) rfl ?_); refine yD ?hg (N := 2) ?hd (cs := #[.int .i64 0, .int .i64 0]) (t := 37) ?hr ?_; (case hd => rfl); (case hg => rfl); (case hr => first | (go_simp; done) | (go_simp; rfl)); intro gb483 hg w6 hbox hb; have n0_ := xA.mk (xD qa hb); have n1_ := xA.mk (hbox); have n2_ := xA.mk ((by rw [hg]; exact (xB qa) : w.heap.size ≤ gb483)); have n3_ := xA.mk ((by rw [hg]; exact (xB qa) : w.heap.size ≤ gb483)); clear HB; have HB := n0_; have BK483 := n1_; have GW483 := n2_; have GE483 := n3_; clear n0_ n1_ n2_ n3_; clear hb hbox hg) | ((with_reducible refine xG (f := 49) rfl ?_); refine xM (some 6) rfl rfl Try.func49 jk rfl #[.slice A0 l0.length c0] rfl qc ?_; (with_reducible refine (r5Matrix.calls k _ _ l0 true _ ?side1 ?side2 A2.out).mono ?_); (case side1 => exact qm (Kd.xQ HR0.out HB.out)); (case side2 => exact HC0.out); rintro e w' ⟨rfl, ⟨nd, rfl⟩⟩; refine ⟨_, rfl, ?_⟩; (try (rw [drewN_self w6]; generalize hq_ : World.drewN w6 _ = w6; have n0_ : xA (w6.heap[gb483]? = some (.cells #[.int .i64 0, .int .i64 0] 37 (0, 0))) := ⟨by rw [← hq_]; exact (qn BK483.out)⟩; have n1_ : xA (Below w.heap.size w w6) := ⟨by rw [← hq_]; exact (qo GE483.out)⟩; clear BK483 HB hq_; have BK483 := n0_; have HB := n1_; clear n0_ n1_))) | ((with_reducible refine xG (f := 72) rfl ?_); refine xM (some 10) rfl rfl Try.func72 jk rfl #[.slice A0 l0.length c0] rfl qc ?_; (with_reducible refine (r5best.calls k _ _ l0 t485 _ ?side1 ?side2 A4.out).mono ?_); (case side1 => exact qm (Kd.xQ HR0.out HB.out)); (case side2 => exact HC0.out); rintro e w7 ⟨v486, rfl, ho0, hz0_, hb⟩; refine ⟨_, rfl, ?_⟩; have HO487 := xA.mk (Kd.V_lower (Kd.V_mono (ok' := fun k_ => k_ ≠ gb483) ho0 (fun k_ hk_ => (Kd.freshB (g := gb483) (o := .cells #[.int .i64 0, .int .i64 0] 37 (0, 0)) (qn BK483.out) k_ hk_))) (xB (qo GE483.out))); replace BK483 := xA.mk (xO (g := gb483) (o := .cells #[.int .i64 0, .int .i64 0] 37 (0, 0)) (qn BK483.out) hb); replace HB := xA.mk (xD (qo GE483.out) hb); (try clear hb); (try clear hb2); (try clear hk); (try clear hi); (try clear ho0); obtain ⟨Ao8, co8, eo8⟩ := Kd.V_slice HO487.out; subst eo8; have he_ := Kd.V_eql (P := Try.prog) (t := 26) (e' := 3) Try.underlying26 HO487.out hz0_ c5b0; have hn_ := Kd.V_neq (P := Try.prog) (t := 26) (e' := 3) Try.underlying26 HO487.out hz0_ c5b1; clear hz0_; have hcz9_0 : w7.cell? ⟨gb483, 0, none⟩ = some (.int .i64 0) := (xE BK483.out 0).trans rfl; have hcz9_1 : w7.cell? ⟨gb483, 1, none⟩ = some (.int .i64 0) := (xE BK483.out 1).trans rfl; have hfz9_0 := xC BK483.out 0; have hfz9_1 := xC BK483.out 1))
  refine bodyPost_ret (results_ct rfl _ _ gb483 37 #[.int .i64 0, .int .i64 0] (0, 0) _ rfl (by (with_reducible repeat (first | refine xK ?_ _ | refine xI ?_ | refine xJ ?_ _)); refine xV (cs := #[.int .i64 0, .int .i64 0]) ?_ 1 _ rfl; (with_reducible repeat (first | refine xK ?_ _ | refine xI ?_ | refine xJ ?_ _)); refine xV (cs := #[.int .i64 0, .int .i64 0]) ?_ 0 _ rfl; (with_reducible repeat (first | refine xK ?_ _ | refine xI ?_ | refine xJ ?_ _)); exact BK483.out) Try.underlying37 rfl jk) rfl ?_
  exact ⟨qg, qo GE483.out⟩
 have c5b2 : ¬ (t485 = []) := fun h_ => c5 (by rw [h_]; rfl)
 replace H := qw H
 obtain ⟨⟨t488, t489⟩, A100, H⟩ := H
 replace H : (some (t488, t489, 0)) = some (r1, r2, r3) := H
 have A10 := xA.mk A100
 clear A100
 simp only [Option.some.injEq, Prod.mk.injEq] at H
 obtain ⟨rfl, rfl, rfl⟩ := H
 go_enter Try.func32, Try.ntmps32
 go_wp2_with (first | ((with_reducible refine xZ (N := 2) rfl ?_); refine yD ?hg (N := 2) ?hd (cs := #[.int .i64 0, .int .i64 0]) (t := 37) ?hr ?_; (case hd => rfl); (case hg => rfl); (case hr => first | (go_simp; done) | (go_simp; rfl)); intro gb483 hg w11 hbox hb; have n0_ := xA.mk (xD qa hb); have n1_ := xA.mk (hbox); have n2_ := xA.mk ((by rw [hg]; exact (xB qa) : w.heap.size ≤ gb483)); have n3_ := xA.mk ((by rw [hg]; exact (xB qa) : w.heap.size ≤ gb483)); clear HB; have HB := n0_; have BK483 := n1_; have GW483 := n2_; have GE483 := n3_; clear n0_ n1_ n2_ n3_; clear hb hbox hg) | ((with_reducible refine xG (f := 49) rfl ?_); refine xM (some 6) rfl rfl Try.func49 jk rfl #[.slice A0 l0.length c0] rfl qc ?_; (with_reducible refine (r5Matrix.calls k _ _ l0 true _ ?side1 ?side2 A2.out).mono ?_); (case side1 => exact qm (Kd.xQ HR0.out HB.out)); (case side2 => exact HC0.out); rintro e w' ⟨rfl, ⟨nd, rfl⟩⟩; refine ⟨_, rfl, ?_⟩; (try (rw [drewN_self w11]; generalize hq_ : World.drewN w11 _ = w11; have n0_ : xA (w11.heap[gb483]? = some (.cells #[.int .i64 0, .int .i64 0] 37 (0, 0))) := ⟨by rw [← hq_]; exact (qn BK483.out)⟩; have n1_ : xA (Below w.heap.size w w11) := ⟨by rw [← hq_]; exact (qo GE483.out)⟩; clear BK483 HB hq_; have BK483 := n0_; have HB := n1_; clear n0_ n1_))) | ((with_reducible refine xG (f := 72) rfl ?_); refine xM (some 10) rfl rfl Try.func72 jk rfl #[.slice A0 l0.length c0] rfl qc ?_; (with_reducible refine (r5best.calls k _ _ l0 t485 _ ?side1 ?side2 A4.out).mono ?_); (case side1 => exact qm (Kd.xQ HR0.out HB.out)); (case side2 => exact HC0.out); rintro e w12 ⟨v486, rfl, ho0, hz0_, hb⟩; refine ⟨_, rfl, ?_⟩; have HO487 := xA.mk (Kd.V_lower (Kd.V_mono (ok' := fun k_ => k_ ≠ gb483) ho0 (fun k_ hk_ => (Kd.freshB (g := gb483) (o := .cells #[.int .i64 0, .int .i64 0] 37 (0, 0)) (qn BK483.out) k_ hk_))) (xB (qo GE483.out))); replace BK483 := xA.mk (xO (g := gb483) (o := .cells #[.int .i64 0, .int .i64 0] 37 (0, 0)) (qn BK483.out) hb); replace HB := xA.mk (xD (qo GE483.out) hb); (try clear hb); (try clear hb2); (try clear hk); (try clear hi); (try clear ho0); obtain ⟨Ao13, co13, eo13⟩ := Kd.V_slice HO487.out; subst eo13; have he_ := Kd.V_eql (P := Try.prog) (t := 26) (e' := 3) Try.underlying26 HO487.out hz0_ c5b0; have hn_ := Kd.V_neq (P := Try.prog) (t := 26) (e' := 3) Try.underlying26 HO487.out hz0_ c5b1; clear hz0_) | ((with_reducible refine xG (f := 74) rfl ?_); refine xM (some 16) rfl rfl Try.func74 jk rfl #[.slice A0 l0.length c0, .slice Ao13 t485.length co13] rfl qc ?_; (with_reducible refine (r5pace.calls k _ _ l0 _ _ t485 t488 t489 _ ?side1 ?side2 ?side3 ?side4 A10.out).mono ?_); (case side1 => exact qm (Kd.xQ HR0.out HB.out)); (case side2 => exact HC0.out); (case side3 => exact qm (Kd.xW HO487.out).2.2); (case side4 => exact (Kd.xW HO487.out).2.1); rintro e w14 ⟨rfl, hb⟩; refine ⟨_, rfl, ?_⟩; replace HO487 := xA.mk (Kd.V_below (qj HO487.out) hb); replace BK483 := xA.mk (xO (g := gb483) (o := .cells #[.int .i64 0, .int .i64 0] 37 (0, 0)) (qn BK483.out) hb); replace HB := xA.mk (xD (qo GE483.out) hb); (try clear hb); (try clear hb2); (try clear hk); (try clear hi); have hcz15_0 : w14.cell? ⟨gb483, 0, none⟩ = some (.int .i64 0) := (xE BK483.out 0).trans rfl; have hcz15_1 : w14.cell? ⟨gb483, 1, none⟩ = some (.int .i64 0) := (xE BK483.out 1).trans rfl; have hfz15_0 := xC BK483.out 0; have hfz15_1 := xC BK483.out 1))
 refine bodyPost_ret (results_ct rfl _ _ gb483 37 #[.int .i64 t488, .int .i64 t489] (0, 0) _ rfl (by (with_reducible repeat (first | refine xK ?_ _ | refine xI ?_ | refine xJ ?_ _)); refine xV (cs := #[.int .i64 t488, .int .i64 0]) ?_ 1 _ rfl; (with_reducible repeat (first | refine xK ?_ _ | refine xI ?_ | refine xJ ?_ _)); refine xV (cs := #[.int .i64 0, .int .i64 0]) ?_ 0 _ rfl; (with_reducible repeat (first | refine xK ?_ _ | refine xI ?_ | refine xJ ?_ _)); exact BK483.out) Try.underlying37 rfl jk) rfl ?_
 exact ⟨qg, qo GE483.out⟩
mutual
def r5One.l0 : Nat → Int → List (List Int) → Int → Option ((List (List Int)))
 | 0, _, _, _ => none
 | k + 1, x0, x3, x4 => if x4 < x0 then (if 0 ≤ x0 then (if (x0 : Int).toNat ≤ 35184372088832 then (r5One.l1 k x0 x3 x4 (List.replicate (x0 : Int).toNat 0) 0) else (none)) else (none)) else (some x3)
def r5One.l1 : Nat → Int → List (List Int) → Int → List Int → Int → Option ((List (List Int)))
 | 0, _, _, _, _, _ => none
 | k + 1, x0, x3, x4, x5, x6 => if x6 < x0 then (if x4 = x6 then (r5One.l1 k x0 x3 x4 x5 (wrap64 (x6 + 1))) else (if 0 ≤ x6 then (if x6 < (x5.length : Int) then (r5One.l1 k x0 x3 x4 (x5.set (x6 : Int).toNat (-1152921504606846976)) (wrap64 (x6 + 1))) else (none)) else (none))) else (if x3.length < 5864062014805 then (r5One.l0 k x0 (x3 ++ [x5]) (wrap64 (x4 + 1))) else (none))
end
def r5One.f (k : Nat) (a0 : Int) : Option ((List (List Int))) := r5One.l0 k a0 ([] : List (List Int)) 0
theorem r5One.calls (k : Nat) (a0 : Int) (r : List (List Int)) (w : World) (h : r5One.f k a0 = some r) :
  Calls Try.prog 61 #[.int .i64 a0] w fun e w' => ∃ v0_ : Value, e = .returned (v0_) ∧ Kd.S (Kd.slice 3 (Kd.int .i64)) 26 w' w.heap.size (fun _ => True) v0_ r ∧ Below w.heap.size w w' := by
 have HB := xA.mk (Below.refl w.heap.size w)
 have H : (r5One.l0 k a0 ([] : List (List Int)) 0) = some r := h
 clear h
 have H' := xA.mk H
 clear H
 go_enter Try.func61, Try.ntmps61
 go_wp2
 go_loopg [3, 4] k (fun kq v3 v4 w' => ∃ (x3_1 : List (List Int)) (x4_1 : Int), v4 = .int .i64 x4_1 ∧ xA (r5One.l0 kq a0 x3_1 x4_1 = some r) ∧ xA (kq ≤ k) ∧ xA (Kd.S (Kd.slice 3 (Kd.int .i64)) 26 w' w.heap.size (fun _ => True) v3 x3_1) ∧ xA (Below w.heap.size w w'))
 case atStart => exact ⟨(([] : List (List Int))), (0), rfl, H', ⟨Nat.le_refl _⟩, ⟨by first | exact Kd.S_nil _ _ _ _ _ | exact Kd.N_nil _ _ _ _ _ | exact Kd.V_nil _ _ _ _ _ | exact Kd.Q_nil _ _ _ _ _ | exact Kd.R_nil _ _ _ _ _⟩, ⟨HB.out⟩⟩
 case round =>
  clear H'
  obtain ⟨x3_1, x4_1, rfl, HA, HK1, HO_3, HB⟩ := hrel
  obtain _ | k1 := gk
  · exact absurd HA.out (by simp [r5One.l0])
  have H := HA.out
  clear HA
  simp only [r5One.l0] at H
  obtain ⟨c2b0, H⟩ | ⟨c2b0, H⟩ := yA H
  rotate_left
  ·
   obtain rfl := qx H
   go_wp2
   go_ret
   exact ⟨_, rfl, by exact HO_3.out, HB.out⟩
  obtain ⟨c3, H⟩ := yF H
  have c3b0 := eq_true c3
  have c3b1 : decide (0 ≤ a0) = true := qu c3
  clear c3
  obtain ⟨c4, H⟩ := yF H
  have c4b0 := eq_true c4
  have c4b1 : decide ((a0 : Int).toNat ≤ 35184372088832) = true := qu c4
  clear c4
  obtain ⟨y490, hy490⟩ : ∃ y_ : List Int, y_ = (List.replicate (a0 : Int).toNat 0) := ⟨_, rfl⟩
  replace H : (r5One.l1 k1 a0 x3_1 x4_1 y490 0) = some r := by first | (rw [hy490]; with_reducible exact H) | (have H2_ := (Option.bind_some _ _).symm.trans H; rw [hy490]; with_reducible exact H2_) | (have H2_ := (Option.bind_some _ _).symm.trans H; with_reducible exact H2_) | with_reducible exact H | (rw [hy490]; exact H) | exact H
  have Ny490 := xA.mk hy490
  clear hy490
  have H' := xA.mk H
  clear H
  go_wp2_with (first | ((with_reducible refine xZ (N := 13) rfl ?_); refine Kd.R_make (Kd.int .i64) _ 3 rfl (N := 13) rfl 26 _ _ rfl a0 rfl rfl Try.underlying26 (.int .i64 0) 8 info3 rfl (by decide) jj 0 (ok := fun _ => True) (okp := fun _ => True) rfl (fun _ hk => hk) trivial (qr) (Nat.le_trans (Nat.mul_le_mul_right _ (qr : a0.toNat ≤ 35184372088832)) jj) (Below.refl _ _) (Nat.le_refl _) ?_; intro v491 w5 ho6 hb hg_ hnew_; clear hg_ hnew_; (first | rw [← Ny490.out] at ho6 | (simp only [Int.reduceToNat] at ho6; rw [← Ny490.out] at ho6)); replace HO_3 := xA.mk (Kd.S_elder' (qh HO_3.out) (Kd.R_base ho6) hb); have HO492 := xA.mk (Kd.R_lower ho6 (xB qa)); replace HB := xA.mk (xD qa hb); clear hb ho6))
  go_loopg [6] k1 (fun kq v6 w' => ∃ (x5_2 : List Int) (x6_2 : Int), v6 = .int .i64 x6_2 ∧ xA (r5One.l1 kq a0 x3_1 x4_1 x5_2 x6_2 = some r) ∧ xA (kq ≤ k1) ∧ xA (Kd.S (Kd.slice 3 (Kd.int .i64)) 26 w' w.heap.size (fun k_ => some k_ ≠ (v491 : Value).ownBlock) u3 x3_1) ∧ xA (Kd.R (Kd.int .i64) 3 w' w.heap.size (fun _ => True) v491 x5_2) ∧ xA (Below w.heap.size w w'))
  case atStart => exact ⟨(y490), (0), qf, H', ⟨Nat.le_refl _⟩, ⟨by (with_reducible repeat (first | apply Kd.S_alloc | apply Kd.S_drewN | apply Kd.S_drew)); exact Kd.xT HO_3.out (fun _ hk => hk.2)⟩, ⟨qi HO492.out⟩, ⟨qa⟩⟩
  case round =>
   clear H'
   try clear c2
   try clear c2b0
   try clear p2
   try clear c3
   try clear c3b0
   try clear c3b1
   try clear c4
   try clear c4b0
   obtain ⟨x5_2, x6_2, rfl, HA, HK2, HO_3, HO_5, HB⟩ := hrel
   obtain _ | k2 := gk
   · exact absurd HA.out (by simp [r5One.l1])
   have H := HA.out
   clear HA
   simp only [r5One.l1] at H
   obtain ⟨c7b0, H⟩ | ⟨c7b0, H⟩ := yA H
   rotate_left
   ·
    obtain ⟨c14, H⟩ := yF H
    have LMc14 := xA.mk c14
    clear c14
    obtain ⟨y494, hy494⟩ : ∃ y_ : List (List Int), y_ = (x3_1 ++ [x5_2]) := ⟨_, rfl⟩
    replace H : (r5One.l0 k2 a0 y494 (wrap64 (x4_1 + 1))) = some r := by rw [hy494]; exact H
    have Ny494 := xA.mk hy494
    clear hy494
    have H' := xA.mk H
    clear H
    obtain ⟨Ao16, co16, eo16⟩ := Kd.R_slice HO_5.out
    subst eo16
    go_wp2_with (first | ((with_reducible refine gate_builtin (b := .append) (xs := #[.tmp 25, .tmp 27]) rfl ?_); at_builtin; refine Kd.S_append (Kd.slice 3 (Kd.int .i64)) (w0 := w) w.heap.size rfl (.tmp 25) (.tmp 27) 22 26 (.slice none 0 0) 24 rfl Try.underlying22 info26 rfl (by decide) jj u3 x3_1 x5_2 [.slice Ao16 x5_2.length co16] (fun _ => True) (fun k_ => some k_ = (.slice Ao16 x5_2.length co16 : Value).ownBlock) rfl rfl ?aP (fun k_ hk_ => ((Kd.R_mono (ok' := fun k_ => ((fun _ => True)) k_ ∧ some k_ ≠ (u3 : Value).ownBlock) (Kd.R_apart' (HO_5.out) (Kd.S_typed HO_3.out) (by decide)) (fun k_ hk => ⟨trivial, hk.2⟩))).1 k_ hk_.symm) ?aF ?aO ?aB ?aS ?aL ?_; (case aP => exact Kd.M_row (Kd.R_mono (Kd.R_tight rfl (Kd.R_mono (ok' := fun k_ => ((fun _ => True)) k_ ∧ some k_ ≠ (u3 : Value).ownBlock) (Kd.R_apart' (HO_5.out) (Kd.S_typed HO_3.out) (by decide)) (fun k_ hk => ⟨trivial, hk.2⟩))) (fun _ h_ => h_))); (case aB => exact (HB.out)); (case aF => exact (fun _ _ => trivial)); (case aO => exact (by exact Kd.xT HO_3.out (fun k_ hk => ⟨trivial, fun e_ => hk e_⟩))); (case aS => exact (xB (HB.out))); (case aL => have := LMc14.out; omega); intro v495 w15 ho hb hg hat; rw [← Ny494.out] at ho; have n0_ := xA.mk (hb); have n1_ := xA.mk (ho); clear HB; clear HO_3; clear HO_5; have HB := n0_; have HO496 := n1_; clear n0_ n1_; clear ho hb hg hat))
    go_roundg k2
    case measure => have := HK1.out; have := HK2.out; omega
    case rel => exact ⟨(y494), (wrap64 (x4_1 + 1)), rfl, H', ⟨by have := HK1.out; have := HK2.out; omega⟩, ⟨by exact HO496.out⟩, ⟨HB.out⟩⟩
   by_cases c8 : x4_1 = x6_2
   ·
    rw [if_pos c8] at H
    have c8b0 : (x4_1 == x6_2) = true := beq_iff_eq.mpr c8
    clear c8
    have H' := xA.mk H
    clear H
    go_wp2
    go_roundg k2
    case measure => have := HK1.out; have := HK2.out; omega
    case rel => exact ⟨(x5_2), (wrap64 (x6_2 + 1)), rfl, H', ⟨by have := HK1.out; have := HK2.out; omega⟩, ⟨by exact HO_3.out⟩, ⟨by exact HO_5.out⟩, ⟨HB.out⟩⟩
   rw [if_neg c8] at H
   have c8b0 : (x4_1 == x6_2) = false := jg c8
   obtain ⟨c9b0, H⟩ := xF H
   obtain ⟨c10b0, H⟩ := xF H
   obtain ⟨y493, hy493⟩ : ∃ y_ : List Int, y_ = (x5_2.set (x6_2 : Int).toNat (-1152921504606846976)) := ⟨_, rfl⟩
   replace H : (r5One.l1 k2 a0 x3_1 x4_1 y493 (wrap64 (x6_2 + 1))) = some r := by rw [hy493]; exact H
   have Ny493 := xA.mk hy493
   clear hy493
   have H' := xA.mk H
   clear H
   have p11 : 0 ≤ (x6_2 : Int) := qq
   have q11 : (x6_2 : Int) < ((x5_2.length : Int) : Int) := qq
   obtain ⟨go11, co11, eo11, gb11, gl11, cl11, HG11⟩ := Kd.R_form HO_5.out jj
   (first | cases eo11 | (injection eo11 with ea_ en_ ec_; (first | subst ea_ | (injection ea_ with ea_; subst ea_)); subst ec_; clear en_))
   have GB11 := xA.mk gb11
   have GG11 := xA.mk HG11
   clear gb11 gl11 HG11
   obtain ⟨hx11_0, hf11_0⟩ := Kd.R_celln 0 HO_5.out (x6_2 : Int) p11 q11
   replace p11 := eq_true p11
   replace q11 := eq_true q11
   have HP12 := Kd.R_putg HO_5.out (x6_2 : Int) (-1152921504606846976)
   go_wp2_with (first | ((with_reducible refine gate_store (t := 3) (p := 24) rfl ?_); refine store_event (t := 3) (p := 24) (v := ?vo_w13) (w1 := (wr.setCell ⟨go11, (x6_2 : Int).toNat, none⟩ (.int .i64 (-1152921504606846976)))) ?hg ?ho ?hn ?hr ?_; (case ho => rfl); (case hg => rfl); (case hn => rfl); (case hr => go_simp); intro w13 hw; have hg : wr.grownBy w13 (some go11) := (by rw [hw]; exact HP12.2); have hp_ : Kd.R (Kd.int .i64) 3 w13 w.heap.size (fun _ => True) (.slice (some ⟨go11, 0, none⟩) x5_2.length co11) y493 := (by rw [hw, Ny493.out]; exact HP12.1); clear HP12; have n0_ := xA.mk (Kd.S_after (v := (.slice (some ⟨go11, 0, none⟩) x5_2.length co11)) (v1 := (.slice (some ⟨go11, 0, none⟩) x5_2.length co11)) (ok := (fun _ => True)) (by exact Kd.xT HO_3.out (fun _ hk => ⟨trivial, hk⟩)) hg (.inl rfl)); have n1_ := xA.mk (hp_); have n2_ := xA.mk ((by rw [hw]; exact xR (HB.out) GB11.out : Below w.heap.size w w13)); clear HO_3; clear HO_5; clear HB; have HO_3 := n0_; have HO_5 := n1_; have HB := n2_; clear n0_ n1_ n2_; clear hg hw hp_))
   go_roundg k2
   case measure => have := HK1.out; have := HK2.out; omega
   case rel => exact ⟨(y493), (wrap64 (x6_2 + 1)), rfl, H', ⟨by have := HK1.out; have := HK2.out; omega⟩, ⟨by exact Kd.xT HO_3.out (fun _ hk => hk.2)⟩, ⟨by exact HO_5.out⟩, ⟨HB.out⟩⟩
def r5plus.f (a0 : Int) (a1 : Int) : Option (Int) := if a0 = (-1152921504606846976) then (some (-1152921504606846976)) else (if a1 = (-1152921504606846976) then (some (-1152921504606846976)) else (some (wrap64 (a0 + a1))))
theorem r5plus.calls (a0 : Int) (a1 : Int) (r : Int) (w : World) (h : r5plus.f a0 a1 = some r) :
  Calls Try.prog 77 #[.int .i64 a0, .int .i64 a1] w fun e w' => e = .returned (.int .i64 r) ∧ Drawn0 w w' := by
 have H : (if a0 = (-1152921504606846976) then (some (-1152921504606846976)) else (if a1 = (-1152921504606846976) then (some (-1152921504606846976)) else (some (wrap64 (a0 + a1))))) = some r := h
 clear h
 by_cases c3 : a0 = (-1152921504606846976)
 ·
  rw [if_pos c3] at H
  have c3b0 : (a0 == (-1152921504606846976)) = true := beq_iff_eq.mpr c3
  clear c3
  obtain rfl := qx H
  go_enter Try.func77, Try.ntmps77
  go_wp2
  go_ret
  exact ⟨qf, qe⟩
 ·
  rw [if_neg c3] at H
  have c3b0 : (a0 == (-1152921504606846976)) = false := jg c3
  by_cases c4 : a1 = (-1152921504606846976)
  ·
   rw [if_pos c4] at H
   have c4b0 : (a1 == (-1152921504606846976)) = true := beq_iff_eq.mpr c4
   clear c4
   obtain rfl := qx H
   go_enter Try.func77, Try.ntmps77
   go_wp2
   go_ret
   exact ⟨qf, qe⟩
  ·
   rw [if_neg c4] at H
   have c4b0 : (a1 == (-1152921504606846976)) = false := jg c4
   obtain rfl := qx H
   go_enter Try.func77, Try.ntmps77
   go_wp2
   go_ret
   exact ⟨qf, qe⟩
mutual
def r5Product.l0 : Nat → List (List Int) → List (List Int) → List (List Int) → Int → Option ((List (List Int)))
 | 0, _, _, _, _ => none
 | k + 1, x0, x1, x5, x6 => if x6 < (x0.length : Int) then (r5Product.l1 k x0 x1 x5 x6 ([] : List Int) 0) else (some x5)
def r5Product.l1 : Nat → List (List Int) → List (List Int) → List (List Int) → Int → List Int → Int → Option ((List (List Int)))
 | 0, _, _, _, _, _, _ => none
 | k + 1, x0, x1, x5, x6, x7, x8 => if x8 < (x0.length : Int) then (r5Product.l2 k x0 x1 x5 x6 x7 x8 (-1152921504606846976) 0) else (if x5.length < 5864062014805 then (r5Product.l0 k x0 x1 (x5 ++ [x7]) (wrap64 (x6 + 1))) else (none))
def r5Product.l2 : Nat → List (List Int) → List (List Int) → List (List Int) → Int → List Int → Int → Int → Int → Option ((List (List Int)))
 | 0, _, _, _, _, _, _, _, _ => none
 | k + 1, x0, x1, x5, x6, x7, x8, x9, x10 => if x10 < (x0.length : Int) then (if 0 ≤ x6 then (if x6 < (x0.length : Int) then (if 0 ≤ x10 then (if x10 < ((rd_L1 x0 x6).length : Int) then (if x10 < (x1.length : Int) then (if 0 ≤ x8 then (if x8 < ((rd_L1 x1 x10).length : Int) then ((r5plus.f (rd (rd_L1 x0 x6) x10) (rd (rd_L1 x1 x10) x8)).bind fun t504 => (r5Product.l2 k x0 x1 x5 x6 x7 x8 (mx x9 t504) (wrap64 (x10 + 1)))) else (none)) else (none)) else (none)) else (none)) else (none)) else (none)) else (none)) else (if x7.length < 17592186044416 then (r5Product.l1 k x0 x1 x5 x6 (x7 ++ [x9]) (wrap64 (x8 + 1))) else (none))
end
def r5Product.f (k : Nat) (l0 : List (List Int)) (l1 : List (List Int)) : Option ((List (List Int))) := r5Product.l0 k l0 l1 ([] : List (List Int)) 0
theorem r5Product.calls (k : Nat) (A0 : Option Addr) (c0 : Nat) (l0 : List (List Int)) (A1 : Option Addr) (c1 : Nat) (l1 : List (List Int)) (r : List (List Int)) (w : World) (hr0 : Kd.C (Kd.slice 3 (Kd.int .i64)) w A0 l0.length l0) (hc0 : l0.length ≤ c0) (hr1 : Kd.C (Kd.slice 3 (Kd.int .i64)) w A1 l1.length l1) (hc1 : l1.length ≤ c1) (h : r5Product.f k l0 l1 = some r) :
  Calls Try.prog 62 #[.slice A0 l0.length c0, .slice A1 l1.length c1] w fun e w' => ∃ v0_ : Value, e = .returned (v0_) ∧ Kd.S (Kd.slice 3 (Kd.int .i64)) 26 w' w.heap.size (fun _ => True) v0_ r ∧ Below w.heap.size w w' := by
 have HR0 := xA.mk hr0
 have HC0 := xA.mk hc0
 clear hr0 hc0
 have HR1 := xA.mk hr1
 have HC1 := xA.mk hc1
 clear hr1 hc1
 have HB := xA.mk (Below.refl w.heap.size w)
 have H : (r5Product.l0 k l0 l1 ([] : List (List Int)) 0) = some r := h
 clear h
 have H' := xA.mk H
 clear H
 go_enter Try.func62, Try.ntmps62
 go_wp2
 go_loopg [5, 6] k (fun kq v5 v6 w' => ∃ (x5_1 : List (List Int)) (x6_1 : Int), v6 = .int .i64 x6_1 ∧ xA (r5Product.l0 kq l0 l1 x5_1 x6_1 = some r) ∧ xA (kq ≤ k) ∧ xA (Kd.S (Kd.slice 3 (Kd.int .i64)) 26 w' w.heap.size (fun _ => True) v5 x5_1) ∧ xA (Below w.heap.size w w'))
 case atStart => exact ⟨(([] : List (List Int))), (0), rfl, H', ⟨Nat.le_refl _⟩, ⟨by first | exact Kd.S_nil _ _ _ _ _ | exact Kd.N_nil _ _ _ _ _ | exact Kd.V_nil _ _ _ _ _ | exact Kd.Q_nil _ _ _ _ _ | exact Kd.R_nil _ _ _ _ _⟩, ⟨HB.out⟩⟩
 case round =>
  clear H'
  obtain ⟨x5_1, x6_1, rfl, HA, HK1, HO_5, HB⟩ := hrel
  obtain _ | k1 := gk
  · exact absurd HA.out (by simp [r5Product.l0])
  have H := HA.out
  clear HA
  simp only [r5Product.l0] at H
  obtain ⟨c3b0, H⟩ | ⟨c3b0, H⟩ := yA H
  rotate_left
  ·
   obtain rfl := qx H
   go_wp2
   go_ret
   exact ⟨_, rfl, by exact HO_5.out, HB.out⟩
  have H' := xA.mk H
  clear H
  go_wp2
  go_loopg [7, 8] k1 (fun kq v7 v8 w' => ∃ (x7_2 : List Int) (x8_2 : Int), v8 = .int .i64 x8_2 ∧ xA (r5Product.l1 kq l0 l1 x5_1 x6_1 x7_2 x8_2 = some r) ∧ xA (kq ≤ k1) ∧ xA (Kd.S (Kd.slice 3 (Kd.int .i64)) 26 w' w.heap.size (fun k_ => some k_ ≠ (v7 : Value).ownBlock) u5 x5_1) ∧ xA (Kd.R (Kd.int .i64) 3 w' w.heap.size (fun _ => True) v7 x7_2) ∧ xA (Below w.heap.size w w'))
  case atStart => exact ⟨(([] : List Int)), (0), rfl, H', ⟨Nat.le_refl _⟩, ⟨by exact Kd.xT HO_5.out (fun _ hk => (by simp [Value.ownBlock]))⟩, ⟨by first | exact Kd.R_nil _ _ _ _ _ | exact Kd.N_nil _ _ _ _ _ | exact Kd.V_nil _ _ _ _ _ | exact Kd.Q_nil _ _ _ _ _ | exact Kd.S_nil _ _ _ _ _⟩, ⟨HB.out⟩⟩
  case round =>
   clear H'
   obtain ⟨x7_2, x8_2, rfl, HA, HK2, HO_5, HO_7, HB⟩ := hrel
   obtain _ | k2 := gk
   · exact absurd HA.out (by simp [r5Product.l1])
   have H := HA.out
   clear HA
   simp only [r5Product.l1] at H
   obtain ⟨c4b0, H⟩ | ⟨c4b0, H⟩ := yA H
   rotate_left
   ·
    obtain ⟨c17, H⟩ := yF H
    have LMc17 := xA.mk c17
    clear c17
    obtain ⟨y497, hy497⟩ : ∃ y_ : List (List Int), y_ = (x5_1 ++ [x7_2]) := ⟨_, rfl⟩
    replace H : (r5Product.l0 k2 l0 l1 y497 (wrap64 (x6_1 + 1))) = some r := by rw [hy497]; exact H
    have Ny497 := xA.mk hy497
    clear hy497
    have H' := xA.mk H
    clear H
    obtain ⟨Ao19, co19, eo19⟩ := Kd.R_slice HO_7.out
    subst eo19
    go_wp2_with (first | ((with_reducible refine gate_builtin (b := .append) (xs := #[.tmp 50, .tmp 52]) rfl ?_); at_builtin; refine Kd.S_append (Kd.slice 3 (Kd.int .i64)) (w0 := w) w.heap.size rfl (.tmp 50) (.tmp 52) 22 26 (.slice none 0 0) 24 rfl Try.underlying22 info26 rfl (by decide) jj u5 x5_1 x7_2 [.slice Ao19 x7_2.length co19] (fun _ => True) (fun k_ => some k_ = (.slice Ao19 x7_2.length co19 : Value).ownBlock) rfl rfl ?aP (fun k_ hk_ => ((Kd.R_mono (ok' := fun k_ => ((fun _ => True)) k_ ∧ some k_ ≠ (u5 : Value).ownBlock) (Kd.R_apart' (HO_7.out) (Kd.S_typed HO_5.out) (by decide)) (fun k_ hk => ⟨trivial, hk.2⟩))).1 k_ hk_.symm) ?aF ?aO ?aB ?aS ?aL ?_; (case aP => exact Kd.M_row (Kd.R_mono (Kd.R_tight rfl (Kd.R_mono (ok' := fun k_ => ((fun _ => True)) k_ ∧ some k_ ≠ (u5 : Value).ownBlock) (Kd.R_apart' (HO_7.out) (Kd.S_typed HO_5.out) (by decide)) (fun k_ hk => ⟨trivial, hk.2⟩))) (fun _ h_ => h_))); (case aB => exact (HB.out)); (case aF => exact (fun _ _ => trivial)); (case aO => exact (by exact Kd.xT HO_5.out (fun k_ hk => ⟨trivial, fun e_ => hk e_⟩))); (case aS => exact (xB (HB.out))); (case aL => have := LMc17.out; omega); intro v498 w18 ho hb hg hat; rw [← Ny497.out] at ho; have n0_ := xA.mk (hb); have n1_ := xA.mk (ho); clear HB; clear HO_5; clear HO_7; have HB := n0_; have HO499 := n1_; clear n0_ n1_; clear ho hb hg hat))
    go_roundg k2
    case measure => have := HK1.out; have := HK2.out; omega
    case rel => exact ⟨(y497), (wrap64 (x6_1 + 1)), rfl, H', ⟨by have := HK1.out; have := HK2.out; omega⟩, ⟨by exact HO499.out⟩, ⟨HB.out⟩⟩
   have H' := xA.mk H
   clear H
   go_wp2
   go_loopg [9, 10] k2 (fun kq v9 v10 w' => ∃ (x9_3 : Int) (x10_3 : Int), v9 = .int .i64 x9_3 ∧ v10 = .int .i64 x10_3 ∧ xA (r5Product.l2 kq l0 l1 x5_1 x6_1 x7_2 x8_2 x9_3 x10_3 = some r) ∧ xA (kq ≤ k2) ∧ xA (Kd.S (Kd.slice 3 (Kd.int .i64)) 26 w' w.heap.size (fun k_ => some k_ ≠ (u7 : Value).ownBlock) u5 x5_1) ∧ xA (Kd.R (Kd.int .i64) 3 w' w.heap.size (fun _ => True) u7 x7_2) ∧ xA (Below w.heap.size w w'))
   case atStart => exact ⟨((-1152921504606846976)), (0), rfl, rfl, H', ⟨Nat.le_refl _⟩, ⟨by exact HO_5.out⟩, ⟨by exact HO_7.out⟩, ⟨HB.out⟩⟩
   case round =>
    clear H'
    obtain ⟨x9_3, x10_3, rfl, rfl, HA, HK3, HO_5, HO_7, HB⟩ := hrel
    obtain _ | k3 := gk
    · exact absurd HA.out (by simp [r5Product.l2])
    have H := HA.out
    clear HA
    simp only [r5Product.l2] at H
    obtain ⟨c5b0, H⟩ | ⟨c5b0, H⟩ := yA H
    rotate_left
    ·
     obtain ⟨c15, H⟩ := yF H
     have LMc15 := xA.mk c15
     clear c15
     obtain ⟨y505, hy505⟩ : ∃ y_ : List Int, y_ = (x7_2 ++ [x9_3]) := ⟨_, rfl⟩
     replace H : (r5Product.l1 k3 l0 l1 x5_1 x6_1 y505 (wrap64 (x8_2 + 1))) = some r := by rw [hy505]; exact H
     have Ny505 := xA.mk hy505
     clear hy505
     have H' := xA.mk H
     clear H
     go_wp2_with (first | ((with_reducible refine gate_builtin (b := .append) (xs := #[.tmp 46, .tmp 48]) rfl ?_); at_builtin; refine Kd.R_append (Kd.int .i64) (w0 := w) w.heap.size rfl (.tmp 46) (.tmp 48) 26 3 (.int .i64 0) 8 rfl Try.underlying26 info3 rfl (by decide) jj u7 x7_2 x9_3 [.int .i64 x9_3] (fun _ => True) (fun _ => False) rfl rfl ?aP (fun _ hk => hk.elim) ?aF ?aO ?aB ?aS ?aL ?_; (case aP => exact rfl); (case aB => exact (HB.out)); (case aF => exact (fun _ _ => trivial)); (case aO => exact (by exact HO_7.out)); (case aS => exact (xB (HB.out))); (case aL => have := LMc15.out; omega); intro v506 w16 ho hb hg hat; rw [← Ny505.out] at ho; have n0_ := xA.mk (Kd.S_after (ok := (fun _ => True)) (by exact Kd.xT HO_5.out (fun _ hk => ⟨trivial, hk⟩)) hg hat); have n1_ := xA.mk (hb); have n2_ := xA.mk (ho); clear HO_5; clear HB; clear HO_7; have HO_5 := n0_; have HB := n1_; have HO507 := n2_; clear n0_ n1_ n2_; clear ho hb hg hat))
     go_roundg k3
     case measure => have := HK1.out; have := HK2.out; have := HK3.out; omega
     case rel => exact ⟨(y505), (wrap64 (x8_2 + 1)), rfl, H', ⟨by have := HK1.out; have := HK2.out; have := HK3.out; omega⟩, ⟨by exact Kd.xT HO_5.out (fun _ hk => hk.2)⟩, ⟨by exact HO507.out⟩, ⟨HB.out⟩⟩
    obtain ⟨c6b0, H⟩ := xF H
    obtain ⟨c7b0, H⟩ := xF H
    obtain ⟨c8b0, H⟩ := xF H
    obtain ⟨c9b0, H⟩ := xF H
    obtain ⟨c10b0, H⟩ := xF H
    obtain ⟨c11b0, H⟩ := xF H
    obtain ⟨c12b0, H⟩ := xF H
    replace H := qw H
    obtain ⟨t504, A130, H⟩ := H
    replace H : (r5Product.l2 k3 l0 l1 x5_1 x6_1 x7_2 x8_2 (mx x9_3 t504) (wrap64 (x10_3 + 1))) = some r := H
    have A13 := xA.mk A130
    clear A130
    obtain ⟨ji14, hji14⟩ : ∃ j_ : Int, (mx x9_3 t504) = j_ := ⟨_, rfl⟩
    replace H : (r5Product.l2 k3 l0 l1 x5_1 x6_1 x7_2 x8_2 ji14 (wrap64 (x10_3 + 1))) = some r := by first | (rw [hji14] at H; exact H) | (simp only [hji14] at H ⊢; exact H)
    (try rw [hji14] at A13)
    have hji14_ : (if x9_3 < t504 then t504 else x9_3) = ji14 := hji14
    have H' := xA.mk H
    clear H
    have p500 : 0 ≤ (x6_1 : Int) := qq
    have q500 : x6_1 < (l0.length : Int) := qq
    obtain ⟨ad500, A500_0, c500_0, e500, hx500_0, hl500_0, hi500_0⟩ := at_L1 HR0.out x6_1 p500 q500
    cases e500
    replace hx500_0 := (HB.out.cell (World.block_lt_of_cell? w _ hx500_0)).trans hx500_0
    have HR500_0 := xA.mk hi500_0
    have HC500_0 := xA.mk hl500_0
    clear hi500_0 hl500_0
    replace p500 := eq_true p500
    replace q500 := eq_true q500
    have p501 : 0 ≤ (x10_3 : Int) := qq
    have q501 : x10_3 < ((rd_L1 l0 x6_1).length : Int) := qq
    obtain ⟨ad501, e501, hx501_0⟩ := Kd.xU HR500_0.out x10_3 p501 q501
    cases e501
    replace hx501_0 := (HB.out.cell (World.block_lt_of_cell? w _ hx501_0)).trans hx501_0
    replace p501 := eq_true p501
    replace q501 := eq_true q501
    have p502 : 0 ≤ (x10_3 : Int) := qq
    have q502 : x10_3 < (l1.length : Int) := qq
    obtain ⟨ad502, A502_0, c502_0, e502, hx502_0, hl502_0, hi502_0⟩ := at_L1 HR1.out x10_3 p502 q502
    cases e502
    replace hx502_0 := (HB.out.cell (World.block_lt_of_cell? w _ hx502_0)).trans hx502_0
    have HR502_0 := xA.mk hi502_0
    have HC502_0 := xA.mk hl502_0
    clear hi502_0 hl502_0
    replace p502 := eq_true p502
    replace q502 := eq_true q502
    have p503 : 0 ≤ (x8_2 : Int) := qq
    have q503 : x8_2 < ((rd_L1 l1 x10_3).length : Int) := qq
    obtain ⟨ad503, e503, hx503_0⟩ := Kd.xU HR502_0.out x8_2 p503 q503
    cases e503
    replace hx503_0 := (HB.out.cell (World.block_lt_of_cell? w _ hx503_0)).trans hx503_0
    replace p503 := eq_true p503
    replace q503 := eq_true q503
    go_wp2_with (first | (go_at_call 77; (with_reducible refine (r5plus.calls (rd (rd_L1 l0 x6_1) x10_3) (rd (rd_L1 l1 x10_3) x8_2) t504 _ A13.out).mono ?_); rintro e w' ⟨rfl, ⟨nd, rfl⟩⟩; (try exact qp)))
    repeat (go_quiet (first | (go_at_call 77; (with_reducible refine (r5plus.calls (rd (rd_L1 l0 x6_1) x10_3) (rd (rd_L1 l1 x10_3) x8_2) t504 _ A13.out).mono ?_); rintro e w' ⟨rfl, ⟨nd, rfl⟩⟩; (try exact qp))); try go_wp2_with (first | (go_at_call 77; (with_reducible refine (r5plus.calls (rd (rd_L1 l0 x6_1) x10_3) (rd (rd_L1 l1 x10_3) x8_2) t504 _ A13.out).mono ?_); rintro e w' ⟨rfl, ⟨nd, rfl⟩⟩; (try exact qp))))
    go_roundg k3
    case measure => have := HK1.out; have := HK2.out; have := HK3.out; omega
    case rel => exact ⟨(ji14), (wrap64 (x10_3 + 1)), (by first | rfl | (simp; done) | (simp only [← hji14] <;> (first | rfl | simp)) | (simp [*]; done)), rfl, H', ⟨by have := HK1.out; have := HK2.out; have := HK3.out; omega⟩, ⟨by exact HO_5.out⟩, ⟨by exact HO_7.out⟩, ⟨qb⟩⟩
mutual
def r5walks.l0 : Nat → List (List Int) → List (List Int) → List (List Int) → Int → Option ((List (List Int)))
 | 0, _, _, _, _ => none
 | k + 1, x0, x3, x4, x5 => if x5 < (x0.length : Int) then ((r5Product.f k x0 x4).bind fun t521 => (r5walks.l1 k x0 x3 t521 x5 0)) else (some x3)
def r5walks.l1 : Nat → List (List Int) → List (List Int) → List (List Int) → Int → Int → Option ((List (List Int)))
 | 0, _, _, _, _, _ => none
 | k + 1, x0, x3, x4, x5, x6 => if x6 < (x0.length : Int) then (r5walks.l2 k x0 x3 x4 x5 x6 0) else (r5walks.l0 k x0 x3 x4 (wrap64 (x5 + 1)))
def r5walks.l2 : Nat → List (List Int) → List (List Int) → List (List Int) → Int → Int → Int → Option ((List (List Int)))
 | 0, _, _, _, _, _, _ => none
 | k + 1, x0, x3, x4, x5, x6, x7 => if x7 < (x0.length : Int) then (if 0 ≤ x6 then (if x6 < (x3.length : Int) then (if 0 ≤ x7 then (if x7 < ((rd_L1 x3 x6).length : Int) then (if x6 < (x4.length : Int) then (if x7 < ((rd_L1 x4 x6).length : Int) then (r5walks.l2 k x0 (x3.set (x6 : Int).toNat ((rd_L1 x3 x6).set (x7 : Int).toNat (mx (rd (rd_L1 x3 x6) x7) (rd (rd_L1 x4 x6) x7)))) x4 x5 x6 (wrap64 (x7 + 1))) else (none)) else (none)) else (none)) else (none)) else (none)) else (none)) else (r5walks.l1 k x0 x3 x4 x5 (wrap64 (x6 + 1)))
end
def r5walks.f (k : Nat) (l0 : List (List Int)) : Option ((List (List Int))) := (r5One.f k (l0.length : Int)).bind fun t515 => ((r5One.f k (l0.length : Int)).bind fun t518 => (r5walks.l0 k l0 t515 t518 1))
def r5walks.T13 : Bool × List (List Nat × List Nat) := (true, [([], []), ([], []), ([0, 1], [0, 1]), ([2], [2]), ([], []), ([], []), ([], []), ([5, 6], [5, 6]), ([7], [7]), ([], []), ([8, 9], [8, 9]), ([10], [10]), ([], []), ([], []), ([12, 13], [12, 13]), ([14], [14]), ([], []), ([15, 16], [15, 16]), ([17], [17]), ([11, 18], [11, 18]), ([3, 4, 0, 1, 2, 3, 4, 5, 6, 7, 8, 9, 10, 11, 12, 13, 14, 15, 16, 17, 18, 19], [3, 4]), ([20, 19, 0, 1, 2, 3, 4, 5, 6, 7, 8, 9, 10, 11, 12, 13, 14, 15, 16, 17, 18, 19], [19, 20])])
def r5walks.B13 : List Nat := [0, 0, 3, 7, 0, 0, 0, 96, 224, 0, 992, 2016, 0, 0, 12288, 28672, 0, 126976, 258048, 524256, 1048575, 2097151]
theorem r5walks.tab13 : rtab .any (opsOf Try.f52 13) = r5walks.T13 := by kernel_rfl
theorem r5walks.bits13 : waitsOk r5walks.T13.2 r5walks.B13 = true := by kernel_rfl
theorem r5walks.calls (k : Nat) (A0 : Option Addr) (c0 : Nat) (l0 : List (List Int)) (r : List (List Int)) (w : World) (hr0 : Kd.C (Kd.slice 3 (Kd.int .i64)) w A0 l0.length l0) (hc0 : l0.length ≤ c0) (h : r5walks.f k l0 = some r) :
  Calls Try.prog 52 #[.slice A0 l0.length c0] w fun e w' => ∃ v0_ : Value, e = .returned (v0_) ∧ Kd.S (Kd.slice 3 (Kd.int .i64)) 26 w' w.heap.size (fun _ => True) v0_ r ∧ Below w.heap.size w w' := by
 have HR0 := xA.mk hr0
 have HC0 := xA.mk hc0
 clear hr0 hc0
 have HB := xA.mk (Below.refl w.heap.size w)
 have H : ((r5One.f k (l0.length : Int)).bind fun t515 => ((r5One.f k (l0.length : Int)).bind fun t518 => (r5walks.l0 k l0 t515 t518 1))) = some r := h
 clear h
 replace H := qw H
 obtain ⟨t515, A20, H⟩ := H
 replace H : ((r5One.f k (l0.length : Int)).bind fun t518 => (r5walks.l0 k l0 t515 t518 1)) = some r := H
 have A2 := xA.mk A20
 clear A20
 replace H := qw H
 obtain ⟨t518, A30, H⟩ := H
 replace H : (r5walks.l0 k l0 t515 t518 1) = some r := H
 have A3 := xA.mk A30
 clear A30
 have H' := xA.mk H
 clear H
 go_enter Try.func52, Try.ntmps52
 go_wp2_with (first | ((with_reducible refine xG (f := 61) rfl ?_); refine xM (some 10) rfl rfl Try.func61 jk rfl #[.int .i64 (l0.length : Int)] rfl qd ?_; (with_reducible refine (r5One.calls k (l0.length : Int) t515 _ A2.out).mono ?_); rintro e w4 ⟨v516, rfl, ho0, hb⟩; refine ⟨_, rfl, ?_⟩; have n0_ := xA.mk (Kd.xT (ok' := fun k_ => k_ < w4.heap.size) (Kd.S_bound (Kd.S_lower ho0 (xB (HB.out)))) (fun k_ hk_ => hk_.2.2.1)); have HB4 := xA.mk (Below.refl w.heap.size w4); have n1_ := xA.mk (xD (HB.out) hb); clear HB; have HO517 := n0_; have HB := n1_; clear n0_ n1_) | ((with_reducible refine xG (f := 61) rfl ?_); refine xM (some 13) rfl rfl Try.func61 jk rfl #[.int .i64 (l0.length : Int)] rfl qd ?_; (with_reducible refine (r5One.calls k (l0.length : Int) t518 _ A3.out).mono ?_); rintro e w5 ⟨v519, rfl, ho0, hb⟩; refine ⟨_, rfl, ?_⟩; have n0_ := xA.mk (Kd.S_below (by exact HO517.out) hb); have n1_ := xA.mk (Kd.S_lower ho0 ((by repeat (first | exact HB4.out | apply xN | apply xS) : Below w.heap.size w4 _).size)); have n2_ := xA.mk (xD (HB.out) hb); replace HB4 := xA.mk (below_then (by repeat (first | exact HB4.out | apply xN | apply xS)) (xB (HB.out)) hb); clear HO517; clear HB; have HO517 := n0_; have HO520 := n1_; have HB := n2_; clear n0_ n1_ n2_))
 go_loopg [4, 5] k (fun kq v4 v5 w' => ∃ (x3_1 : List (List Int)) (x4_1 : List (List Int)) (x5_1 : Int), v5 = .int .i64 x5_1 ∧ xA (r5walks.l0 kq l0 x3_1 x4_1 x5_1 = some r) ∧ xA (kq ≤ k) ∧ xA (Kd.S (Kd.slice 3 (Kd.int .i64)) 26 w' w.heap.size (fun k_ => k_ < w4.heap.size) v516 x3_1) ∧ xA (Kd.S (Kd.slice 3 (Kd.int .i64)) 26 w' w4.heap.size (fun _ => True) v4 x4_1) ∧ xA (Below w.heap.size w w') ∧ xA (Below w.heap.size w4 w'))
 case atStart => exact ⟨(t515), (t518), (1), rfl, H', ⟨Nat.le_refl _⟩, ⟨by exact HO517.out⟩, ⟨by exact HO520.out⟩, ⟨HB.out⟩, ⟨by repeat (first | exact HB4.out | apply xN | apply xS)⟩⟩
 case round =>
  clear H'
  obtain ⟨x3_1, x4_1, x5_1, rfl, HA, HK1, HO_3, HO_4, HB, HB4⟩ := hrel
  obtain _ | k1 := gk
  · exact absurd HA.out (by simp [r5walks.l0])
  have H := HA.out
  clear HA
  simp only [r5walks.l0] at H
  obtain ⟨c6b0, H⟩ | ⟨c6b0, H⟩ := yA H
  rotate_left
  ·
   obtain rfl := qx H
   go_wp2
   go_ret
   exact ⟨_, rfl, by exact Kd.xT HO_3.out (fun _ _ => trivial), HB.out⟩
  replace H := qw H
  obtain ⟨t521, A70, H⟩ := H
  replace H : (r5walks.l1 k1 l0 x3_1 t521 x5_1 0) = some r := H
  have A7 := xA.mk A70
  clear A70
  have H' := xA.mk H
  clear H
  obtain ⟨Ao8, co8, eo8⟩ := Kd.yC HO_4.out
  subst eo8
  go_wp2_with (first | ((with_reducible refine xG (f := 62) rfl ?_); refine xM (some 22) rfl rfl Try.func62 jk rfl #[.slice A0 l0.length c0, .slice Ao8 x4_1.length co8] rfl qd ?_; (with_reducible refine (r5Product.calls k1 _ _ l0 _ _ x4_1 t521 _ ?side1 ?side2 ?side3 ?side4 A7.out).mono ?_); (case side1 => repeat (first | exact (Kd.xQ HR0.out HB.out))); (case side2 => exact HC0.out); (case side3 => repeat (first | exact (Kd.xH HO_4.out).2.2)); (case side4 => exact (Kd.xH HO_4.out).2.1); rintro e w9 ⟨v522, rfl, ho0, hb⟩; refine ⟨_, rfl, ?_⟩; have n0_ := xA.mk (Kd.S_below (by exact HO_3.out) hb); have n1_ := xA.mk (Kd.S_elder' (by exact HO_4.out) (Kd.S_base ho0) hb); have n2_ := xA.mk (Kd.S_lower (Kd.S_new' ho0 (Kd.S_lt (by exact HO_4.out))) ((by repeat (first | exact HB4.out | apply xN | apply xS) : Below w.heap.size w4 _).size)); have n3_ := xA.mk (xD (HB.out) hb); replace HB4 := xA.mk (below_then (by repeat (first | exact HB4.out | apply xN | apply xS)) (xB (HB.out)) hb); clear HO_3; clear HO_4; clear HB; have HO_3 := n0_; have HO_4 := n1_; have HO523 := n2_; have HB := n3_; clear n0_ n1_ n2_ n3_))
  go_loopg [6] k1 (fun kq v6 w' => ∃ (x3_2 : List (List Int)) (x6_2 : Int), v6 = .int .i64 x6_2 ∧ xA (r5walks.l1 kq l0 x3_2 t521 x5_1 x6_2 = some r) ∧ xA (kq ≤ k1) ∧ xA (Kd.S (Kd.slice 3 (Kd.int .i64)) 26 w' w.heap.size (fun k_ => k_ < w4.heap.size) v516 x3_2) ∧ xA (Kd.S (Kd.slice 3 (Kd.int .i64)) 26 w' w4.heap.size (fun _ => True) v522 t521) ∧ xA (Below w.heap.size w w') ∧ xA (Below w.heap.size w4 w'))
  case atStart => exact ⟨(x3_1), (0), rfl, H', ⟨Nat.le_refl _⟩, ⟨by exact HO_3.out⟩, ⟨by exact Kd.xT HO523.out (fun _ hk => trivial)⟩, ⟨HB.out⟩, ⟨by repeat (first | exact HB4.out | apply xN | apply xS)⟩⟩
  case round =>
   clear H'
   obtain ⟨x3_2, x6_2, rfl, HA, HK2, HO_3, HO_4, HB, HB4⟩ := hrel
   obtain _ | k2 := gk
   · exact absurd HA.out (by simp [r5walks.l1])
   have H := HA.out
   clear HA
   simp only [r5walks.l1] at H
   obtain ⟨c10b0, H⟩ | ⟨c10b0, H⟩ := yA H
   rotate_left
   ·
    have H' := xA.mk H
    clear H
    go_wp2
    go_roundg k2
    case measure => have := HK1.out; have := HK2.out; omega
    case rel => exact ⟨(x3_2), (t521), (wrap64 (x5_1 + 1)), rfl, H', ⟨by have := HK1.out; have := HK2.out; omega⟩, ⟨by exact HO_3.out⟩, ⟨by exact HO_4.out⟩, ⟨HB.out⟩, ⟨by repeat (first | exact HB4.out | apply xN | apply xS)⟩⟩
   have H' := xA.mk H
   clear H
   go_wp2
   go_loopg [7] k2 (fun kq v7 w' => ∃ (x3_3 : List (List Int)) (x7_3 : Int), v7 = .int .i64 x7_3 ∧ xA (r5walks.l2 kq l0 x3_3 t521 x5_1 x6_2 x7_3 = some r) ∧ xA (kq ≤ k2) ∧ xA (Kd.S (Kd.slice 3 (Kd.int .i64)) 26 w' w.heap.size (fun k_ => k_ < w4.heap.size) v516 x3_3) ∧ xA (Kd.S (Kd.slice 3 (Kd.int .i64)) 26 w' w4.heap.size (fun _ => True) v522 t521) ∧ xA (Below w.heap.size w w') ∧ xA (Below w.heap.size w4 w'))
   case atStart => exact ⟨(x3_2), (0), rfl, H', ⟨Nat.le_refl _⟩, ⟨by exact HO_3.out⟩, ⟨by exact HO_4.out⟩, ⟨HB.out⟩, ⟨by repeat (first | exact HB4.out | apply xN | apply xS)⟩⟩
   case round =>
    clear H'
    obtain ⟨x3_3, x7_3, rfl, HA, HK3, HO_3, HO_4, HB, HB4⟩ := hrel
    obtain _ | k3 := gk
    · exact absurd HA.out (by simp [r5walks.l2])
    have H := HA.out
    clear HA
    simp only [r5walks.l2] at H
    obtain ⟨c11b0, H⟩ | ⟨c11b0, H⟩ := yA H
    rotate_left
    ·
     have H' := xA.mk H
     clear H
     go_wp2
     go_roundg k3
     case measure => have := HK1.out; have := HK2.out; have := HK3.out; omega
     case rel => exact ⟨(x3_3), (wrap64 (x6_2 + 1)), rfl, H', ⟨by have := HK1.out; have := HK2.out; have := HK3.out; omega⟩, ⟨by exact HO_3.out⟩, ⟨by exact HO_4.out⟩, ⟨HB.out⟩, ⟨by repeat (first | exact HB4.out | apply xN | apply xS)⟩⟩
    obtain ⟨c12b0, H⟩ := xF H
    obtain ⟨c13b0, H⟩ := xF H
    obtain ⟨c14b0, H⟩ := xF H
    obtain ⟨c15b0, H⟩ := xF H
    obtain ⟨c16b0, H⟩ := xF H
    obtain ⟨c17b0, H⟩ := xF H
    obtain ⟨ji18, hji18⟩ : ∃ j_ : Int, (mx (rd (rd_L1 x3_3 x6_2) x7_3) (rd (rd_L1 t521 x6_2) x7_3)) = j_ := ⟨_, rfl⟩
    replace H : (r5walks.l2 k3 l0 (x3_3.set (x6_2 : Int).toNat ((rd_L1 x3_3 x6_2).set (x7_3 : Int).toNat (ji18))) t521 x5_1 x6_2 (wrap64 (x7_3 + 1))) = some r := by first | (rw [hji18] at H; exact H) | (simp only [hji18] at H ⊢; exact H)
    have hji18_ : (if (rd (rd_L1 x3_3 x6_2) x7_3) < (rd (rd_L1 t521 x6_2) x7_3) then (rd (rd_L1 t521 x6_2) x7_3) else (rd (rd_L1 x3_3 x6_2) x7_3)) = ji18 := hji18
    obtain ⟨y529, hy529⟩ : ∃ y_ : List Int, y_ = ((rd_L1 x3_3 x6_2).set (x7_3 : Int).toNat (ji18)) := ⟨_, rfl⟩
    replace H : (r5walks.l2 k3 l0 (x3_3.set (x6_2 : Int).toNat y529) t521 x5_1 x6_2 (wrap64 (x7_3 + 1))) = some r := by rw [hy529]; exact H
    have Ny529 := xA.mk hy529
    clear hy529
    obtain ⟨y531, hy531⟩ : ∃ y_ : List (List Int), y_ = (x3_3.set (x6_2 : Int).toNat y529) := ⟨_, rfl⟩
    replace H : (r5walks.l2 k3 l0 y531 t521 x5_1 x6_2 (wrap64 (x7_3 + 1))) = some r := by rw [hy531]; exact H
    have Ny531 := xA.mk hy531
    clear hy531
    have H' := xA.mk H
    clear H
    try go_wp2
    have n0_ := xA.mk (Kd.S_drew HO_3.out)
    have n1_ := xA.mk (Kd.S_drew HO_4.out)
    have n2_ := xA.mk (xS HB.out)
    have n5_ := xA.mk (xS HB4.out)
    clear HO_3
    clear HO_4
    clear HB
    have HO_3 := n0_
    have HO_4 := n1_
    have HB := n2_
    clear HB4
    have HB4 := n5_
    clear n5_
    clear n0_ n1_ n2_
    obtain ⟨Ao21, co21, eo21⟩ := Kd.yC HO_3.out
    (first | subst eo21 | (injection eo21 with f1_ f2_ f3_; have f4_ := f1_.symm; have f5_ := f3_.symm; clear f1_ f2_ f3_; subst f4_; subst f5_))
    have p524 : 0 ≤ (x6_2 : Int) := qq
    have q524 : x6_2 < (x3_3.length : Int) := qq
    obtain ⟨ad524, A524_0, c524_0, e524, hx524_0, hl524_0, hi524_0⟩ := at_L1 (Kd.xH HO_3.out).2.2 x6_2 p524 q524
    cases e524
    obtain ⟨ce524, hce524, hMe524, hcc524⟩ := Kd.S_get HO_3.out [] x6_2 p524 (by first | exact q524 | exact qq | (have e_ := (Kd.xH HO_3.out).1; omega))
    obtain ⟨ve524_0, rfl, ge524_0⟩ := hMe524
    have hv524_0 := hcc524 0 _ rfl
    rw [Nat.add_zero, show ((Kd.slice 3 (Kd.int .i64))).sz = 1 from rfl, Nat.mul_one] at hv524_0
    replace hv524_0 := qx (hv524_0.symm.trans hx524_0)
    rw [hv524_0] at ge524_0
    have HL524_0 := xA.mk (show Kd.R (Kd.int .i64) 3 _ _ _ _ (rd_L1 x3_3 x6_2) from ge524_0)
    clear hv524_0 ge524_0
    have HX524_0 := xA.mk hx524_0
    clear hcc524 hce524
    have HR524_0 := xA.mk hi524_0
    have HC524_0 := xA.mk hl524_0
    clear hi524_0 hl524_0
    replace p524 := eq_true p524
    replace q524 := eq_true q524
    have p525 : 0 ≤ (x6_2 : Int) := qq
    have q525 : x6_2 < (x3_3.length : Int) := qq
    obtain ⟨ad525, A525_0, c525_0, e525, hx525_0, hl525_0, hi525_0⟩ := at_L1 (Kd.xH HO_3.out).2.2 x6_2 p525 q525
    obtain rfl : ad524 = ad525 := (by injection e525)
    obtain ⟨ce525, hce525, hMe525, hcc525⟩ := Kd.S_get HO_3.out [] x6_2 p525 (by first | exact q525 | exact qq | (have e_ := (Kd.xH HO_3.out).1; omega))
    obtain ⟨ve525_0, rfl, ge525_0⟩ := hMe525
    have hv525_0 := hcc525 0 _ rfl
    rw [Nat.add_zero, show ((Kd.slice 3 (Kd.int .i64))).sz = 1 from rfl, Nat.mul_one] at hv525_0
    replace hv525_0 := qx (hv525_0.symm.trans hx525_0)
    rw [hv525_0] at ge525_0
    have HL525_0 := xA.mk (show Kd.R (Kd.int .i64) 3 _ _ _ _ (rd_L1 x3_3 x6_2) from ge525_0)
    clear hv525_0 ge525_0
    have HX525_0 := xA.mk hx525_0
    clear hcc525 hce525
    have HR525_0 := xA.mk hi525_0
    have HC525_0 := xA.mk hl525_0
    clear hi525_0 hl525_0
    replace p525 := eq_true p525
    replace q525 := eq_true q525
    have ea_ := qx (hx524_0.symm.trans hx525_0)
    injection ea_ with ea_ en_ ec_
    subst ea_
    subst ec_
    clear en_
    have p526 : 0 ≤ (x7_3 : Int) := qq
    have q526 : x7_3 < ((rd_L1 x3_3 x6_2).length : Int) := qq
    obtain ⟨ad526, e526, hx526_0⟩ := Kd.xU (by repeat (first | (with_reducible exact HR525_0.out) | exact HR525_0.out)) x7_3 p526 q526
    cases e526
    replace p526 := eq_true p526
    replace q526 := eq_true q526
    obtain ⟨Ao22, co22, eo22⟩ := Kd.yC HO_4.out
    (first | subst eo22 | (injection eo22 with f1_ f2_ f3_; have f4_ := f1_.symm; have f5_ := f3_.symm; clear f1_ f2_ f3_; subst f4_; subst f5_))
    have p527 : 0 ≤ (x6_2 : Int) := qq
    have q527 : x6_2 < (t521.length : Int) := qq
    obtain ⟨ad527, A527_0, c527_0, e527, hx527_0, hl527_0, hi527_0⟩ := at_L1 (Kd.xH HO_4.out).2.2 x6_2 p527 q527
    cases e527
    obtain ⟨ce527, hce527, hMe527, hcc527⟩ := Kd.S_get HO_4.out [] x6_2 p527 (by first | exact q527 | exact qq | (have e_ := (Kd.xH HO_4.out).1; omega))
    obtain ⟨ve527_0, rfl, ge527_0⟩ := hMe527
    have hv527_0 := hcc527 0 _ rfl
    rw [Nat.add_zero, show ((Kd.slice 3 (Kd.int .i64))).sz = 1 from rfl, Nat.mul_one] at hv527_0
    replace hv527_0 := qx (hv527_0.symm.trans hx527_0)
    rw [hv527_0] at ge527_0
    have HL527_0 := xA.mk (show Kd.R (Kd.int .i64) 3 _ _ _ _ (rd_L1 t521 x6_2) from ge527_0)
    clear hv527_0 ge527_0
    have HX527_0 := xA.mk hx527_0
    clear hcc527 hce527
    have HR527_0 := xA.mk hi527_0
    have HC527_0 := xA.mk hl527_0
    clear hi527_0 hl527_0
    replace p527 := eq_true p527
    replace q527 := eq_true q527
    have p528 : 0 ≤ (x7_3 : Int) := qq
    have q528 : x7_3 < ((rd_L1 t521 x6_2).length : Int) := qq
    obtain ⟨ad528, e528, hx528_0⟩ := Kd.xU (by repeat (first | (with_reducible exact HR527_0.out) | exact HR527_0.out)) x7_3 p528 q528
    cases e528
    replace p528 := eq_true p528
    replace q528 := eq_true q528
    have p19 : 0 ≤ (x7_3 : Int) := qq
    have q19 : (x7_3 : Int) < (((rd_L1 x3_3 x6_2).length : Int) : Int) := qq
    obtain ⟨go19, co19, eo19, gb19, gl19, cl19, HG19⟩ := Kd.R_form HL524_0.out jj
    (first | cases eo19 | (injection eo19 with ea_ en_ ec_; (first | subst ea_ | (injection ea_ with ea_; subst ea_)); subst ec_; clear en_))
    have GB19 := xA.mk gb19
    have GG19 := xA.mk HG19
    have HGO := xA.mk (show go19 < w4.heap.size from (HL524_0.out.1 go19 rfl).1)
    clear gb19 gl19 HG19
    (first | simp only [add_plain] at hx526_0 | skip)
    obtain ⟨hx19_0, hf19_0⟩ := Kd.R_celln 0 HL524_0.out (x7_3 : Int) p19 q19
    replace p19 := eq_true p19
    replace q19 := eq_true q19
    have hq23 : (x6_2 : Int) < (x3_3.length : Int) := (by have h_ : (x6_2 : Int) < ((x3_3.length : Int) : Int) := qq; first | exact h_ | (have e_ := (Kd.xH HO_3.out).1; omega) | simpa only [List.length_set, List.length_set] using h_)
    obtain ⟨oki23, ce23, hcl23, hM23, hcc23, hok23, hbk23⟩ := Kd.S_borrow HO_3.out [] (x6_2 : Int) (qq) hq23
    obtain ⟨ve23_0, rfl, ge23_0⟩ := hM23
    have hv23 := hcc23 0 _ rfl
    rw [Nat.add_zero, show ((Kd.slice 3 (Kd.int .i64))).sz = 1 from rfl, Nat.mul_one] at hv23
    replace hv23 := qx (hv23.symm.trans HX524_0.out)
    subst hv23
    clear hcc23 hcl23
    replace ge23_0 := (show Kd.R (Kd.int .i64) 3 _ _ _ _ (rd_L1 x3_3 x6_2) from ge23_0)
    have HP23 := Kd.R_putg ge23_0 (x7_3 : Int) ji18
    rw [← Ny529.out] at HP23
    have HS23 := hbk23 HP23.2 (fun k_ e_ => by injection e_ with e_; subst e_; exact ge23_0.1 _ rfl) (x' := y529) (Kd.M_row HP23.1)
    rw [← Ny531.out] at HS23
    have HQ23 := xA.mk HS23
    clear HP23 HS23 hbk23 hok23
    refine start_ (n := 22) (S := fun w' => w'.cell? (ad524.add (x6_2).toNat) = some (.slice (some ⟨go19, 0, none⟩) (rd_L1 x3_3 x6_2).length c524_0) ∧ w'.cell? (ad524.add (x6_2).toNat) = some (.slice (some ⟨go19, 0, none⟩) (rd_L1 x3_3 x6_2).length c524_0) ∧ w'.cell? ⟨go19, (x7_3).toNat, none⟩ = some (.int .i64 (rd (rd_L1 x3_3 x6_2) x7_3)) ∧ w'.cell? (ad527.add (x6_2).toNat) = some (.slice (some ad528) (rd_L1 t521 x6_2).length c527_0) ∧ w'.cell? (ad528.add (x7_3).toNat) = some (.int .i64 (rd (rd_L1 t521 x6_2) x7_3))) (ds := [21]) (jl 22 0) jk rfl rfl ⟨hx524_0, hx525_0, hx526_0, hx527_0, hx528_0⟩ (fun hHeld => ?_); refine with_tabW r5walks.tab13 r5walks.bits13 (fun HT_ HW_ => ?_)
    generalize wr.drew = w20 at HO_3 HO_4 HB HB4 GG19 HL524_0 HL525_0 HL527_0 HQ23 HR524_0 HR525_0 HR527_0 HX524_0 HX525_0 HX527_0 hf19_0 hx19_0 hx524_0 hx525_0 hx526_0 hx527_0 hx528_0 hHeld ⊢
    refine pure_ (i := 0) (N := some 35) (v := ?_) (a' := ?_) (jl 22 1) rfl rfl (xL HT_.out jk) (fun _ _ _ h => h) (Or.inl ⟨by rfl, ?_⟩) ?_ ?_
    rotate_left
    ·
     intro w'
     go_simp
     with_reducible rfl
    rotate_left
    ·
     simp only [Act.put, qy, qz, ja, i64_w, i32_w]
     rfl
    refine pure_ (i := 1) (N := some 36) (v := ?_) (a' := ?_) (jl 22 3) rfl rfl (xL HT_.out jk) (fun _ _ _ h => h) (Or.inl ⟨by rfl, ?_⟩) ?_ ?_
    rotate_left
    ·
     intro w'
     go_simp
     with_reducible rfl
    rotate_left
    ·
     simp only [Act.put, qy, qz, ja, i64_w, i32_w]
     rfl
    refine pure_ (i := 2) (N := some 37) (v := ?_) (a' := ?_) (jl 22 7) rfl rfl (xL HT_.out jk) (fun _ _ _ h => h) (Or.inl ⟨by rfl, ?_⟩) ?_ ?_
    rotate_left
    ·
     intro w'
     go_simp
     with_reducible rfl
    rotate_left
    ·
     simp only [Act.put, qy, qz, ja, i64_w, i32_w]
     rfl
    refine pure_ (i := 4) (N := some 39) (v := ?_) (a' := ?_) (jl 22 23) rfl rfl (xL HT_.out jk) (fun _ _ _ h => h) (Or.inl ⟨by rfl, ?_⟩) ?_ ?_
    rotate_left
    ·
     intro w'
     go_simp
     with_reducible rfl
    rotate_left
    ·
     simp only [Act.put, qy, qz, ja, i64_w, i32_w]
     rfl
    refine pure_ (i := 5) (N := some 40) (v := ?_) (a' := ?_) (jl 22 55) rfl rfl (xL HT_.out jk) (fun _ _ _ h => h) (Or.inl ⟨by rfl, ?_⟩) ?_ ?_
    rotate_left
    ·
     intro w'
     go_simp
     with_reducible rfl
    rotate_left
    ·
     simp only [Act.put, qy, qz, ja, i64_w, i32_w]
     rfl
    refine pure_ (i := 6) (N := some 41) (v := ?_) (a' := ?_) (jl 22 119) rfl rfl (xL HT_.out jk) (fun _ _ _ h => h) (Or.inl ⟨by rfl, ?_⟩) ?_ ?_
    rotate_left
    ·
     intro w'
     go_simp
     with_reducible rfl
    rotate_left
    ·
     simp only [Act.put, qy, qz, ja, i64_w, i32_w]
     rfl
    refine pure_ (i := 7) (N := some 42) (v := ?_) (a' := ?_) (jl 22 247) rfl rfl (xL HT_.out jk) (fun _ _ _ h => h) (Or.inl ⟨by rfl, ?_⟩) ?_ ?_
    rotate_left
    ·
     intro w'
     go_simp
     with_reducible rfl
    rotate_left
    ·
     simp only [Act.put, qy, qz, ja, i64_w, i32_w]
     rfl
    refine pure_ (i := 9) (N := some 44) (v := ?_) (a' := ?_) (jl 22 759) rfl rfl (xL HT_.out jk) (fun _ _ _ h => h) (Or.inl ⟨by rfl, ?_⟩) ?_ ?_
    rotate_left
    ·
     intro w'
     go_simp
     with_reducible rfl
    rotate_left
    ·
     simp only [Act.put, qy, qz, ja, i64_w, i32_w]
     rfl
    refine pure_ (i := 12) (N := some 47) (v := ?_) (a' := ?_) (jl 22 4855) rfl rfl (xL HT_.out jk) (fun _ _ _ h => h) (Or.inl ⟨by rfl, ?_⟩) ?_ ?_
    rotate_left
    ·
     intro w'
     go_simp
     with_reducible rfl
    rotate_left
    ·
     simp only [Act.put, qy, qz, ja, i64_w, i32_w]
     rfl
    refine pure_ (i := 13) (N := some 48) (v := ?_) (a' := ?_) (jl 22 13047) rfl rfl (xL HT_.out jk) (fun _ _ _ h => h) (Or.inl ⟨by rfl, ?_⟩) ?_ ?_
    rotate_left
    ·
     intro w'
     go_simp
     with_reducible rfl
    rotate_left
    ·
     simp only [Act.put, qy, qz, ja, i64_w, i32_w]
     rfl
    refine pure_ (i := 14) (N := some 49) (v := ?_) (a' := ?_) (jl 22 29431) rfl rfl (xL HT_.out jk) (fun _ _ _ h => h) (Or.inl ⟨by rfl, ?_⟩) ?_ ?_
    rotate_left
    ·
     intro w'
     go_simp
     with_reducible rfl
    rotate_left
    ·
     simp only [Act.put, qy, qz, ja, i64_w, i32_w]
     rfl
    refine pure_ (i := 16) (N := some 51) (v := ?_) (a' := ?_) (jl 22 94967) rfl rfl (xL HT_.out jk) (fun _ _ _ h => h) (Or.inl ⟨by rfl, ?_⟩) ?_ ?_
    rotate_left
    ·
     intro w'
     go_simp
     with_reducible rfl
    rotate_left
    ·
     simp only [Act.put, qy, qz, ja, i64_w, i32_w]
     rfl
    refine take_ (i := 3) (N := some 38) (v := ?_) (a' := ?_) (jl 22 94975) rfl rfl (take_ofW HT_.out HW_.out jk) (fun _ _ _ h => h) (Or.inl ⟨by rfl, ?_⟩) hHeld ?_ ?_
    rotate_left
    ·
     rintro w' ⟨s0, s1, s2, s3, s4⟩
     go_simp
     with_reducible rfl
    rotate_left
    ·
     simp only [Act.put, qy, qz, ja, i64_w, i32_w]
     rfl
    refine take_ (i := 8) (N := some 43) (v := ?_) (a' := ?_) (jl 22 95231) rfl rfl (take_ofW HT_.out HW_.out jk) (fun _ _ _ h => h) (Or.inl ⟨by rfl, ?_⟩) hHeld ?_ ?_
    rotate_left
    ·
     rintro w' ⟨s0, s1, s2, s3, s4⟩
     go_simp
     with_reducible rfl
    rotate_left
    ·
     simp only [Act.put, qy, qz, ja, i64_w, i32_w]
     rfl
    refine pure_ (i := 10) (N := some 45) (v := ?_) (a' := ?_) (jl 22 96255) rfl rfl (xL HT_.out jk) (fun _ _ _ h => h) (Or.inl ⟨by rfl, ?_⟩) ?_ ?_
    rotate_left
    ·
     intro w'
     go_simp
     with_reducible rfl
    rotate_left
    ·
     simp only [Act.put, qy, qz, ja, i64_w, i32_w]
     rfl
    refine take_ (i := 11) (N := some 46) (v := ?_) (a' := ?_) (jl 22 98303) rfl rfl (take_ofW HT_.out HW_.out jk) (fun _ _ _ h => h) (Or.inl ⟨by rfl, ?_⟩) hHeld ?_ ?_
    rotate_left
    ·
     rintro w' ⟨s0, s1, s2, s3, s4⟩
     go_simp
     with_reducible rfl
    rotate_left
    ·
     simp only [Act.put, qy, qz, ja, i64_w, i32_w]
     rfl
    refine take_ (i := 15) (N := some 50) (v := ?_) (a' := ?_) (jl 22 131071) rfl rfl (take_ofW HT_.out HW_.out jk) (fun _ _ _ h => h) (Or.inl ⟨by rfl, ?_⟩) hHeld ?_ ?_
    rotate_left
    ·
     rintro w' ⟨s0, s1, s2, s3, s4⟩
     go_simp
     with_reducible rfl
    rotate_left
    ·
     simp only [Act.put, qy, qz, ja, i64_w, i32_w]
     rfl
    refine pure_ (i := 17) (N := some 52) (v := ?_) (a' := ?_) (jl 22 262143) rfl rfl (xL HT_.out jk) (fun _ _ _ h => h) (Or.inl ⟨by rfl, ?_⟩) ?_ ?_
    rotate_left
    ·
     intro w'
     go_simp
     with_reducible rfl
    rotate_left
    ·
     simp only [Act.put, qy, qz, ja, i64_w, i32_w]
     rfl
    refine take_ (i := 18) (N := some 53) (v := ?_) (a' := ?_) (jl 22 524287) rfl rfl (take_ofW HT_.out HW_.out jk) (fun _ _ _ h => h) (Or.inl ⟨by rfl, ?_⟩) hHeld ?_ ?_
    rotate_left
    ·
     rintro w' ⟨s0, s1, s2, s3, s4⟩
     go_simp
     with_reducible rfl
    rotate_left
    ·
     simp only [Act.put, qy, qz, ja, i64_w, i32_w]
     rfl
    refine pure_ (i := 19) (N := some 54) (v := ?_) (a' := ?_) (jl 22 1048575) rfl rfl (xL HT_.out jk) (fun _ _ _ h => h) (Or.inl ⟨by rfl, ?_⟩) ?_ ?_
    rotate_left
    ·
     intro w'
     go_simp
     with_reducible rfl
    rotate_left
    ·
     simp only [Act.put, qy, qz, ja, i64_w, i32_w]
     rfl
    refine pure_ (i := 20) (N := some 55) (v := ?_) (a' := ?_) (jl 22 2097151) rfl rfl (xL HT_.out jk) (fun _ _ _ h => h) (Or.inl ⟨by rfl, ?_⟩) ?_ ?_
    rotate_left
    ·
     intro w'
     go_simp
     with_reducible rfl
    rotate_left
    ·
     simp only [Act.put, qy, qz, ja, i64_w, i32_w]
     rfl
    refine last_ (i := 21) (N := none) (jl 22 4194303) rfl rfl (one_of HT_.out jk) (by decide) (fun K hK => ?_)
    refine skip_ (w1 := ?_) (by rfl) rfl ?_ ?_
    rotate_left
    ·
     go_simp
     rfl
    refine hK.out _ _ ?_
    clear hK K
    refine done_ (done_of HT_.out jk) ?_
    try go_wp2
    go_roundg k3
    case measure => have := HK1.out; have := HK2.out; have := HK3.out; omega
    case rel => exact ⟨(y531), (wrap64 (x7_3 + 1)), rfl, H', ⟨by have := HK1.out; have := HK2.out; have := HK3.out; omega⟩, ⟨qh HQ23.out⟩, ⟨by (with_reducible repeat (first | apply Kd.S_alloc | apply Kd.S_drewN | apply Kd.S_drew)); exact Kd.xT (Kd.S_far (p := ⟨go19, (x7_3 : Int).toNat, none⟩) (Kd.xT (ok' := fun k_ => True ∧ k_ ≠ go19) (Kd.S_bound HO_4.out) (fun k_ hk_ => ⟨trivial, fun e_ => Nat.lt_irrefl _ (Nat.lt_of_lt_of_le HGO.out (e_ ▸ hk_.2.1))⟩)) (fun _ hk => hk.2) (.int .i64 ji18)) (fun _ hk => trivial)⟩, ⟨by repeat (first | exact HB.out | apply xY | apply xN | apply xS | refine xR ?_ GB19.out)⟩, ⟨by repeat (first | exact HB4.out | apply xN | apply xS | refine Below.setCell ?_ GB19.out _)⟩⟩
mutual
def r5scaled.l0 : Nat → List (List Int) → List (List Int) → Int → Int → Int → Option ((List (List Int)))
 | 0, _, _, _, _, _ => none
 | k + 1, x0, x5, x6, x524000, x524001 => if x6 < (x0.length : Int) then (r5scaled.l1 k x0 x5 x6 ([] : List Int) 0 x524000 x524001) else (some x5)
def r5scaled.l1 : Nat → List (List Int) → List (List Int) → Int → List Int → Int → Int → Int → Option ((List (List Int)))
 | 0, _, _, _, _, _, _, _ => none
 | k + 1, x0, x5, x6, x7, x8, x524000, x524001 => if x8 < (x0.length : Int) then (if 0 ≤ x6 then (if x6 < (x0.length : Int) then (if 0 ≤ x8 then (if x8 < ((rd_L1 x0 x6).length : Int) then (if (rd (rd_L1 x0 x6) x8) = (-1152921504606846976) then (if x7.length < 17592186044416 then (r5scaled.l1 k x0 x5 x6 (x7 ++ [(-1152921504606846976)]) (wrap64 (x8 + 1)) x524000 x524001) else (none)) else (if x7.length < 17592186044416 then (r5scaled.l1 k x0 x5 x6 (x7 ++ [wrap64 ((wrap64 (x524001 * (rd (rd_L1 x0 x6) x8))) - x524000)]) (wrap64 (x8 + 1)) x524000 x524001) else (none))) else (none)) else (none)) else (none)) else (none)) else (if x5.length < 5864062014805 then (r5scaled.l0 k x0 (x5 ++ [x7]) (wrap64 (x6 + 1)) x524000 x524001) else (none))
end
def r5scaled.f (k : Nat) (l0 : List (List Int)) (a1_0 : Int) (a1_1 : Int) : Option ((List (List Int))) := r5scaled.l0 k l0 ([] : List (List Int)) 0 a1_0 a1_1
def r5scaled.T11 : Bool × List (List Nat × List Nat) := (true, [([], []), ([], []), ([1], [1]), ([], []), ([], []), ([3, 4], [3, 4]), ([5], [5]), ([], []), ([6, 7], [6, 7]), ([8], [8]), ([2, 9], [2, 9]), ([], []), ([11], [11]), ([10, 12], [10, 12]), ([13], [13]), ([0, 14], [0, 14]), ([15, 15, 0, 1, 2, 3, 4, 5, 6, 7, 8, 9, 10, 11, 12, 13, 14, 15], [0, 15])])
def r5scaled.B11 : List Nat := [0, 0, 2, 0, 0, 24, 56, 0, 248, 504, 1022, 0, 2048, 8190, 16382, 32767, 65535]
theorem r5scaled.tab11 : rtab .any (opsOf Try.f53 11) = r5scaled.T11 := by kernel_rfl
theorem r5scaled.bits11 : waitsOk r5scaled.T11.2 r5scaled.B11 = true := by kernel_rfl
theorem r5scaled.calls (k : Nat) (A0 : Option Addr) (c0 : Nat) (l0 : List (List Int)) (a1_0 : Int) (a1_1 : Int) (r : List (List Int)) (w : World) (hr0 : Kd.C (Kd.slice 3 (Kd.int .i64)) w A0 l0.length l0) (hc0 : l0.length ≤ c0) (h : r5scaled.f k l0 a1_0 a1_1 = some r) :
  Calls Try.prog 53 #[.slice A0 l0.length c0, .agg #[.int .i64 a1_0, .int .i64 a1_1]] w fun e w' => ∃ v0_ : Value, e = .returned (v0_) ∧ Kd.S (Kd.slice 3 (Kd.int .i64)) 26 w' w.heap.size (fun _ => True) v0_ r ∧ Below w.heap.size w w' := by
 have hu37 := Try.underlying37
 have HR0 := xA.mk hr0
 have HC0 := xA.mk hc0
 clear hr0 hc0
 have HB := xA.mk (Below.refl w.heap.size w)
 have H : (r5scaled.l0 k l0 ([] : List (List Int)) 0 a1_0 a1_1) = some r := h
 clear h
 have H' := xA.mk H
 clear H
 go_enter Try.func53, Try.ntmps53
 go_wp2_with (first | ((with_reducible refine xZ (N := 3) rfl ?_); refine yD ?hg (N := 3) ?hd (cs := #[.int .i64 a1_0, .int .i64 a1_1]) (t := 37) ?hr ?_; (case hd => rfl); (case hg => rfl); (case hr => go_simp); intro gb523 hg w3 hbox hb; have n0_ := xA.mk (xD (HB.out) hb); have n1_ := xA.mk (hbox); have n2_ := xA.mk ((by rw [hg]; exact (xB (HB.out)) : w.heap.size ≤ gb523)); have n3_ := xA.mk ((by rw [hg]; exact (xB (HB.out)) : w.heap.size ≤ gb523)); clear HB; have HB := n0_; have BK523 := n1_; have GW523 := n2_; have GE523 := n3_; clear n0_ n1_ n2_ n3_; clear hb hbox hg))
 go_loopg [5, 6] k (fun kq v5 v6 w' => ∃ (x5_1 : List (List Int)) (x6_1 : Int), v6 = .int .i64 x6_1 ∧ xA (r5scaled.l0 kq l0 x5_1 x6_1 a1_0 a1_1 = some r) ∧ xA (kq ≤ k) ∧ xA (Kd.S (Kd.slice 3 (Kd.int .i64)) 26 w' w.heap.size (fun _ => True) v5 x5_1) ∧ xA (w'.heap[gb523]? = some (.cells #[.int .i64 a1_0, .int .i64 a1_1] 37 (0, 0))) ∧ xA (Below w.heap.size w w'))
 case atStart => exact ⟨(([] : List (List Int))), (0), rfl, H', ⟨Nat.le_refl _⟩, ⟨by first | exact Kd.S_nil _ _ _ _ _ | exact Kd.N_nil _ _ _ _ _ | exact Kd.V_nil _ _ _ _ _ | exact Kd.Q_nil _ _ _ _ _ | exact Kd.R_nil _ _ _ _ _⟩, ⟨by exact BK523.out⟩, ⟨HB.out⟩⟩
 case round =>
  clear H'
  obtain ⟨x5_1, x6_1, rfl, HA, HK1, HO_5, BK523, HB⟩ := hrel
  obtain _ | k1 := gk
  · exact absurd HA.out (by simp [r5scaled.l0])
  have H := HA.out
  clear HA
  simp only [r5scaled.l0] at H
  obtain ⟨c4b0, H⟩ | ⟨c4b0, H⟩ := yA H
  rotate_left
  ·
   obtain rfl := qx H
   go_wp2
   go_ret
   exact ⟨_, rfl, by exact HO_5.out, HB.out⟩
  have H' := xA.mk H
  clear H
  go_wp2
  go_loopg [7, 8] k1 (fun kq v7 v8 w' => ∃ (x7_2 : List Int) (x8_2 : Int), v8 = .int .i64 x8_2 ∧ xA (r5scaled.l1 kq l0 x5_1 x6_1 x7_2 x8_2 a1_0 a1_1 = some r) ∧ xA (kq ≤ k1) ∧ xA (Kd.S (Kd.slice 3 (Kd.int .i64)) 26 w' w.heap.size (fun k_ => some k_ ≠ (v7 : Value).ownBlock) u5 x5_1) ∧ xA (Kd.R (Kd.int .i64) 3 w' w.heap.size (fun _ => True) v7 x7_2) ∧ xA (w'.heap[gb523]? = some (.cells #[.int .i64 a1_0, .int .i64 a1_1] 37 (0, 0))) ∧ xA (Below w.heap.size w w'))
  case atStart => exact ⟨(([] : List Int)), (0), rfl, H', ⟨Nat.le_refl _⟩, ⟨by exact Kd.xT HO_5.out (fun _ hk => (by simp [Value.ownBlock]))⟩, ⟨by first | exact Kd.R_nil _ _ _ _ _ | exact Kd.N_nil _ _ _ _ _ | exact Kd.V_nil _ _ _ _ _ | exact Kd.Q_nil _ _ _ _ _ | exact Kd.S_nil _ _ _ _ _⟩, ⟨by exact BK523.out⟩, ⟨HB.out⟩⟩
  case round =>
   clear H'
   obtain ⟨x7_2, x8_2, rfl, HA, HK2, HO_5, HO_7, BK523, HB⟩ := hrel
   obtain _ | k2 := gk
   · exact absurd HA.out (by simp [r5scaled.l1])
   have H := HA.out
   clear HA
   simp only [r5scaled.l1] at H
   obtain ⟨c5b0, H⟩ | ⟨c5b0, H⟩ := yA H
   rotate_left
   ·
    obtain ⟨c16, H⟩ := yF H
    have LMc16 := xA.mk c16
    clear c16
    obtain ⟨y534, hy534⟩ : ∃ y_ : List (List Int), y_ = (x5_1 ++ [x7_2]) := ⟨_, rfl⟩
    replace H : (r5scaled.l0 k2 l0 y534 (wrap64 (x6_1 + 1)) a1_0 a1_1) = some r := by rw [hy534]; exact H
    have Ny534 := xA.mk hy534
    clear hy534
    have H' := xA.mk H
    clear H
    obtain ⟨Ao18, co18, eo18⟩ := Kd.R_slice HO_7.out
    subst eo18
    go_wp2_with (first | ((with_reducible refine gate_builtin (b := .append) (xs := #[.tmp 48, .tmp 50]) rfl ?_); at_builtin; refine Kd.S_append (Kd.slice 3 (Kd.int .i64)) (w0 := w) w.heap.size rfl (.tmp 48) (.tmp 50) 22 26 (.slice none 0 0) 24 rfl Try.underlying22 info26 rfl (by decide) jj u5 x5_1 x7_2 [.slice Ao18 x7_2.length co18] (fun _ => True) (fun k_ => some k_ = (.slice Ao18 x7_2.length co18 : Value).ownBlock) rfl rfl ?aP (fun k_ hk_ => ((Kd.R_mono (ok' := fun k_ => ((fun _ => True)) k_ ∧ some k_ ≠ (u5 : Value).ownBlock) (Kd.R_apart' (HO_7.out) (Kd.S_typed HO_5.out) (by decide)) (fun k_ hk => ⟨trivial, hk.2⟩))).1 k_ hk_.symm) ?aF ?aO ?aB ?aS ?aL ?_; (case aP => exact Kd.M_row (Kd.R_mono (Kd.R_tight rfl (Kd.R_mono (ok' := fun k_ => ((fun _ => True)) k_ ∧ some k_ ≠ (u5 : Value).ownBlock) (Kd.R_apart' (HO_7.out) (Kd.S_typed HO_5.out) (by decide)) (fun k_ hk => ⟨trivial, hk.2⟩))) (fun _ h_ => h_))); (case aB => exact (HB.out)); (case aF => exact (fun _ _ => trivial)); (case aO => exact (by exact Kd.xT HO_5.out (fun k_ hk => ⟨trivial, fun e_ => hk e_⟩))); (case aS => exact (xB (HB.out))); (case aL => have := LMc16.out; omega); intro v535 w17 ho hb hg hat; rw [← Ny534.out] at ho; have n0_ := xA.mk (blk_grown (g := gb523) (o := .cells #[.int .i64 a1_0, .int .i64 a1_1] 37 (0, 0)) (by exact BK523.out) hg (Kd.S_ne HO_5.out BK523.out (by decide))); have n1_ := xA.mk (hb); have n2_ := xA.mk (ho); clear BK523; clear HB; clear HO_5; clear HO_7; have BK523 := n0_; have HB := n1_; have HO536 := n2_; clear n0_ n1_ n2_; clear ho hb hg hat))
    go_roundg k2
    case measure => have := HK1.out; have := HK2.out; omega
    case rel => exact ⟨(y534), (wrap64 (x6_1 + 1)), rfl, H', ⟨by have := HK1.out; have := HK2.out; omega⟩, ⟨by exact HO536.out⟩, ⟨by exact BK523.out⟩, ⟨HB.out⟩⟩
   obtain ⟨c6b0, H⟩ := xF H
   obtain ⟨c7b0, H⟩ := xF H
   obtain ⟨c8b0, H⟩ := xF H
   obtain ⟨c9b0, H⟩ := xF H
   by_cases c10 : (rd (rd_L1 l0 x6_1) x8_2) = (-1152921504606846976)
   ·
    rw [if_pos c10] at H
    have c10b0 : ((rd (rd_L1 l0 x6_1) x8_2) == (-1152921504606846976)) = true := beq_iff_eq.mpr c10
    clear c10
    obtain ⟨c11, H⟩ := yF H
    have LMc11 := xA.mk c11
    clear c11
    obtain ⟨y526, hy526⟩ : ∃ y_ : List Int, y_ = (x7_2 ++ [(-1152921504606846976)]) := ⟨_, rfl⟩
    replace H : (r5scaled.l1 k2 l0 x5_1 x6_1 y526 (wrap64 (x8_2 + 1)) a1_0 a1_1) = some r := by rw [hy526]; exact H
    have Ny526 := xA.mk hy526
    clear hy526
    have H' := xA.mk H
    clear H
    have p524 : 0 ≤ (x6_1 : Int) := qq
    have q524 : x6_1 < (l0.length : Int) := qq
    obtain ⟨ad524, A524_0, c524_0, e524, hx524_0, hl524_0, hi524_0⟩ := at_L1 HR0.out x6_1 p524 q524
    cases e524
    replace hx524_0 := (HB.out.cell (World.block_lt_of_cell? w _ hx524_0)).trans hx524_0
    have HR524_0 := xA.mk hi524_0
    have HC524_0 := xA.mk hl524_0
    clear hi524_0 hl524_0
    replace p524 := eq_true p524
    replace q524 := eq_true q524
    have p525 : 0 ≤ (x8_2 : Int) := qq
    have q525 : x8_2 < ((rd_L1 l0 x6_1).length : Int) := qq
    obtain ⟨ad525, e525, hx525_0⟩ := Kd.xU HR524_0.out x8_2 p525 q525
    cases e525
    replace hx525_0 := (HB.out.cell (World.block_lt_of_cell? w _ hx525_0)).trans hx525_0
    replace p525 := eq_true p525
    replace q525 := eq_true q525
    go_wp2_with (first | ((with_reducible refine gate_builtin (b := .append) (xs := #[.tmp 29, .tmp 30]) rfl ?_); at_builtin; refine Kd.R_append (Kd.int .i64) (w0 := w) w.heap.size rfl (.tmp 29) (.tmp 30) 26 3 (.int .i64 0) 8 rfl Try.underlying26 info3 rfl (by decide) jj u7 x7_2 (-1152921504606846976) [.int .i64 (-1152921504606846976)] (fun _ => True) (fun _ => False) rfl rfl ?aP (fun _ hk => hk.elim) ?aF ?aO ?aB ?aS ?aL ?_; (case aP => exact rfl); (case aB => exact (HB.out)); (case aF => exact (fun _ _ => trivial)); (case aO => exact (by exact HO_7.out)); (case aS => exact (xB (HB.out))); (case aL => have := LMc11.out; omega); intro v527 w12 ho hb hg hat; rw [← Ny526.out] at ho; have n0_ := xA.mk (Kd.S_after (ok := (fun _ => True)) (by exact Kd.xT HO_5.out (fun _ hk => ⟨trivial, hk⟩)) hg hat); have n1_ := xA.mk (blk_grown (g := gb523) (o := .cells #[.int .i64 a1_0, .int .i64 a1_1] 37 (0, 0)) (by exact BK523.out) hg (Kd.R_ne HO_7.out BK523.out (by decide))); have n2_ := xA.mk (hb); have n3_ := xA.mk (ho); clear HO_5; clear BK523; clear HB; clear HO_7; have HO_5 := n0_; have BK523 := n1_; have HB := n2_; have HO528 := n3_; clear n0_ n1_ n2_ n3_; clear ho hb hg hat))
    go_roundg k2
    case measure => have := HK1.out; have := HK2.out; omega
    case rel => exact ⟨(y526), (wrap64 (x8_2 + 1)), rfl, H', ⟨by have := HK1.out; have := HK2.out; omega⟩, ⟨by exact Kd.xT HO_5.out (fun _ hk => hk.2)⟩, ⟨by exact HO528.out⟩, ⟨by exact BK523.out⟩, ⟨HB.out⟩⟩
   rw [if_neg c10] at H
   have c10b0 : ((rd (rd_L1 l0 x6_1) x8_2) == (-1152921504606846976)) = false := jg c10
   obtain ⟨c13, H⟩ := yF H
   have LMc13 := xA.mk c13
   clear c13
   obtain ⟨y531, hy531⟩ : ∃ y_ : List Int, y_ = (x7_2 ++ [wrap64 ((wrap64 (a1_1 * (rd (rd_L1 l0 x6_1) x8_2))) - a1_0)]) := ⟨_, rfl⟩
   replace H : (r5scaled.l1 k2 l0 x5_1 x6_1 y531 (wrap64 (x8_2 + 1)) a1_0 a1_1) = some r := by rw [hy531]; exact H
   have Ny531 := xA.mk hy531
   clear hy531
   have H' := xA.mk H
   clear H
   have p524 : 0 ≤ (x6_1 : Int) := qq
   have q524 : x6_1 < (l0.length : Int) := qq
   obtain ⟨ad524, A524_0, c524_0, e524, hx524_0, hl524_0, hi524_0⟩ := at_L1 HR0.out x6_1 p524 q524
   cases e524
   replace hx524_0 := (HB.out.cell (World.block_lt_of_cell? w _ hx524_0)).trans hx524_0
   have HR524_0 := xA.mk hi524_0
   have HC524_0 := xA.mk hl524_0
   clear hi524_0 hl524_0
   replace p524 := eq_true p524
   replace q524 := eq_true q524
   have p525 : 0 ≤ (x8_2 : Int) := qq
   have q525 : x8_2 < ((rd_L1 l0 x6_1).length : Int) := qq
   obtain ⟨ad525, e525, hx525_0⟩ := Kd.xU HR524_0.out x8_2 p525 q525
   cases e525
   replace hx525_0 := (HB.out.cell (World.block_lt_of_cell? w _ hx525_0)).trans hx525_0
   replace p525 := eq_true p525
   replace q525 := eq_true q525
   try go_wp2
   have n0_ := xA.mk (Kd.S_drew HO_5.out)
   have n1_ := xA.mk (Kd.R_drew HO_7.out)
   have n2_ := xA.mk (xI BK523.out)
   have n3_ := xA.mk (xS HB.out)
   clear HO_5
   clear HO_7
   clear BK523
   clear HB
   have HO_5 := n0_
   have HO_7 := n1_
   have BK523 := n2_
   have HB := n3_
   clear n0_ n1_ n2_ n3_
   have p529 : 0 ≤ (x6_1 : Int) := qq
   have q529 : x6_1 < (l0.length : Int) := qq
   obtain ⟨ad529, A529_0, c529_0, e529, hx529_0, hl529_0, hi529_0⟩ := at_L1 HR0.out x6_1 p529 q529
   have hw529_0 := hx529_0
   obtain rfl : ad524 = ad529 := (by injection e529)
   replace hx529_0 := (HB.out.cell (World.block_lt_of_cell? w _ hx529_0)).trans hx529_0
   have HR529_0 := xA.mk hi529_0
   have HC529_0 := xA.mk hl529_0
   clear hi529_0 hl529_0
   replace p529 := eq_true p529
   replace q529 := eq_true q529
   have p530 : 0 ≤ (x8_2 : Int) := qq
   have q530 : x8_2 < ((rd_L1 l0 x6_1).length : Int) := qq
   obtain ⟨ad530, e530, hx530_0⟩ := Kd.xU HR529_0.out x8_2 p530 q530
   have hw530_0 := hx530_0
   cases e530
   replace hx530_0 := (HB.out.cell (World.block_lt_of_cell? w _ hx530_0)).trans hx530_0
   replace p530 := eq_true p530
   replace q530 := eq_true q530
   refine start_ (n := 17) (S := fun w' => w'.cell? ⟨gb523, 0, none⟩ = some (.int .i64 a1_0) ∧ w'.cell? ⟨gb523, 1, none⟩ = some (.int .i64 a1_1) ∧ w'.cell? (ad524.add (x6_1).toNat) = some (.slice (some ad530) (rd_L1 l0 x6_1).length c529_0) ∧ w'.cell? (ad530.add (x8_2).toNat) = some (.int .i64 (rd (rd_L1 l0 x6_1) x8_2))) (ds := []) (jl 17 0) jk rfl rfl ⟨(xE BK523.out 0).trans rfl, (xE BK523.out 1).trans rfl, ((HB.out.cell (World.block_lt_of_cell? w _ hw529_0)).trans hw529_0), ((HB.out.cell (World.block_lt_of_cell? w _ hw530_0)).trans hw530_0)⟩ (fun hHeld => ?_); refine with_tabW r5scaled.tab11 r5scaled.bits11 (fun HT_ HW_ => ?_)
   generalize wr.drew = w14 at HO_5 HO_7 BK523 HB HR529_0 hx529_0 hx530_0 hHeld ⊢
   refine pure_ (i := 0) (N := some 32) (v := ?_) (a' := ?_) (jl 17 1) rfl rfl (xL HT_.out jk) (fun _ _ _ h => h) (Or.inl ⟨by rfl, ?_⟩) ?_ ?_
   rotate_left
   ·
    intro w'
    go_simp
    with_reducible rfl
   rotate_left
   ·
    simp only [Act.put, qy, qz, ja, i64_w, i32_w]
    rfl
   refine pure_ (i := 1) (N := some 33) (v := ?_) (a' := ?_) (jl 17 3) rfl rfl (xL HT_.out jk) (fun _ _ _ h => h) (Or.inl ⟨by rfl, ?_⟩) ?_ ?_
   rotate_left
   ·
    intro w'
    go_simp
    with_reducible rfl
   rotate_left
   ·
    simp only [Act.put, qy, qz, ja, i64_w, i32_w]
    rfl
   refine pure_ (i := 3) (N := some 35) (v := ?_) (a' := ?_) (jl 17 11) rfl rfl (xL HT_.out jk) (fun _ _ _ h => h) (Or.inl ⟨by rfl, ?_⟩) ?_ ?_
   rotate_left
   ·
    intro w'
    go_simp
    with_reducible rfl
   rotate_left
   ·
    simp only [Act.put, qy, qz, ja, i64_w, i32_w]
    rfl
   refine pure_ (i := 4) (N := some 36) (v := ?_) (a' := ?_) (jl 17 27) rfl rfl (xL HT_.out jk) (fun _ _ _ h => h) (Or.inl ⟨by rfl, ?_⟩) ?_ ?_
   rotate_left
   ·
    intro w'
    go_simp
    with_reducible rfl
   rotate_left
   ·
    simp only [Act.put, qy, qz, ja, i64_w, i32_w]
    rfl
   refine pure_ (i := 5) (N := some 37) (v := ?_) (a' := ?_) (jl 17 59) rfl rfl (xL HT_.out jk) (fun _ _ _ h => h) (Or.inl ⟨by rfl, ?_⟩) ?_ ?_
   rotate_left
   ·
    intro w'
    go_simp
    with_reducible rfl
   rotate_left
   ·
    simp only [Act.put, qy, qz, ja, i64_w, i32_w]
    rfl
   refine pure_ (i := 7) (N := some 39) (v := ?_) (a' := ?_) (jl 17 187) rfl rfl (xL HT_.out jk) (fun _ _ _ h => h) (Or.inl ⟨by rfl, ?_⟩) ?_ ?_
   rotate_left
   ·
    intro w'
    go_simp
    with_reducible rfl
   rotate_left
   ·
    simp only [Act.put, qy, qz, ja, i64_w, i32_w]
    rfl
   refine pure_ (i := 11) (N := some 43) (v := ?_) (a' := ?_) (jl 17 2235) rfl rfl (xL HT_.out jk) (fun _ _ _ h => h) (Or.inl ⟨by rfl, ?_⟩) ?_ ?_
   rotate_left
   ·
    intro w'
    go_simp
    with_reducible rfl
   rotate_left
   ·
    simp only [Act.put, qy, qz, ja, i64_w, i32_w]
    rfl
   refine take_ (i := 2) (N := some 34) (v := ?_) (a' := ?_) (jl 17 2239) rfl rfl (take_ofW HT_.out HW_.out jk) (fun _ _ _ h => h) (Or.inl ⟨by rfl, ?_⟩) hHeld ?_ ?_
   rotate_left
   ·
    rintro w' ⟨s0, s1, s2, s3⟩
    go_simp
    with_reducible rfl
   rotate_left
   ·
    simp only [Act.put, qy, qz, ja, i64_w, i32_w]
    rfl
   refine take_ (i := 6) (N := some 38) (v := ?_) (a' := ?_) (jl 17 2303) rfl rfl (take_ofW HT_.out HW_.out jk) (fun _ _ _ h => h) (Or.inl ⟨by rfl, ?_⟩) hHeld ?_ ?_
   rotate_left
   ·
    rintro w' ⟨s0, s1, s2, s3⟩
    go_simp
    with_reducible rfl
   rotate_left
   ·
    simp only [Act.put, qy, qz, ja, i64_w, i32_w]
    rfl
   refine pure_ (i := 8) (N := some 40) (v := ?_) (a' := ?_) (jl 17 2559) rfl rfl (xL HT_.out jk) (fun _ _ _ h => h) (Or.inl ⟨by rfl, ?_⟩) ?_ ?_
   rotate_left
   ·
    intro w'
    go_simp
    with_reducible rfl
   rotate_left
   ·
    simp only [Act.put, qy, qz, ja, i64_w, i32_w]
    rfl
   refine take_ (i := 9) (N := some 41) (v := ?_) (a' := ?_) (jl 17 3071) rfl rfl (take_ofW HT_.out HW_.out jk) (fun _ _ _ h => h) (Or.inl ⟨by rfl, ?_⟩) hHeld ?_ ?_
   rotate_left
   ·
    rintro w' ⟨s0, s1, s2, s3⟩
    go_simp
    with_reducible rfl
   rotate_left
   ·
    simp only [Act.put, qy, qz, ja, i64_w, i32_w]
    rfl
   refine pure_ (i := 10) (N := some 42) (v := ?_) (a' := ?_) (jl 17 4095) rfl rfl (xL HT_.out jk) (fun _ _ _ h => h) (Or.inl ⟨by rfl, ?_⟩) ?_ ?_
   rotate_left
   ·
    intro w'
    go_simp
    with_reducible rfl
   rotate_left
   ·
    simp only [Act.put, qy, qz, ja, i64_w, i32_w]
    rfl
   refine take_ (i := 12) (N := some 44) (v := ?_) (a' := ?_) (jl 17 8191) rfl rfl (take_ofW HT_.out HW_.out jk) (fun _ _ _ h => h) (Or.inl ⟨by rfl, ?_⟩) hHeld ?_ ?_
   rotate_left
   ·
    rintro w' ⟨s0, s1, s2, s3⟩
    go_simp
    with_reducible rfl
   rotate_left
   ·
    simp only [Act.put, qy, qz, ja, i64_w, i32_w]
    rfl
   refine pure_ (i := 13) (N := some 45) (v := ?_) (a' := ?_) (jl 17 16383) rfl rfl (xL HT_.out jk) (fun _ _ _ h => h) (Or.inl ⟨by rfl, ?_⟩) ?_ ?_
   rotate_left
   ·
    intro w'
    go_simp
    with_reducible rfl
   rotate_left
   ·
    simp only [Act.put, qy, qz, ja, i64_w, i32_w]
    rfl
   refine one_ (i := 14) (N := some 46) (jl 17 32767) rfl rfl (one_of HT_.out jk) (by decide) (fun K hK => ?_)
   refine value_ (w1 := ?_) (v := ?_) (by rfl) rfl ?_ ?_
   rotate_left 2
   ·
    go_simp
    constructor
    ·
     rfl
    ·
     rfl
   refine hK.out _ _ ⟨(xE (xJ BK523.out _) 0).trans rfl, (xE (xJ BK523.out _) 1).trans rfl, (World.cell?_alloc_lt _ _ _ (World.block_lt_of_cell? _ _ (((HB.out.cell (World.block_lt_of_cell? w _ hw529_0)).trans hw529_0)))).trans (((HB.out.cell (World.block_lt_of_cell? w _ hw529_0)).trans hw529_0)), (World.cell?_alloc_lt _ _ _ (World.block_lt_of_cell? _ _ (((HB.out.cell (World.block_lt_of_cell? w _ hw530_0)).trans hw530_0)))).trans (((HB.out.cell (World.block_lt_of_cell? w _ hw530_0)).trans hw530_0))⟩ (fun hHeld => ?_)
   clear hK K
   refine norm_ (a' := ?_) ?_ ?_
   rotate_left
   ·
    show Act.put _ (some 46) _ = _
    simp only [Act.put, qy, qz, ja, i64_w, i32_w]
    rfl
   refine one_ (i := 15) (N := some 47) (jl 17 65535) rfl rfl (one_of HT_.out jk) (by decide) (fun K hK => ?_)
   refine Kd.R_append_step (Kd.int .i64) (w0 := w) w.heap.size (by rfl) (.tmp 32) (.tmp 46) 26 3 (.int .i64 0) 8 rfl Try.underlying26 info3 rfl (by decide) jj u7 x7_2 (wrap64 ((wrap64 (a1_1 * (rd (rd_L1 l0 x6_1) x8_2))) - a1_0)) [.int .i64 (wrap64 ((wrap64 (a1_1 * (rd (rd_L1 l0 x6_1) x8_2))) - a1_0))] (fun _ => True) (fun _ => False) rfl rfl ?aP (fun _ hk => hk.elim) ?aF ?aO ?aB ?aS ?aL ?_
   (case aP => exact rfl)
   (case aB => exact (HB.out))
   (case aF => exact (fun _ _ => trivial))
   (case aO => exact (by exact HO_7.out))
   (case aS => exact (xB (HB.out)))
   (case aL => have := LMc13.out; omega)
   intro v532 w15 ho hb hg hat
   rw [← Ny531.out] at ho
   have n0_ := xA.mk (Kd.S_after (ok := (fun _ => True)) (by exact Kd.xT HO_5.out (fun _ hk => ⟨trivial, hk⟩)) hg hat)
   have n1_ := xA.mk (blk_grown (g := gb523) (o := .cells #[.int .i64 a1_0, .int .i64 a1_1] 37 (0, 0)) (by exact BK523.out) hg (Kd.R_ne HO_7.out BK523.out (by decide)))
   have n2_ := xA.mk (hb)
   have n3_ := xA.mk (ho)
   clear HO_5
   clear BK523
   clear HB
   clear HO_7
   have HO_5 := n0_
   have BK523 := n1_
   have HB := n2_
   have HO533 := n3_
   clear n0_ n1_ n2_ n3_
   clear ho hb hg hat
   refine hK.out _ _ ⟨(xE BK523.out 0).trans rfl, (xE BK523.out 1).trans rfl, ((HB.out.cell (World.block_lt_of_cell? w _ hw529_0)).trans hw529_0), ((HB.out.cell (World.block_lt_of_cell? w _ hw530_0)).trans hw530_0)⟩ (fun hHeld => ?_)
   clear hK K
   refine norm_ (a' := ?_) ?_ ?_
   rotate_left
   ·
    show Act.put _ (some 47) _ = _
    simp only [Act.put, qy, qz, ja, i64_w, i32_w]
    rfl
   refine pure_ (i := 16) (N := some 7) (v := ?_) (a' := ?_) (jl 17 131071) rfl rfl (xL HT_.out jk) (fun _ _ _ h => h) (Or.inl ⟨by rfl, ?_⟩) ?_ ?_
   rotate_left
   ·
    intro w'
    go_simp
    with_reducible rfl
   rotate_left
   ·
    simp only [Act.put, qy, qz, ja, i64_w, i32_w]
    rfl
   refine done_ (done_of HT_.out jk) ?_
   try go_wp2
   go_roundg k2
   case measure => have := HK1.out; have := HK2.out; omega
   case rel => exact ⟨(y531), (wrap64 (x8_2 + 1)), rfl, H', ⟨by have := HK1.out; have := HK2.out; omega⟩, ⟨by exact Kd.xT HO_5.out (fun _ hk => hk.2)⟩, ⟨by exact HO533.out⟩, ⟨by exact BK523.out⟩, ⟨HB.out⟩⟩
def r5connected.l0 : Nat → List (List Int) → Int → Option (Bool)
 | 0, _, _ => none
 | k + 1, x4, x5 => if x5 < (x4.length : Int) then (if 0 ≤ x5 then ((r5has.f k (rd_L1 x4 x5) (-1152921504606846976)).bind fun t544 => (if t544 = true then (some false) else (r5connected.l0 k x4 (wrap64 (x5 + 1))))) else (none)) else (some true)
def r5connected.f (k : Nat) (l0 : List (List Int)) : Option (Bool) := (r5scaled.f k l0 0 0).bind fun t537 => ((r5walks.f k t537).bind fun t540 => (r5connected.l0 k t540 0))
theorem r5connected.calls (k : Nat) (A0 : Option Addr) (c0 : Nat) (l0 : List (List Int)) (r : Bool) (w : World) (hr0 : Kd.C (Kd.slice 3 (Kd.int .i64)) w A0 l0.length l0) (hc0 : l0.length ≤ c0) (h : r5connected.f k l0 = some r) :
  Calls Try.prog 50 #[.slice A0 l0.length c0] w fun e w' => e = .returned (.bool r) ∧ Below w.heap.size w w' := by
 have hu37 := Try.underlying37
 have HR0 := xA.mk hr0
 have HC0 := xA.mk hc0
 clear hr0 hc0
 have HB := xA.mk (Below.refl w.heap.size w)
 have H : ((r5scaled.f k l0 0 0).bind fun t537 => ((r5walks.f k t537).bind fun t540 => (r5connected.l0 k t540 0))) = some r := h
 clear h
 replace H := qw H
 obtain ⟨t537, A20, H⟩ := H
 replace H : ((r5walks.f k t537).bind fun t540 => (r5connected.l0 k t540 0)) = some r := H
 have A2 := xA.mk A20
 clear A20
 replace H := qw H
 obtain ⟨t540, A30, H⟩ := H
 replace H : (r5connected.l0 k t540 0) = some r := H
 have A3 := xA.mk A30
 clear A30
 have H' := xA.mk H
 clear H
 go_enter Try.func50, Try.ntmps50
 go_wp2_with (first | ((with_reducible refine xG (f := 53) rfl ?_); refine xM (some 8) rfl rfl Try.func53 jk rfl #[.slice A0 l0.length c0, .agg #[.int .i64 0, .int .i64 0]] rfl qd ?_; (with_reducible refine (r5scaled.calls k _ _ l0 0 0 t537 _ ?side1 ?side2 A2.out).mono ?_); (case side1 => repeat (first | exact HR0.out)); (case side2 => exact HC0.out); rintro e w4 ⟨v538, rfl, ho0, hb⟩; refine ⟨_, rfl, ?_⟩; have HO539 := xA.mk (Kd.S_lower ho0 (xB (HB.out))); replace HB := xA.mk (xD (HB.out) hb); obtain ⟨Ao5, co5, eo5⟩ := Kd.yC HO539.out; subst eo5) | ((with_reducible refine xG (f := 52) rfl ?_); refine xM (some 10) rfl rfl Try.func52 jk rfl #[.slice Ao5 t537.length co5] rfl qd ?_; (with_reducible refine (r5walks.calls k _ _ t537 t540 _ ?side1 ?side2 A3.out).mono ?_); (case side1 => repeat (first | exact (Kd.xH HO539.out).2.2)); (case side2 => exact (Kd.xH HO539.out).2.1); rintro e w6 ⟨v541, rfl, ho0, hb⟩; refine ⟨_, rfl, ?_⟩; have HO542 := xA.mk (Kd.S_lower (Kd.S_new' ho0 (Kd.S_lt (by exact HO539.out))) (xB (HB.out))); replace HO539 := xA.mk (Kd.S_elder' (by exact HO539.out) (Kd.S_base ho0) hb); replace HB := xA.mk (xD (HB.out) hb)))
 go_loopg [5] k (fun kq v5 w' => ∃ (x5_1 : Int), v5 = .int .i64 x5_1 ∧ xA (r5connected.l0 kq t540 x5_1 = some r) ∧ xA (kq ≤ k) ∧ xA (Kd.S (Kd.slice 3 (Kd.int .i64)) 26 w' w.heap.size (fun _ => True) v541 t540) ∧ xA (Below w.heap.size w w'))
 case atStart => exact ⟨(0), rfl, H', ⟨Nat.le_refl _⟩, ⟨by exact Kd.xT HO542.out (fun _ hk => trivial)⟩, ⟨HB.out⟩⟩
 case round =>
  clear H'
  obtain ⟨x5_1, rfl, HA, HK1, HO_4, HB⟩ := hrel
  obtain _ | k1 := gk
  · exact absurd HA.out (by simp [r5connected.l0])
  have H := HA.out
  clear HA
  simp only [r5connected.l0] at H
  obtain ⟨c7b0, H⟩ | ⟨c7b0, H⟩ := yA H
  rotate_left
  ·
   obtain rfl := qx H
   obtain ⟨Ao13, co13, eo13⟩ := Kd.yC HO_4.out
   subst eo13
   go_wp2
   go_ret
   exact ⟨rfl, HB.out⟩
  obtain ⟨c8b0, H⟩ := xF H
  replace H := qw H
  obtain ⟨t544, A90, H⟩ := H
  replace H : (if t544 = true then (some false) else (r5connected.l0 k1 t540 (wrap64 (x5_1 + 1)))) = some r := H
  have A9 := xA.mk A90
  clear A90
  by_cases c10 : t544 = true
  ·
   subst c10
   have H1 : (some false) = some r := by rw [if_pos rfl] at H; exact H
   clear H
   have H := H1
   clear H1
   obtain rfl := qx H
   obtain ⟨Ao11, co11, eo11⟩ := Kd.yC HO_4.out
   subst eo11
   have p543 : 0 ≤ (x5_1 : Int) := qq
   have q543 : x5_1 < (t540.length : Int) := qq
   obtain ⟨ad543, A543_0, c543_0, e543, hx543_0, hl543_0, hi543_0⟩ := at_L1 (Kd.xH HO_4.out).2.2 x5_1 p543 q543
   cases e543
   obtain ⟨ce543, hce543, hMe543, hcc543⟩ := Kd.S_get HO_4.out [] x5_1 p543 (by first | exact q543 | exact qq | (have e_ := (Kd.xH HO_4.out).1; omega))
   obtain ⟨ve543_0, rfl, ge543_0⟩ := hMe543
   have hv543_0 := hcc543 0 _ rfl
   rw [Nat.add_zero, show ((Kd.slice 3 (Kd.int .i64))).sz = 1 from rfl, Nat.mul_one] at hv543_0
   replace hv543_0 := qx (hv543_0.symm.trans hx543_0)
   rw [hv543_0] at ge543_0
   have HL543_0 := xA.mk (show Kd.R (Kd.int .i64) 3 _ _ _ _ (rd_L1 t540 x5_1) from ge543_0)
   clear hv543_0 ge543_0
   clear hcc543 hce543
   have HR543_0 := xA.mk hi543_0
   have HC543_0 := xA.mk hl543_0
   clear hi543_0 hl543_0
   replace p543 := eq_true p543
   replace q543 := eq_true q543
   go_wp2_with (first | ((with_reducible refine xG (f := 85) rfl ?_); refine xM (some 21) rfl rfl Try.func85 jk rfl #[.slice A543_0 (rd_L1 t540 x5_1).length c543_0, .int .i64 (-1152921504606846976)] rfl qd ?_; (with_reducible refine (r5has.calls k1 _ _ (rd_L1 t540 x5_1) (-1152921504606846976) true _ ?side1 ?side2 A9.out).mono ?_); (case side1 => repeat (first | exact (by repeat (first | (with_reducible exact HR543_0.out) | exact HR543_0.out)))); (case side2 => exact HC543_0.out); rintro e w' ⟨rfl, ⟨nd, rfl⟩⟩; refine ⟨_, rfl, ?_⟩))
   go_ret
   exact ⟨rfl, qb⟩
  replace c10 := Bool.eq_false_iff.mpr c10
  subst c10
  have H1 : (r5connected.l0 k1 t540 (wrap64 (x5_1 + 1))) = some r := by rw [if_neg (show ¬ (false = true) by decide)] at H; exact H
  clear H
  have H := H1
  clear H1
  have H' := xA.mk H
  clear H
  obtain ⟨Ao12, co12, eo12⟩ := Kd.yC HO_4.out
  subst eo12
  have p543 : 0 ≤ (x5_1 : Int) := qq
  have q543 : x5_1 < (t540.length : Int) := qq
  obtain ⟨ad543, A543_0, c543_0, e543, hx543_0, hl543_0, hi543_0⟩ := at_L1 (Kd.xH HO_4.out).2.2 x5_1 p543 q543
  cases e543
  obtain ⟨ce543, hce543, hMe543, hcc543⟩ := Kd.S_get HO_4.out [] x5_1 p543 (by first | exact q543 | exact qq | (have e_ := (Kd.xH HO_4.out).1; omega))
  obtain ⟨ve543_0, rfl, ge543_0⟩ := hMe543
  have hv543_0 := hcc543 0 _ rfl
  rw [Nat.add_zero, show ((Kd.slice 3 (Kd.int .i64))).sz = 1 from rfl, Nat.mul_one] at hv543_0
  replace hv543_0 := qx (hv543_0.symm.trans hx543_0)
  rw [hv543_0] at ge543_0
  have HL543_0 := xA.mk (show Kd.R (Kd.int .i64) 3 _ _ _ _ (rd_L1 t540 x5_1) from ge543_0)
  clear hv543_0 ge543_0
  clear hcc543 hce543
  have HR543_0 := xA.mk hi543_0
  have HC543_0 := xA.mk hl543_0
  clear hi543_0 hl543_0
  replace p543 := eq_true p543
  replace q543 := eq_true q543
  go_wp2_with (first | ((with_reducible refine xG (f := 85) rfl ?_); refine xM (some 21) rfl rfl Try.func85 jk rfl #[.slice A543_0 (rd_L1 t540 x5_1).length c543_0, .int .i64 (-1152921504606846976)] rfl qd ?_; (with_reducible refine (r5has.calls k1 _ _ (rd_L1 t540 x5_1) (-1152921504606846976) false _ ?side1 ?side2 A9.out).mono ?_); (case side1 => repeat (first | exact (by repeat (first | (with_reducible exact HR543_0.out) | exact HR543_0.out)))); (case side2 => exact HC543_0.out); rintro e w' ⟨rfl, ⟨nd, rfl⟩⟩; refine ⟨_, rfl, ?_⟩))
  go_roundg k1
  case measure => have := HK1.out; omega
  case rel => exact ⟨(wrap64 (x5_1 + 1)), rfl, H', ⟨by have := HK1.out; omega⟩, ⟨qh HO_4.out⟩, ⟨qb⟩⟩
mutual
def r5critical.l0 : Nat → List (List Int) → List Bool → List (List Int) → Int → Int → Int → Option (List Int)
 | 0, _, _, _, _, _, _ => none
 | k + 1, x0, x5, x6, x7, x546000, x546001 => if x7 < (x6.length : Int) then (if 0 ≤ x7 then ((r5weight.f k x0 (rd_L1 x6 x7)).bind fun t553 => (if (wrap64 (t553 * x546001)) = (wrap64 (x546000 * ((rd_L1 x6 x7).length : Int))) then (r5critical.l1 k x0 x5 x6 x7 0 x546000 x546001) else (r5critical.l0 k x0 x5 x6 (wrap64 (x7 + 1)) x546000 x546001))) else (none)) else (r5critical.l2 k x5 ([] : List Int) 0)
def r5critical.l1 : Nat → List (List Int) → List Bool → List (List Int) → Int → Int → Int → Int → Option (List Int)
 | 0, _, _, _, _, _, _, _ => none
 | k + 1, x0, x5, x6, x7, x8, x546000, x546001 => if 0 ≤ x7 then (if x7 < (x6.length : Int) then (if x8 < ((rd_L1 x6 x7).length : Int) then (if 0 ≤ x8 then (if 0 ≤ (rd (rd_L1 x6 x7) x8) then (if (rd (rd_L1 x6 x7) x8) < (x5.length : Int) then (r5critical.l1 k x0 (x5.set ((rd (rd_L1 x6 x7) x8) : Int).toNat true) x6 x7 (wrap64 (x8 + 1)) x546000 x546001) else (none)) else (none)) else (none)) else (r5critical.l0 k x0 x5 x6 (wrap64 (x7 + 1)) x546000 x546001)) else (none)) else (none)
def r5critical.l2 : Nat → List Bool → List Int → Int → Option (List Int)
 | 0, _, _, _ => none
 | k + 1, x5, x9, x10 => if x10 < (x5.length : Int) then (if 0 ≤ x10 then (if rdOf false x5 x10 = true then (if x9.length < 17592186044416 then (r5critical.l2 k x5 (x9 ++ [x10]) (wrap64 (x10 + 1))) else (none)) else (r5critical.l2 k x5 x9 (wrap64 (x10 + 1)))) else (none)) else (some x9)
end
def r5critical.f (k : Nat) (l0 : List (List Int)) (a1_0 : Int) (a1_1 : Int) : Option (List Int) := if 0 ≤ (l0.length : Int) then (if ((l0.length : Int) : Int).toNat ≤ 281474976710656 then ((r5Cycles.f k l0).bind fun t549 => (r5critical.l0 k l0 (List.replicate ((l0.length : Int) : Int).toNat false) t549 0 a1_0 a1_1)) else (none)) else (none)
theorem r5critical.calls (k : Nat) (A0 : Option Addr) (c0 : Nat) (l0 : List (List Int)) (a1_0 : Int) (a1_1 : Int) (r : List Int) (w : World) (hr0 : Kd.C (Kd.slice 3 (Kd.int .i64)) w A0 l0.length l0) (hc0 : l0.length ≤ c0) (h : r5critical.f k l0 a1_0 a1_1 = some r) :
  Calls Try.prog 51 #[.slice A0 l0.length c0, .agg #[.int .i64 a1_0, .int .i64 a1_1]] w fun e w' => ∃ v0_ : Value, e = .returned (v0_) ∧ Kd.R (Kd.int .i64) 3 w' w.heap.size (fun _ => True) v0_ r ∧ Below w.heap.size w w' := by
 have hu37 := Try.underlying37
 have HR0 := xA.mk hr0
 have HC0 := xA.mk hc0
 clear hr0 hc0
 have HB := xA.mk (Below.refl w.heap.size w)
 have H : (if 0 ≤ (l0.length : Int) then (if ((l0.length : Int) : Int).toNat ≤ 281474976710656 then ((r5Cycles.f k l0).bind fun t549 => (r5critical.l0 k l0 (List.replicate ((l0.length : Int) : Int).toNat false) t549 0 a1_0 a1_1)) else (none)) else (none)) = some r := h
 clear h
 obtain ⟨c3, H⟩ := yF H
 have c3b0 := eq_true c3
 have c3b1 : decide (0 ≤ (l0.length : Int)) = true := qu c3
 clear c3
 obtain ⟨c4, H⟩ := yF H
 have c4b0 := eq_true c4
 have c4b1 : decide (((l0.length : Int) : Int).toNat ≤ 281474976710656) = true := qu c4
 clear c4
 obtain ⟨y546, hy546⟩ : ∃ y_ : List Bool, y_ = (List.replicate ((l0.length : Int) : Int).toNat false) := ⟨_, rfl⟩
 replace H : ((r5Cycles.f k l0).bind fun t549 => (r5critical.l0 k l0 y546 t549 0 a1_0 a1_1)) = some r := by first | (rw [hy546]; with_reducible exact H) | (have H2_ := (Option.bind_some _ _).symm.trans H; rw [hy546]; with_reducible exact H2_) | (have H2_ := (Option.bind_some _ _).symm.trans H; with_reducible exact H2_) | with_reducible exact H | (rw [hy546]; exact H) | exact H
 have Ny546 := xA.mk hy546
 clear hy546
 replace H := qw H
 obtain ⟨t549, A50, H⟩ := H
 replace H : (r5critical.l0 k l0 y546 t549 0 a1_0 a1_1) = some r := H
 have A5 := xA.mk A50
 clear A50
 have H' := xA.mk H
 clear H
 go_enter Try.func51, Try.ntmps51
 go_wp2_with (first | ((with_reducible refine xZ (N := 3) rfl ?_); refine yD ?hg (N := 3) ?hd (cs := #[.int .i64 a1_0, .int .i64 a1_1]) (t := 37) ?hr ?_; (case hd => rfl); (case hg => rfl); (case hr => first | (go_simp; done) | (go_simp; rfl)); intro gb545 hg w6 hbox hb; have n0_ := xA.mk (xD qa hb); have n1_ := xA.mk (hbox); have n2_ := xA.mk ((by rw [hg]; exact (xB qa) : w.heap.size ≤ gb545)); have n3_ := xA.mk ((by rw [hg]; exact (xB qa) : w.heap.size ≤ gb545)); clear HB; have HB := n0_; have BK545 := n1_; have GW545 := n2_; have GE545 := n3_; clear n0_ n1_ n2_ n3_; clear hb hbox hg) | ((with_reducible refine xZ (N := 13) rfl ?_); refine Kd.R_make Kd.bool _ 4 rfl (N := 13) rfl 91 _ _ rfl (l0.length : Int) rfl rfl Try.underlying91 (.bool false) 1 info4 rfl (by decide) jj false (ok := fun _ => True) (okp := fun _ => True) rfl (fun _ hk => hk) trivial (qr) (Nat.le_trans (Nat.mul_le_mul_right _ (qr : (l0.length : Int).toNat ≤ 281474976710656)) jj) (Below.refl _ _) (Nat.le_refl _) ?_; intro v547 w7 ho8 hb hg_ hnew_; clear hg_ hnew_; (first | rw [← Ny546.out] at ho8 | (simp only [Int.reduceToNat] at ho8; rw [← Ny546.out] at ho8)); have HO548 := xA.mk (Kd.R_lower ho8 (xB (qo GE545.out))); replace BK545 := xA.mk (xO (g := gb545) (o := .cells #[.int .i64 a1_0, .int .i64 a1_1] 37 (0, 0)) (qn BK545.out) hb); replace HB := xA.mk (xD (qo GE545.out) hb); clear hb ho8) | (go_at_call 86; (with_reducible refine (r5Cycles.calls k _ _ l0 t549 _ ?side1 ?side2 A5.out).mono ?_); (case side1 => exact qm (Kd.xQ HR0.out HB.out)); (case side2 => exact HC0.out); rintro e w9 ⟨v550, rfl, ho0, hb⟩; have HO551 := xA.mk (Kd.N_lower (Kd.N_mono (ok' := fun k_ => some k_ ≠ (v547 : Value).ownBlock ∧ k_ ≠ gb545) ho0 (fun k_ hk_ => ⟨(Kd.fresh' (Kd.R_lt (qi HO548.out)) k_ hk_), (Kd.freshB (g := gb545) (o := .cells #[.int .i64 a1_0, .int .i64 a1_1] 37 (0, 0)) (qn BK545.out) k_ hk_)⟩)) (xB (qo GE545.out))); replace HO548 := xA.mk (Kd.R_below (qi HO548.out) hb); replace BK545 := xA.mk (xO (g := gb545) (o := .cells #[.int .i64 a1_0, .int .i64 a1_1] 37 (0, 0)) (qn BK545.out) hb); replace HB := xA.mk (xD (qo GE545.out) hb); (try clear hb); (try clear hb2); (try clear hk); (try clear hi); (try clear ho0)))
 repeat (go_quiet (first | ((with_reducible refine xZ (N := 3) rfl ?_); refine yD ?hg (N := 3) ?hd (cs := #[.int .i64 a1_0, .int .i64 a1_1]) (t := 37) ?hr ?_; (case hd => rfl); (case hg => rfl); (case hr => first | (go_simp; done) | (go_simp; rfl)); intro gb545 hg w6 hbox hb; have n0_ := xA.mk (xD qa hb); have n1_ := xA.mk (hbox); have n2_ := xA.mk ((by rw [hg]; exact (xB qa) : w.heap.size ≤ gb545)); have n3_ := xA.mk ((by rw [hg]; exact (xB qa) : w.heap.size ≤ gb545)); clear HB; have HB := n0_; have BK545 := n1_; have GW545 := n2_; have GE545 := n3_; clear n0_ n1_ n2_ n3_; clear hb hbox hg) | ((with_reducible refine xZ (N := 13) rfl ?_); refine Kd.R_make Kd.bool _ 4 rfl (N := 13) rfl 91 _ _ rfl (l0.length : Int) rfl rfl Try.underlying91 (.bool false) 1 info4 rfl (by decide) jj false (ok := fun _ => True) (okp := fun _ => True) rfl (fun _ hk => hk) trivial (qr) (Nat.le_trans (Nat.mul_le_mul_right _ (qr : (l0.length : Int).toNat ≤ 281474976710656)) jj) (Below.refl _ _) (Nat.le_refl _) ?_; intro v547 w7 ho8 hb hg_ hnew_; clear hg_ hnew_; (first | rw [← Ny546.out] at ho8 | (simp only [Int.reduceToNat] at ho8; rw [← Ny546.out] at ho8)); have HO548 := xA.mk (Kd.R_lower ho8 (xB (qo GE545.out))); replace BK545 := xA.mk (xO (g := gb545) (o := .cells #[.int .i64 a1_0, .int .i64 a1_1] 37 (0, 0)) (qn BK545.out) hb); replace HB := xA.mk (xD (qo GE545.out) hb); clear hb ho8) | (go_at_call 86; (with_reducible refine (r5Cycles.calls k _ _ l0 t549 _ ?side1 ?side2 A5.out).mono ?_); (case side1 => exact qm (Kd.xQ HR0.out HB.out)); (case side2 => exact HC0.out); rintro e w9 ⟨v550, rfl, ho0, hb⟩; have HO551 := xA.mk (Kd.N_lower (Kd.N_mono (ok' := fun k_ => some k_ ≠ (v547 : Value).ownBlock ∧ k_ ≠ gb545) ho0 (fun k_ hk_ => ⟨(Kd.fresh' (Kd.R_lt (qi HO548.out)) k_ hk_), (Kd.freshB (g := gb545) (o := .cells #[.int .i64 a1_0, .int .i64 a1_1] 37 (0, 0)) (qn BK545.out) k_ hk_)⟩)) (xB (qo GE545.out))); replace HO548 := xA.mk (Kd.R_below (qi HO548.out) hb); replace BK545 := xA.mk (xO (g := gb545) (o := .cells #[.int .i64 a1_0, .int .i64 a1_1] 37 (0, 0)) (qn BK545.out) hb); replace HB := xA.mk (xD (qo GE545.out) hb); (try clear hb); (try clear hb2); (try clear hk); (try clear hi); (try clear ho0))); try go_wp2_with (first | ((with_reducible refine xZ (N := 3) rfl ?_); refine yD ?hg (N := 3) ?hd (cs := #[.int .i64 a1_0, .int .i64 a1_1]) (t := 37) ?hr ?_; (case hd => rfl); (case hg => rfl); (case hr => first | (go_simp; done) | (go_simp; rfl)); intro gb545 hg w6 hbox hb; have n0_ := xA.mk (xD qa hb); have n1_ := xA.mk (hbox); have n2_ := xA.mk ((by rw [hg]; exact (xB qa) : w.heap.size ≤ gb545)); have n3_ := xA.mk ((by rw [hg]; exact (xB qa) : w.heap.size ≤ gb545)); clear HB; have HB := n0_; have BK545 := n1_; have GW545 := n2_; have GE545 := n3_; clear n0_ n1_ n2_ n3_; clear hb hbox hg) | ((with_reducible refine xZ (N := 13) rfl ?_); refine Kd.R_make Kd.bool _ 4 rfl (N := 13) rfl 91 _ _ rfl (l0.length : Int) rfl rfl Try.underlying91 (.bool false) 1 info4 rfl (by decide) jj false (ok := fun _ => True) (okp := fun _ => True) rfl (fun _ hk => hk) trivial (qr) (Nat.le_trans (Nat.mul_le_mul_right _ (qr : (l0.length : Int).toNat ≤ 281474976710656)) jj) (Below.refl _ _) (Nat.le_refl _) ?_; intro v547 w7 ho8 hb hg_ hnew_; clear hg_ hnew_; (first | rw [← Ny546.out] at ho8 | (simp only [Int.reduceToNat] at ho8; rw [← Ny546.out] at ho8)); have HO548 := xA.mk (Kd.R_lower ho8 (xB (qo GE545.out))); replace BK545 := xA.mk (xO (g := gb545) (o := .cells #[.int .i64 a1_0, .int .i64 a1_1] 37 (0, 0)) (qn BK545.out) hb); replace HB := xA.mk (xD (qo GE545.out) hb); clear hb ho8) | (go_at_call 86; (with_reducible refine (r5Cycles.calls k _ _ l0 t549 _ ?side1 ?side2 A5.out).mono ?_); (case side1 => exact qm (Kd.xQ HR0.out HB.out)); (case side2 => exact HC0.out); rintro e w9 ⟨v550, rfl, ho0, hb⟩; have HO551 := xA.mk (Kd.N_lower (Kd.N_mono (ok' := fun k_ => some k_ ≠ (v547 : Value).ownBlock ∧ k_ ≠ gb545) ho0 (fun k_ hk_ => ⟨(Kd.fresh' (Kd.R_lt (qi HO548.out)) k_ hk_), (Kd.freshB (g := gb545) (o := .cells #[.int .i64 a1_0, .int .i64 a1_1] 37 (0, 0)) (qn BK545.out) k_ hk_)⟩)) (xB (qo GE545.out))); replace HO548 := xA.mk (Kd.R_below (qi HO548.out) hb); replace BK545 := xA.mk (xO (g := gb545) (o := .cells #[.int .i64 a1_0, .int .i64 a1_1] 37 (0, 0)) (qn BK545.out) hb); replace HB := xA.mk (xD (qo GE545.out) hb); (try clear hb); (try clear hb2); (try clear hk); (try clear hi); (try clear ho0))))
 go_loopg [7] k (fun kq v7 w' => ∃ (x5_1 : List Bool) (x7_1 : Int), v7 = .int .i64 x7_1 ∧ xA (r5critical.l0 kq l0 x5_1 t549 x7_1 a1_0 a1_1 = some r) ∧ xA (kq ≤ k) ∧ xA (Kd.R Kd.bool 4 w' w.heap.size (fun _ => True) v547 x5_1) ∧ xA (Kd.N (Kd.slice 3 (Kd.int .i64)) 26 w' w.heap.size (fun k_ => some k_ ≠ (v547 : Value).ownBlock ∧ k_ ≠ gb545) v550 t549) ∧ xA (w'.heap[gb545]? = some (.cells #[.int .i64 a1_0, .int .i64 a1_1] 37 (0, 0))) ∧ xA (Below w.heap.size w w'))
 case atStart => exact ⟨(y546), (0), qf, H', ⟨Nat.le_refl _⟩, ⟨qi HO548.out⟩, ⟨qk HO551.out⟩, ⟨qn BK545.out⟩, ⟨qo GE545.out⟩⟩
 case round =>
  clear H'
  try clear p2
  try clear c3
  try clear c3b0
  try clear c3b1
  try clear c4
  try clear c4b0
  try clear c4b1
  try clear c5
  obtain ⟨x5_1, x7_1, rfl, HA, HK1, HO_5, HO_6, BK545, HB⟩ := hrel
  obtain _ | k1 := gk
  · exact absurd HA.out (by simp [r5critical.l0])
  have H := HA.out
  clear HA
  simp only [r5critical.l0] at H
  obtain ⟨c10b0, H⟩ | ⟨c10b0, H⟩ := yA H
  rotate_left
  ·
   have H' := xA.mk H
   clear H
   obtain ⟨Ao27, co27, eo27⟩ := Kd.N_slice HO_6.out
   subst eo27
   go_wp2
   go_loopg [9, 10] k1 (fun kq v9 v10 w' => ∃ (x9_2 : List Int) (x10_2 : Int), v10 = .int .i64 x10_2 ∧ xA (r5critical.l2 kq x5_1 x9_2 x10_2 = some r) ∧ xA (kq ≤ k1) ∧ xA (Kd.R Kd.bool 4 w' w.heap.size (fun _ => True) v547 x5_1) ∧ xA (Kd.R (Kd.int .i64) 3 w' w.heap.size (fun _ => True) v9 x9_2) ∧ xA (w'.heap[gb545]? = some (.cells #[.int .i64 a1_0, .int .i64 a1_1] 37 (0, 0))) ∧ xA (Below w.heap.size w w'))
   case atStart => exact ⟨(([] : List Int)), (0), rfl, H', ⟨Nat.le_refl _⟩, ⟨by exact HO_5.out⟩, ⟨by first | exact Kd.R_nil _ _ _ _ _ | exact Kd.N_nil _ _ _ _ _ | exact Kd.V_nil _ _ _ _ _ | exact Kd.Q_nil _ _ _ _ _ | exact Kd.S_nil _ _ _ _ _⟩, ⟨by exact BK545.out⟩, ⟨HB.out⟩⟩
   case round =>
    clear H'
    obtain ⟨x9_2, x10_2, rfl, HA, HK2, HO_5, HO_9, BK545, HB⟩ := hrel
    obtain _ | k2 := gk
    · exact absurd HA.out (by simp [r5critical.l2])
    have H := HA.out
    clear HA
    simp only [r5critical.l2] at H
    obtain ⟨c28b0, H⟩ | ⟨c28b0, H⟩ := yA H
    rotate_left
    ·
     obtain rfl := qx H
     obtain ⟨Ao36, co36, eo36⟩ := Kd.R_slice HO_5.out
     subst eo36
     go_wp2
     go_ret
     exact ⟨_, rfl, by exact HO_9.out, HB.out⟩
    obtain ⟨c29b0, H⟩ := xF H
    obtain ⟨bq30, hbq30⟩ : ∃ b_ : Bool, b_ = (rdOf false x5_1 x10_2) := ⟨_, rfl⟩
    replace H : (if bq30 = true then (if x9_2.length < 17592186044416 then (r5critical.l2 k2 x5_1 (x9_2 ++ [x10_2]) (wrap64 (x10_2 + 1))) else (none)) else (r5critical.l2 k2 x5_1 x9_2 (wrap64 (x10_2 + 1)))) = some r := by rw [← hbq30] at H; exact H
    have Nbq30 := xA.mk hbq30
    clear hbq30
    by_cases c31 : bq30 = true
    rotate_left
    ·
     replace c31 := Bool.eq_false_iff.mpr c31
     subst c31
     have H1 : (r5critical.l2 k2 x5_1 x9_2 (wrap64 (x10_2 + 1))) = some r := by rw [if_neg (show ¬ (false = true) by decide)] at H; exact H
     clear H
     have H := H1
     clear H1
     have H' := xA.mk H
     clear H
     obtain ⟨Ao35, co35, eo35⟩ := Kd.R_slice HO_5.out
     subst eo35
     have p559 : 0 ≤ (x10_2 : Int) := qq
     have q559 : x10_2 < (x5_1.length : Int) := qq
     obtain ⟨ad559, e559, hx559_0⟩ := Kd.at_bool (Kd.R_reads' HO_5.out).2.2 x10_2 p559 q559
     (try rw [← Nbq30.out] at hx559_0)
     cases e559
     replace p559 := eq_true p559
     replace q559 := eq_true q559
     go_wp2
     go_roundg k2
     case measure => have := HK1.out; have := HK2.out; omega
     case rel => exact ⟨(x9_2), (wrap64 (x10_2 + 1)), rfl, H', ⟨by have := HK1.out; have := HK2.out; omega⟩, ⟨by exact HO_5.out⟩, ⟨by exact HO_9.out⟩, ⟨by exact BK545.out⟩, ⟨HB.out⟩⟩
    subst c31
    have H1 : (if x9_2.length < 17592186044416 then (r5critical.l2 k2 x5_1 (x9_2 ++ [x10_2]) (wrap64 (x10_2 + 1))) else (none)) = some r := by rw [if_pos rfl] at H; exact H
    clear H
    have H := H1
    clear H1
    obtain ⟨c32, H⟩ := yF H
    have LMc32 := xA.mk c32
    clear c32
    obtain ⟨y560, hy560⟩ : ∃ y_ : List Int, y_ = (x9_2 ++ [x10_2]) := ⟨_, rfl⟩
    replace H : (r5critical.l2 k2 x5_1 y560 (wrap64 (x10_2 + 1))) = some r := by rw [hy560]; exact H
    have Ny560 := xA.mk hy560
    clear hy560
    have H' := xA.mk H
    clear H
    obtain ⟨Ao33, co33, eo33⟩ := Kd.R_slice HO_5.out
    subst eo33
    have p559 : 0 ≤ (x10_2 : Int) := qq
    have q559 : x10_2 < (x5_1.length : Int) := qq
    obtain ⟨ad559, e559, hx559_0⟩ := Kd.at_bool (Kd.R_reads' HO_5.out).2.2 x10_2 p559 q559
    (try rw [← Nbq30.out] at hx559_0)
    cases e559
    replace p559 := eq_true p559
    replace q559 := eq_true q559
    go_wp2_with (first | ((with_reducible refine gate_builtin (b := .append) (xs := #[.tmp 68, .tmp 70]) rfl ?_); at_builtin; refine Kd.R_append (Kd.int .i64) (w0 := w) w.heap.size rfl (.tmp 68) (.tmp 70) 26 3 (.int .i64 0) 8 rfl Try.underlying26 info3 rfl (by decide) jj u9 x9_2 x10_2 [.int .i64 x10_2] (fun _ => True) (fun _ => False) rfl rfl ?aP (fun _ hk => hk.elim) ?aF ?aO ?aB ?aS ?aL ?_; (case aP => exact rfl); (case aB => exact (HB.out)); (case aF => exact (fun _ _ => trivial)); (case aO => exact (by exact HO_9.out)); (case aS => exact (xB (HB.out))); (case aL => have := LMc32.out; omega); intro v561 w34 ho hb hg hat; rw [← Ny560.out] at ho; have n0_ := xA.mk (Kd.R_over' (by exact HO_5.out) (Kd.R_typed (by exact HO_9.out)) (by decide) hg); have n1_ := xA.mk (blk_grown (g := gb545) (o := .cells #[.int .i64 a1_0, .int .i64 a1_1] 37 (0, 0)) (by exact BK545.out) hg (Kd.R_ne HO_9.out BK545.out (by decide))); have n2_ := xA.mk (hb); have n3_ := xA.mk (ho); clear HO_5; clear BK545; clear HB; clear HO_9; have HO_5 := n0_; have BK545 := n1_; have HB := n2_; have HO562 := n3_; clear n0_ n1_ n2_ n3_; clear ho hb hg hat))
    go_roundg k2
    case measure => have := HK1.out; have := HK2.out; omega
    case rel => exact ⟨(y560), (wrap64 (x10_2 + 1)), rfl, H', ⟨by have := HK1.out; have := HK2.out; omega⟩, ⟨by exact HO_5.out⟩, ⟨by exact HO562.out⟩, ⟨by exact BK545.out⟩, ⟨HB.out⟩⟩
  obtain ⟨c11b0, H⟩ := xF H
  replace H := qw H
  obtain ⟨t553, A120, H⟩ := H
  replace H : (if (wrap64 (t553 * a1_1)) = (wrap64 (a1_0 * ((rd_L1 t549 x7_1).length : Int))) then (r5critical.l1 k1 l0 x5_1 t549 x7_1 0 a1_0 a1_1) else (r5critical.l0 k1 l0 x5_1 t549 (wrap64 (x7_1 + 1)) a1_0 a1_1)) = some r := H
  have A12 := xA.mk A120
  clear A120
  by_cases c13 : (wrap64 (t553 * a1_1)) = (wrap64 (a1_0 * ((rd_L1 t549 x7_1).length : Int)))
  rotate_left
  ·
   rw [if_neg c13] at H
   have c13b0 : ((wrap64 (t553 * a1_1)) == (wrap64 (a1_0 * ((rd_L1 t549 x7_1).length : Int)))) = false := jg c13
   have c13b0w : ((IntKind.i64.wrap (t553 * a1_1)) == (IntKind.i64.wrap (a1_0 * ((rd_L1 t549 x7_1).length : Int)))) = false := by simp only [i64_w]; exact c13b0
   have c13b1 : ((wrap64 (t553 * a1_1)) != (wrap64 (a1_0 * ((rd_L1 t549 x7_1).length : Int)))) = true := bne_iff_ne.mpr c13
   have c13b1w : ((IntKind.i64.wrap (t553 * a1_1)) != (IntKind.i64.wrap (a1_0 * ((rd_L1 t549 x7_1).length : Int)))) = true := by simp only [i64_w]; exact c13b1
   have H' := xA.mk H
   clear H
   obtain ⟨Ao25, co25, eo25⟩ := Kd.N_slice HO_6.out
   subst eo25
   have p552 : 0 ≤ (x7_1 : Int) := qr
   have q552 : x7_1 < (t549.length : Int) := qr
   obtain ⟨ad552, A552_0, c552_0, e552, hx552_0, hl552_0, hi552_0⟩ := at_L1 (Kd.xP HO_6.out).2.2 x7_1 p552 q552
   cases e552
   obtain ⟨ce552, hce552, hMe552, hcc552⟩ := Kd.N_get HO_6.out [] x7_1 p552 (by first | exact q552 | exact qr | (have e_ := (Kd.xP HO_6.out).1; omega))
   obtain ⟨ua552_0, uc552_0, rfl, ul552_0, ge552_0⟩ := Kd.xX hMe552
   have hv552_0 := hcc552 0 _ rfl
   rw [Nat.add_zero, show ((Kd.slice 3 (Kd.int .i64))).sz = 1 from rfl, Nat.mul_one] at hv552_0
   replace hv552_0 := qx (hv552_0.symm.trans hx552_0)
   injection hv552_0 with hva_ hvn_ hvc_
   rw [hva_] at ge552_0
   rw [hvc_] at ul552_0
   have HL552_0 := xA.mk (show Kd.V (Kd.int .i64) 3 _ w.heap.size _ _ (rd_L1 t549 x7_1) from Kd.V_mk ul552_0 ge552_0)
   clear hva_ hvn_ hvc_ ge552_0 ul552_0
   clear hcc552 hce552
   have HR552_0 := xA.mk hi552_0
   have HC552_0 := xA.mk hl552_0
   clear hi552_0 hl552_0
   replace p552 := eq_true p552
   replace q552 := eq_true q552
   go_wp2_with (first | (go_at_call 73; (with_reducible refine (r5weight.calls k1 _ _ l0 _ _ (rd_L1 t549 x7_1) t553 _ ?side1 ?side2 ?side3 ?side4 A12.out).mono ?_); (case side1 => exact qm (Kd.xQ HR0.out HB.out)); (case side2 => exact HC0.out); (case side3 => repeat (first | exact (by repeat (first | (with_reducible exact HR552_0.out) | (with_reducible refine Kd.C_alloc ?_ _) | (with_reducible refine Kd.C_drewN ?_ _) | (with_reducible refine Kd.C_drew ?_) | exact HR552_0.out)) | (with_reducible refine Kd.C_alloc ?_ _) | (with_reducible refine Kd.C_drewN ?_ _) | (with_reducible refine Kd.C_drew ?_))); (case side4 => exact HC552_0.out); rintro e w' ⟨rfl, ⟨nd, rfl⟩⟩; (try exact qp); have hcz26_0 : wr.cell? ⟨gb545, 0, none⟩ = some (.int .i64 a1_0) := (xE BK545.out 0).trans rfl; have hcz26_1 : wr.cell? ⟨gb545, 1, none⟩ = some (.int .i64 a1_1) := (xE BK545.out 1).trans rfl; have hfz26_0 := xC BK545.out 0; have hfz26_1 := xC BK545.out 1; have p554 : 0 ≤ (x7_1 : Int) := qr; have q554 : x7_1 < (t549.length : Int) := qr; obtain ⟨ad554, A554_0, c554_0, e554, hx554_0, hl554_0, hi554_0⟩ := at_L1 (Kd.xP HO_6.out).2.2 x7_1 p554 q554; obtain rfl : ad552 = ad554 := (by injection e554); obtain ⟨ce554, hce554, hMe554, hcc554⟩ := Kd.N_get HO_6.out [] x7_1 p554 (by first | exact q554 | exact qr | (have e_ := (Kd.xP HO_6.out).1; omega)); obtain ⟨ua554_0, uc554_0, rfl, ul554_0, ge554_0⟩ := Kd.xX hMe554; have hv554_0 := hcc554 0 _ rfl; rw [Nat.add_zero, show ((Kd.slice 3 (Kd.int .i64))).sz = 1 from rfl, Nat.mul_one] at hv554_0; replace hv554_0 := qx (hv554_0.symm.trans hx554_0); injection hv554_0 with hva_ hvn_ hvc_; rw [hva_] at ge554_0; rw [hvc_] at ul554_0; have HL554_0 := xA.mk (show Kd.V (Kd.int .i64) 3 _ w.heap.size _ _ (rd_L1 t549 x7_1) from Kd.V_mk ul554_0 ge554_0); clear hva_ hvn_ hvc_ ge554_0 ul554_0; clear hcc554 hce554; have HR554_0 := xA.mk hi554_0; have HC554_0 := xA.mk hl554_0; clear hi554_0 hl554_0; replace p554 := eq_true p554; replace q554 := eq_true q554; have ea_ := qx (hx552_0.symm.trans hx554_0); injection ea_ with ea_ en_ ec_; subst ea_; subst ec_; clear en_))
   repeat (go_quiet (first | (go_at_call 73; (with_reducible refine (r5weight.calls k1 _ _ l0 _ _ (rd_L1 t549 x7_1) t553 _ ?side1 ?side2 ?side3 ?side4 A12.out).mono ?_); (case side1 => exact qm (Kd.xQ HR0.out HB.out)); (case side2 => exact HC0.out); (case side3 => repeat (first | exact (by repeat (first | (with_reducible exact HR552_0.out) | (with_reducible refine Kd.C_alloc ?_ _) | (with_reducible refine Kd.C_drewN ?_ _) | (with_reducible refine Kd.C_drew ?_) | exact HR552_0.out)) | (with_reducible refine Kd.C_alloc ?_ _) | (with_reducible refine Kd.C_drewN ?_ _) | (with_reducible refine Kd.C_drew ?_))); (case side4 => exact HC552_0.out); rintro e w' ⟨rfl, ⟨nd, rfl⟩⟩; (try exact qp); have hcz26_0 : wr.cell? ⟨gb545, 0, none⟩ = some (.int .i64 a1_0) := (xE BK545.out 0).trans rfl; have hcz26_1 : wr.cell? ⟨gb545, 1, none⟩ = some (.int .i64 a1_1) := (xE BK545.out 1).trans rfl; have hfz26_0 := xC BK545.out 0; have hfz26_1 := xC BK545.out 1; have p554 : 0 ≤ (x7_1 : Int) := qr; have q554 : x7_1 < (t549.length : Int) := qr; obtain ⟨ad554, A554_0, c554_0, e554, hx554_0, hl554_0, hi554_0⟩ := at_L1 (Kd.xP HO_6.out).2.2 x7_1 p554 q554; obtain rfl : ad552 = ad554 := (by injection e554); obtain ⟨ce554, hce554, hMe554, hcc554⟩ := Kd.N_get HO_6.out [] x7_1 p554 (by first | exact q554 | exact qr | (have e_ := (Kd.xP HO_6.out).1; omega)); obtain ⟨ua554_0, uc554_0, rfl, ul554_0, ge554_0⟩ := Kd.xX hMe554; have hv554_0 := hcc554 0 _ rfl; rw [Nat.add_zero, show ((Kd.slice 3 (Kd.int .i64))).sz = 1 from rfl, Nat.mul_one] at hv554_0; replace hv554_0 := qx (hv554_0.symm.trans hx554_0); injection hv554_0 with hva_ hvn_ hvc_; rw [hva_] at ge554_0; rw [hvc_] at ul554_0; have HL554_0 := xA.mk (show Kd.V (Kd.int .i64) 3 _ w.heap.size _ _ (rd_L1 t549 x7_1) from Kd.V_mk ul554_0 ge554_0); clear hva_ hvn_ hvc_ ge554_0 ul554_0; clear hcc554 hce554; have HR554_0 := xA.mk hi554_0; have HC554_0 := xA.mk hl554_0; clear hi554_0 hl554_0; replace p554 := eq_true p554; replace q554 := eq_true q554; have ea_ := qx (hx552_0.symm.trans hx554_0); injection ea_ with ea_ en_ ec_; subst ea_; subst ec_; clear en_)); try go_wp2_with (first | (go_at_call 73; (with_reducible refine (r5weight.calls k1 _ _ l0 _ _ (rd_L1 t549 x7_1) t553 _ ?side1 ?side2 ?side3 ?side4 A12.out).mono ?_); (case side1 => exact qm (Kd.xQ HR0.out HB.out)); (case side2 => exact HC0.out); (case side3 => repeat (first | exact (by repeat (first | (with_reducible exact HR552_0.out) | (with_reducible refine Kd.C_alloc ?_ _) | (with_reducible refine Kd.C_drewN ?_ _) | (with_reducible refine Kd.C_drew ?_) | exact HR552_0.out)) | (with_reducible refine Kd.C_alloc ?_ _) | (with_reducible refine Kd.C_drewN ?_ _) | (with_reducible refine Kd.C_drew ?_))); (case side4 => exact HC552_0.out); rintro e w' ⟨rfl, ⟨nd, rfl⟩⟩; (try exact qp); have hcz26_0 : wr.cell? ⟨gb545, 0, none⟩ = some (.int .i64 a1_0) := (xE BK545.out 0).trans rfl; have hcz26_1 : wr.cell? ⟨gb545, 1, none⟩ = some (.int .i64 a1_1) := (xE BK545.out 1).trans rfl; have hfz26_0 := xC BK545.out 0; have hfz26_1 := xC BK545.out 1; have p554 : 0 ≤ (x7_1 : Int) := qr; have q554 : x7_1 < (t549.length : Int) := qr; obtain ⟨ad554, A554_0, c554_0, e554, hx554_0, hl554_0, hi554_0⟩ := at_L1 (Kd.xP HO_6.out).2.2 x7_1 p554 q554; obtain rfl : ad552 = ad554 := (by injection e554); obtain ⟨ce554, hce554, hMe554, hcc554⟩ := Kd.N_get HO_6.out [] x7_1 p554 (by first | exact q554 | exact qr | (have e_ := (Kd.xP HO_6.out).1; omega)); obtain ⟨ua554_0, uc554_0, rfl, ul554_0, ge554_0⟩ := Kd.xX hMe554; have hv554_0 := hcc554 0 _ rfl; rw [Nat.add_zero, show ((Kd.slice 3 (Kd.int .i64))).sz = 1 from rfl, Nat.mul_one] at hv554_0; replace hv554_0 := qx (hv554_0.symm.trans hx554_0); injection hv554_0 with hva_ hvn_ hvc_; rw [hva_] at ge554_0; rw [hvc_] at ul554_0; have HL554_0 := xA.mk (show Kd.V (Kd.int .i64) 3 _ w.heap.size _ _ (rd_L1 t549 x7_1) from Kd.V_mk ul554_0 ge554_0); clear hva_ hvn_ hvc_ ge554_0 ul554_0; clear hcc554 hce554; have HR554_0 := xA.mk hi554_0; have HC554_0 := xA.mk hl554_0; clear hi554_0 hl554_0; replace p554 := eq_true p554; replace q554 := eq_true q554; have ea_ := qx (hx552_0.symm.trans hx554_0); injection ea_ with ea_ en_ ec_; subst ea_; subst ec_; clear en_)))
   go_roundg k1
   case measure => have := HK1.out; omega
   case rel => exact ⟨(x5_1), (wrap64 (x7_1 + 1)), qf, H', ⟨by have := HK1.out; omega⟩, ⟨qi HO_5.out⟩, ⟨qk HO_6.out⟩, ⟨qn BK545.out⟩, ⟨qo GE545.out⟩⟩
  rw [if_pos c13] at H
  have c13b0 : ((wrap64 (t553 * a1_1)) == (wrap64 (a1_0 * ((rd_L1 t549 x7_1).length : Int)))) = true := beq_iff_eq.mpr c13
  have c13b0w : ((IntKind.i64.wrap (t553 * a1_1)) == (IntKind.i64.wrap (a1_0 * ((rd_L1 t549 x7_1).length : Int)))) = true := by simp only [i64_w]; exact c13b0
  have c13b1 : ((wrap64 (t553 * a1_1)) != (wrap64 (a1_0 * ((rd_L1 t549 x7_1).length : Int)))) = false := bne_eq_false_iff_eq.mpr c13
  have c13b1w : ((IntKind.i64.wrap (t553 * a1_1)) != (IntKind.i64.wrap (a1_0 * ((rd_L1 t549 x7_1).length : Int)))) = false := by simp only [i64_w]; exact c13b1
  clear c13
  have H' := xA.mk H
  clear H
  obtain ⟨Ao14, co14, eo14⟩ := Kd.N_slice HO_6.out
  subst eo14
  have p552 : 0 ≤ (x7_1 : Int) := qr
  have q552 : x7_1 < (t549.length : Int) := qr
  obtain ⟨ad552, A552_0, c552_0, e552, hx552_0, hl552_0, hi552_0⟩ := at_L1 (Kd.xP HO_6.out).2.2 x7_1 p552 q552
  cases e552
  obtain ⟨ce552, hce552, hMe552, hcc552⟩ := Kd.N_get HO_6.out [] x7_1 p552 (by first | exact q552 | exact qr | (have e_ := (Kd.xP HO_6.out).1; omega))
  obtain ⟨ua552_0, uc552_0, rfl, ul552_0, ge552_0⟩ := Kd.xX hMe552
  have hv552_0 := hcc552 0 _ rfl
  rw [Nat.add_zero, show ((Kd.slice 3 (Kd.int .i64))).sz = 1 from rfl, Nat.mul_one] at hv552_0
  replace hv552_0 := qx (hv552_0.symm.trans hx552_0)
  injection hv552_0 with hva_ hvn_ hvc_
  rw [hva_] at ge552_0
  rw [hvc_] at ul552_0
  have HL552_0 := xA.mk (show Kd.V (Kd.int .i64) 3 _ w.heap.size _ _ (rd_L1 t549 x7_1) from Kd.V_mk ul552_0 ge552_0)
  clear hva_ hvn_ hvc_ ge552_0 ul552_0
  clear hcc552 hce552
  have HR552_0 := xA.mk hi552_0
  have HC552_0 := xA.mk hl552_0
  clear hi552_0 hl552_0
  replace p552 := eq_true p552
  replace q552 := eq_true q552
  go_wp2_with (first | (go_at_call 73; (with_reducible refine (r5weight.calls k1 _ _ l0 _ _ (rd_L1 t549 x7_1) t553 _ ?side1 ?side2 ?side3 ?side4 A12.out).mono ?_); (case side1 => exact qm (Kd.xQ HR0.out HB.out)); (case side2 => exact HC0.out); (case side3 => repeat (first | exact (by repeat (first | (with_reducible exact HR552_0.out) | (with_reducible refine Kd.C_alloc ?_ _) | (with_reducible refine Kd.C_drewN ?_ _) | (with_reducible refine Kd.C_drew ?_) | exact HR552_0.out)) | (with_reducible refine Kd.C_alloc ?_ _) | (with_reducible refine Kd.C_drewN ?_ _) | (with_reducible refine Kd.C_drew ?_))); (case side4 => exact HC552_0.out); rintro e w' ⟨rfl, ⟨nd, rfl⟩⟩; (try exact qp); have hcz15_0 : wr.cell? ⟨gb545, 0, none⟩ = some (.int .i64 a1_0) := (xE BK545.out 0).trans rfl; have hcz15_1 : wr.cell? ⟨gb545, 1, none⟩ = some (.int .i64 a1_1) := (xE BK545.out 1).trans rfl; have hfz15_0 := xC BK545.out 0; have hfz15_1 := xC BK545.out 1; have p554 : 0 ≤ (x7_1 : Int) := qr; have q554 : x7_1 < (t549.length : Int) := qr; obtain ⟨ad554, A554_0, c554_0, e554, hx554_0, hl554_0, hi554_0⟩ := at_L1 (Kd.xP HO_6.out).2.2 x7_1 p554 q554; obtain rfl : ad552 = ad554 := (by injection e554); obtain ⟨ce554, hce554, hMe554, hcc554⟩ := Kd.N_get HO_6.out [] x7_1 p554 (by first | exact q554 | exact qr | (have e_ := (Kd.xP HO_6.out).1; omega)); obtain ⟨ua554_0, uc554_0, rfl, ul554_0, ge554_0⟩ := Kd.xX hMe554; have hv554_0 := hcc554 0 _ rfl; rw [Nat.add_zero, show ((Kd.slice 3 (Kd.int .i64))).sz = 1 from rfl, Nat.mul_one] at hv554_0; replace hv554_0 := qx (hv554_0.symm.trans hx554_0); injection hv554_0 with hva_ hvn_ hvc_; rw [hva_] at ge554_0; rw [hvc_] at ul554_0; have HL554_0 := xA.mk (show Kd.V (Kd.int .i64) 3 _ w.heap.size _ _ (rd_L1 t549 x7_1) from Kd.V_mk ul554_0 ge554_0); clear hva_ hvn_ hvc_ ge554_0 ul554_0; clear hcc554 hce554; have HR554_0 := xA.mk hi554_0; have HC554_0 := xA.mk hl554_0; clear hi554_0 hl554_0; replace p554 := eq_true p554; replace q554 := eq_true q554; have ea_ := qx (hx552_0.symm.trans hx554_0); injection ea_ with ea_ en_ ec_; subst ea_; subst ec_; clear en_))
  repeat (go_quiet (first | (go_at_call 73; (with_reducible refine (r5weight.calls k1 _ _ l0 _ _ (rd_L1 t549 x7_1) t553 _ ?side1 ?side2 ?side3 ?side4 A12.out).mono ?_); (case side1 => exact qm (Kd.xQ HR0.out HB.out)); (case side2 => exact HC0.out); (case side3 => repeat (first | exact (by repeat (first | (with_reducible exact HR552_0.out) | (with_reducible refine Kd.C_alloc ?_ _) | (with_reducible refine Kd.C_drewN ?_ _) | (with_reducible refine Kd.C_drew ?_) | exact HR552_0.out)) | (with_reducible refine Kd.C_alloc ?_ _) | (with_reducible refine Kd.C_drewN ?_ _) | (with_reducible refine Kd.C_drew ?_))); (case side4 => exact HC552_0.out); rintro e w' ⟨rfl, ⟨nd, rfl⟩⟩; (try exact qp); have hcz15_0 : wr.cell? ⟨gb545, 0, none⟩ = some (.int .i64 a1_0) := (xE BK545.out 0).trans rfl; have hcz15_1 : wr.cell? ⟨gb545, 1, none⟩ = some (.int .i64 a1_1) := (xE BK545.out 1).trans rfl; have hfz15_0 := xC BK545.out 0; have hfz15_1 := xC BK545.out 1; have p554 : 0 ≤ (x7_1 : Int) := qr; have q554 : x7_1 < (t549.length : Int) := qr; obtain ⟨ad554, A554_0, c554_0, e554, hx554_0, hl554_0, hi554_0⟩ := at_L1 (Kd.xP HO_6.out).2.2 x7_1 p554 q554; obtain rfl : ad552 = ad554 := (by injection e554); obtain ⟨ce554, hce554, hMe554, hcc554⟩ := Kd.N_get HO_6.out [] x7_1 p554 (by first | exact q554 | exact qr | (have e_ := (Kd.xP HO_6.out).1; omega)); obtain ⟨ua554_0, uc554_0, rfl, ul554_0, ge554_0⟩ := Kd.xX hMe554; have hv554_0 := hcc554 0 _ rfl; rw [Nat.add_zero, show ((Kd.slice 3 (Kd.int .i64))).sz = 1 from rfl, Nat.mul_one] at hv554_0; replace hv554_0 := qx (hv554_0.symm.trans hx554_0); injection hv554_0 with hva_ hvn_ hvc_; rw [hva_] at ge554_0; rw [hvc_] at ul554_0; have HL554_0 := xA.mk (show Kd.V (Kd.int .i64) 3 _ w.heap.size _ _ (rd_L1 t549 x7_1) from Kd.V_mk ul554_0 ge554_0); clear hva_ hvn_ hvc_ ge554_0 ul554_0; clear hcc554 hce554; have HR554_0 := xA.mk hi554_0; have HC554_0 := xA.mk hl554_0; clear hi554_0 hl554_0; replace p554 := eq_true p554; replace q554 := eq_true q554; have ea_ := qx (hx552_0.symm.trans hx554_0); injection ea_ with ea_ en_ ec_; subst ea_; subst ec_; clear en_)); try go_wp2_with (first | (go_at_call 73; (with_reducible refine (r5weight.calls k1 _ _ l0 _ _ (rd_L1 t549 x7_1) t553 _ ?side1 ?side2 ?side3 ?side4 A12.out).mono ?_); (case side1 => exact qm (Kd.xQ HR0.out HB.out)); (case side2 => exact HC0.out); (case side3 => repeat (first | exact (by repeat (first | (with_reducible exact HR552_0.out) | (with_reducible refine Kd.C_alloc ?_ _) | (with_reducible refine Kd.C_drewN ?_ _) | (with_reducible refine Kd.C_drew ?_) | exact HR552_0.out)) | (with_reducible refine Kd.C_alloc ?_ _) | (with_reducible refine Kd.C_drewN ?_ _) | (with_reducible refine Kd.C_drew ?_))); (case side4 => exact HC552_0.out); rintro e w' ⟨rfl, ⟨nd, rfl⟩⟩; (try exact qp); have hcz15_0 : wr.cell? ⟨gb545, 0, none⟩ = some (.int .i64 a1_0) := (xE BK545.out 0).trans rfl; have hcz15_1 : wr.cell? ⟨gb545, 1, none⟩ = some (.int .i64 a1_1) := (xE BK545.out 1).trans rfl; have hfz15_0 := xC BK545.out 0; have hfz15_1 := xC BK545.out 1; have p554 : 0 ≤ (x7_1 : Int) := qr; have q554 : x7_1 < (t549.length : Int) := qr; obtain ⟨ad554, A554_0, c554_0, e554, hx554_0, hl554_0, hi554_0⟩ := at_L1 (Kd.xP HO_6.out).2.2 x7_1 p554 q554; obtain rfl : ad552 = ad554 := (by injection e554); obtain ⟨ce554, hce554, hMe554, hcc554⟩ := Kd.N_get HO_6.out [] x7_1 p554 (by first | exact q554 | exact qr | (have e_ := (Kd.xP HO_6.out).1; omega)); obtain ⟨ua554_0, uc554_0, rfl, ul554_0, ge554_0⟩ := Kd.xX hMe554; have hv554_0 := hcc554 0 _ rfl; rw [Nat.add_zero, show ((Kd.slice 3 (Kd.int .i64))).sz = 1 from rfl, Nat.mul_one] at hv554_0; replace hv554_0 := qx (hv554_0.symm.trans hx554_0); injection hv554_0 with hva_ hvn_ hvc_; rw [hva_] at ge554_0; rw [hvc_] at ul554_0; have HL554_0 := xA.mk (show Kd.V (Kd.int .i64) 3 _ w.heap.size _ _ (rd_L1 t549 x7_1) from Kd.V_mk ul554_0 ge554_0); clear hva_ hvn_ hvc_ ge554_0 ul554_0; clear hcc554 hce554; have HR554_0 := xA.mk hi554_0; have HC554_0 := xA.mk hl554_0; clear hi554_0 hl554_0; replace p554 := eq_true p554; replace q554 := eq_true q554; have ea_ := qx (hx552_0.symm.trans hx554_0); injection ea_ with ea_ en_ ec_; subst ea_; subst ec_; clear en_)))
  go_loopg [8] k1 (fun kq v8 w' => ∃ (x5_2 : List Bool) (x8_2 : Int), v8 = .int .i64 x8_2 ∧ xA (r5critical.l1 kq l0 x5_2 t549 x7_1 x8_2 a1_0 a1_1 = some r) ∧ xA (kq ≤ k1) ∧ xA (Kd.R Kd.bool 4 w' w.heap.size (fun _ => True) v547 x5_2) ∧ xA (Kd.N (Kd.slice 3 (Kd.int .i64)) 26 w' w.heap.size (fun k_ => some k_ ≠ (v547 : Value).ownBlock ∧ k_ ≠ gb545) (.slice (some ad552) t549.length co14) t549) ∧ xA (w'.heap[gb545]? = some (.cells #[.int .i64 a1_0, .int .i64 a1_1] 37 (0, 0))) ∧ xA (Below w.heap.size w w'))
  case atStart => exact ⟨(x5_1), (0), qf, H', ⟨Nat.le_refl _⟩, ⟨qi HO_5.out⟩, ⟨qk HO_6.out⟩, ⟨qn BK545.out⟩, ⟨qo GE545.out⟩⟩
  case round =>
   clear H'
   try clear c1
   try clear p2
   try clear c3
   try clear c3b0
   try clear c3b1
   try clear c4
   try clear c4b0
   try clear c4b1
   obtain ⟨x5_2, x8_2, rfl, HA, HK2, HO_5, HO_6, BK545, HB⟩ := hrel
   obtain _ | k2 := gk
   · exact absurd HA.out (by simp [r5critical.l1])
   have H := HA.out
   clear HA
   simp only [r5critical.l1] at H
   obtain ⟨c16b0, H⟩ := xF H
   obtain ⟨c17b0, H⟩ := xF H
   obtain ⟨c18b0, H⟩ | ⟨c18b0, H⟩ := yA H
   rotate_left
   ·
    have H' := xA.mk H
    clear H
    have p555 : 0 ≤ (x7_1 : Int) := qr
    have q555 : x7_1 < (t549.length : Int) := qr
    obtain ⟨ad555, A555_0, c555_0, e555, hx555_0, hl555_0, hi555_0⟩ := at_L1 (Kd.xP HO_6.out).2.2 x7_1 p555 q555
    obtain rfl : ad552 = ad555 := (by injection e555)
    obtain ⟨ce555, hce555, hMe555, hcc555⟩ := Kd.N_get HO_6.out [] x7_1 p555 (by first | exact q555 | exact qr | (have e_ := (Kd.xP HO_6.out).1; omega))
    obtain ⟨ua555_0, uc555_0, rfl, ul555_0, ge555_0⟩ := Kd.xX hMe555
    have hv555_0 := hcc555 0 _ rfl
    rw [Nat.add_zero, show ((Kd.slice 3 (Kd.int .i64))).sz = 1 from rfl, Nat.mul_one] at hv555_0
    replace hv555_0 := qx (hv555_0.symm.trans hx555_0)
    injection hv555_0 with hva_ hvn_ hvc_
    rw [hva_] at ge555_0
    rw [hvc_] at ul555_0
    have HL555_0 := xA.mk (show Kd.V (Kd.int .i64) 3 _ w.heap.size _ _ (rd_L1 t549 x7_1) from Kd.V_mk ul555_0 ge555_0)
    clear hva_ hvn_ hvc_ ge555_0 ul555_0
    clear hcc555 hce555
    have HR555_0 := xA.mk hi555_0
    have HC555_0 := xA.mk hl555_0
    clear hi555_0 hl555_0
    replace p555 := eq_true p555
    replace q555 := eq_true q555
    go_wp2
    repeat (go_quiet (fail); try go_wp2)
    go_roundg k2
    case measure => have := HK1.out; have := HK2.out; omega
    case rel => exact ⟨(x5_2), (wrap64 (x7_1 + 1)), qf, H', ⟨by have := HK1.out; have := HK2.out; omega⟩, ⟨qi HO_5.out⟩, ⟨qk HO_6.out⟩, ⟨qn BK545.out⟩, ⟨qo GE545.out⟩⟩
   obtain ⟨c19b0, H⟩ := xF H
   obtain ⟨c20b0, H⟩ := xF H
   obtain ⟨c21b0, H⟩ := xF H
   obtain ⟨y558, hy558⟩ : ∃ y_ : List Bool, y_ = (x5_2.set ((rd (rd_L1 t549 x7_1) x8_2) : Int).toNat true) := ⟨_, rfl⟩
   replace H : (r5critical.l1 k2 l0 y558 t549 x7_1 (wrap64 (x8_2 + 1)) a1_0 a1_1) = some r := by rw [hy558]; exact H
   have Ny558 := xA.mk hy558
   clear hy558
   have H' := xA.mk H
   clear H
   have p555 : 0 ≤ (x7_1 : Int) := qq
   have q555 : x7_1 < (t549.length : Int) := qq
   obtain ⟨ad555, A555_0, c555_0, e555, hx555_0, hl555_0, hi555_0⟩ := at_L1 (Kd.xP HO_6.out).2.2 x7_1 p555 q555
   obtain rfl : ad552 = ad555 := (by injection e555)
   obtain ⟨ce555, hce555, hMe555, hcc555⟩ := Kd.N_get HO_6.out [] x7_1 p555 (by first | exact q555 | exact qq | (have e_ := (Kd.xP HO_6.out).1; omega))
   obtain ⟨ua555_0, uc555_0, rfl, ul555_0, ge555_0⟩ := Kd.xX hMe555
   have hv555_0 := hcc555 0 _ rfl
   rw [Nat.add_zero, show ((Kd.slice 3 (Kd.int .i64))).sz = 1 from rfl, Nat.mul_one] at hv555_0
   replace hv555_0 := qx (hv555_0.symm.trans hx555_0)
   injection hv555_0 with hva_ hvn_ hvc_
   rw [hva_] at ge555_0
   rw [hvc_] at ul555_0
   have HL555_0 := xA.mk (show Kd.V (Kd.int .i64) 3 _ w.heap.size _ _ (rd_L1 t549 x7_1) from Kd.V_mk ul555_0 ge555_0)
   clear hva_ hvn_ hvc_ ge555_0 ul555_0
   clear hcc555 hce555
   have HR555_0 := xA.mk hi555_0
   have HC555_0 := xA.mk hl555_0
   clear hi555_0 hl555_0
   replace p555 := eq_true p555
   replace q555 := eq_true q555
   have p556 : 0 ≤ (x7_1 : Int) := qq
   have q556 : x7_1 < (t549.length : Int) := qq
   obtain ⟨ad556, A556_0, c556_0, e556, hx556_0, hl556_0, hi556_0⟩ := at_L1 (Kd.xP HO_6.out).2.2 x7_1 p556 q556
   obtain rfl : ad552 = ad556 := (by injection e556)
   obtain ⟨ce556, hce556, hMe556, hcc556⟩ := Kd.N_get HO_6.out [] x7_1 p556 (by first | exact q556 | exact qq | (have e_ := (Kd.xP HO_6.out).1; omega))
   obtain ⟨ua556_0, uc556_0, rfl, ul556_0, ge556_0⟩ := Kd.xX hMe556
   have hv556_0 := hcc556 0 _ rfl
   rw [Nat.add_zero, show ((Kd.slice 3 (Kd.int .i64))).sz = 1 from rfl, Nat.mul_one] at hv556_0
   replace hv556_0 := qx (hv556_0.symm.trans hx556_0)
   injection hv556_0 with hva_ hvn_ hvc_
   rw [hva_] at ge556_0
   rw [hvc_] at ul556_0
   have HL556_0 := xA.mk (show Kd.V (Kd.int .i64) 3 _ w.heap.size _ _ (rd_L1 t549 x7_1) from Kd.V_mk ul556_0 ge556_0)
   clear hva_ hvn_ hvc_ ge556_0 ul556_0
   clear hcc556 hce556
   have HR556_0 := xA.mk hi556_0
   have HC556_0 := xA.mk hl556_0
   clear hi556_0 hl556_0
   replace p556 := eq_true p556
   replace q556 := eq_true q556
   have ea_ := qx (hx555_0.symm.trans hx556_0)
   injection ea_ with ea_ en_ ec_
   subst ea_
   subst ec_
   clear en_
   have p557 : 0 ≤ (x8_2 : Int) := qq
   have q557 : x8_2 < ((rd_L1 t549 x7_1).length : Int) := qq
   obtain ⟨ad557, e557, hx557_0⟩ := Kd.xU (by repeat (first | (with_reducible exact HR556_0.out) | exact HR556_0.out)) x8_2 p557 q557
   cases e557
   replace p557 := eq_true p557
   replace q557 := eq_true q557
   have p22 : 0 ≤ ((rd (rd_L1 t549 x7_1) x8_2) : Int) := qq
   have q22 : ((rd (rd_L1 t549 x7_1) x8_2) : Int) < ((x5_2.length : Int) : Int) := qq
   obtain ⟨go22, co22, eo22, gb22, gl22, cl22, HG22⟩ := Kd.R_form HO_5.out jj
   (first | cases eo22 | (injection eo22 with ea_ en_ ec_; (first | subst ea_ | (injection ea_ with ea_; subst ea_)); subst ec_; clear en_))
   have GB22 := xA.mk gb22
   have GG22 := xA.mk HG22
   clear gb22 gl22 HG22
   obtain ⟨hx22_0, hf22_0⟩ := Kd.R_celln false HO_5.out ((rd (rd_L1 t549 x7_1) x8_2) : Int) p22 q22
   replace p22 := eq_true p22
   replace q22 := eq_true q22
   have HP23 := Kd.R_putg HO_5.out ((rd (rd_L1 t549 x7_1) x8_2) : Int) true
   go_wp2_with (first | ((with_reducible refine gate_store (t := 4) (p := 57) rfl ?_); (try (rw [drewN_self wr]; generalize hq_ : World.drewN wr _ = wr; have n0_ := xA.mk (Kd.R_at hq_ HO_5.out); have n1_ := xA.mk (Kd.N_at hq_ HO_6.out); have n2_ := xA.mk (Kd.V_at hq_ HL555_0.out); have n3_ := xA.mk (Kd.V_at hq_ HL556_0.out); have n4_ := xA.mk (blk_at hq_ BK545.out); have n5_ := xA.mk (below_at hq_ HB.out); clear hq_ HO_5 HO_6 HL555_0 HL556_0 BK545 HB; have HO_5 := n0_; have HO_6 := n1_; have HL555_0 := n2_; have HL556_0 := n3_; have BK545 := n4_; have HB := n5_; clear n0_ n1_ n2_ n3_ n4_ n5_; (try (have HP23 := Kd.R_putg HO_5.out ((rd (rd_L1 t549 x7_1) x8_2) : Int) true)))); refine store_event (t := 4) (p := 57) (v := ?vo_w24) (w1 := (wr.setCell ⟨go22, ((rd (rd_L1 t549 x7_1) x8_2) : Int).toNat, none⟩ (.bool true))) ?hg ?ho ?hn ?hr ?_; (case ho => rfl); (case hg => rfl); (case hn => rfl); (case hr => go_simp); intro w24 hw; have hg : wr.grownBy w24 (some go22) := (by rw [hw]; exact HP23.2); have hp_ : Kd.R Kd.bool 4 w24 w.heap.size (fun _ => True) (.slice (some ⟨go22, 0, none⟩) x5_2.length co22) y558 := (by rw [hw, Ny558.out]; exact HP23.1); clear HP23; have n0_ := xA.mk (hp_); have n1_ := xA.mk (Kd.N_afterv (v := (.slice (some ⟨go22, 0, none⟩) x5_2.length co22)) (v1 := (.slice (some ⟨go22, 0, none⟩) x5_2.length co22)) (ok := (fun k_ => k_ ≠ gb545)) (by exact Kd.N_mono HO_6.out (fun _ hk => ⟨hk.2, hk.1⟩)) hg (.inl rfl)); have n2_ := xA.mk (blk_grown (g := gb545) (o := .cells #[.int .i64 a1_0, .int .i64 a1_1] 37 (0, 0)) (by exact BK545.out) hg (Kd.R_ne HO_5.out BK545.out (by decide))); have n3_ := xA.mk (Kd.V_afterv (v := (.slice (some ⟨go22, 0, none⟩) x5_2.length co22)) (v1 := (.slice (some ⟨go22, 0, none⟩) x5_2.length co22)) (ok := (fun k_ => some k_ ≠ (.slice (some ad552) t549.length co14 : Value).ownBlock ∧ k_ ≠ gb545)) (by exact Kd.V_mono HL555_0.out (fun _ hk => ⟨⟨hk.2, hk.1.2⟩, hk.1.1⟩)) hg (.inl rfl)); have n4_ := xA.mk (Kd.V_afterv (v := (.slice (some ⟨go22, 0, none⟩) x5_2.length co22)) (v1 := (.slice (some ⟨go22, 0, none⟩) x5_2.length co22)) (ok := (fun k_ => some k_ ≠ (.slice (some ad552) t549.length co14 : Value).ownBlock ∧ k_ ≠ gb545)) (by exact Kd.V_mono HL556_0.out (fun _ hk => ⟨⟨hk.2, hk.1.2⟩, hk.1.1⟩)) hg (.inl rfl)); have n5_ := xA.mk ((by rw [hw]; exact xR (HB.out) GB22.out : Below w.heap.size w w24)); clear HO_5; clear HO_6; clear BK545; clear HL555_0; clear HL556_0; clear HB; have HO_5 := n0_; have HO_6 := n1_; have BK545 := n2_; have HL555_0 := n3_; have HL556_0 := n4_; have HB := n5_; clear n0_ n1_ n2_ n3_ n4_ n5_; clear hg hw hp_))
   go_roundg k2
   case measure => have := HK1.out; have := HK2.out; omega
   case rel => exact ⟨(y558), (wrap64 (x8_2 + 1)), rfl, H', ⟨by have := HK1.out; have := HK2.out; omega⟩, ⟨by exact HO_5.out⟩, ⟨by exact Kd.N_mono HO_6.out (fun _ hk => ⟨hk.2, hk.1⟩)⟩, ⟨by exact BK545.out⟩, ⟨HB.out⟩⟩
end Go.Proofs.Ythjmfbmffchicaa.V
