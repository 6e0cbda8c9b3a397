/- Walks of functions that the law LineDuality reaches: each theorem '.calls' says that the call comes to what its printed plain function says, under the conditions that stand in it. -/
import Derived.Test.YthjmfbmffchicaaKDHub
import Derived.Test.YthjmfbmffchicaaKDf0
import Derived.Test.YthjmfbmffchicaaKDf1
import Derived.Test.YthjmfbmffchicaaKDf4
import Derived.Test.YthjmfbmffchicaaKDf5
namespace Go.Proofs.Ythjmfbmffchicaa.V
open Go.RowKit Go.Proofs.YthjmfbmffchicaaW.PrintWords Go.Proofs.YthjmfbmffchicaaW.PrintLast Go.Proofs.YthjmfbmffchicaaW.PrintMore
attribute [local go_sem] max2_int min2_int max_two min_two max_three min_three max_four min_four
set_option linter.unusedVariables false
set_option linter.unusedSimpArgs false
section
attribute [local go_sem high] eqA37
mutual
def l5LineDuality.j0 : Nat → List (List Int) → Int → Int → Int → List Int → List Int → Bool → Int → Int → Option (Bool)
 | 0, _, _, _, _, _, _, _, _, _ => none
 | k + 1, x0, x1, x2, x8, x9, x11, x54, x1168000, x1168001 => if x54 = true then (some false) else (if x8 = 0 then (if x1168001 < 1 then (l5LineDuality.j1 k x0 x1 x2 x9 x11 (x0.length : Int) true x1168000 x1168001) else (if (x9.length : Int) = (x0.length : Int) then (if (x11.length : Int) = 0 then (l5LineDuality.j1 k x0 x1 x2 x9 x11 (x0.length : Int) true x1168000 x1168001) else (l5LineDuality.j1 k x0 x1 x2 x9 x11 (x0.length : Int) (decide ((x11.length : Int) > (x0.length : Int))) x1168000 x1168001)) else (l5LineDuality.j1 k x0 x1 x2 x9 x11 (x0.length : Int) true x1168000 x1168001))) else (if x8 = 10 then (if (x1168000 == 0 && (x1168001 == 0)) = true then ((l5alive.f k).bind fun t1176 => (some t1176)) else (some false)) else (if x8 = 2 then (if (x1168000 == 0 && (x1168001 == 0)) = true then ((l5alive.f k).bind fun t1177 => (some t1177)) else (some false)) else (some false))))
def l5LineDuality.j1 : Nat → List (List Int) → Int → Int → List Int → List Int → Int → Bool → Int → Int → Option (Bool)
 | 0, _, _, _, _, _, _, _, _, _ => none
 | k + 1, x0, x1, x2, x9, x11, x13, x92, x1168000, x1168001 => if x92 = true then (some false) else (l5LineDuality.l0 k x0 x1 x2 x9 x11 x13 0 0 x1168000 x1168001)
def l5LineDuality.l0 : Nat → List (List Int) → Int → Int → List Int → List Int → Int → Int → Int → Int → Int → Option (Bool)
 | 0, _, _, _, _, _, _, _, _, _, _ => none
 | k + 1, x0, x1, x2, x9, x11, x13, x14, x15, x1168000, x1168001 => if x15 < (x11.length : Int) then (if 0 ≤ x15 then (if (x11.length : Int) = 0 then (none) else (if 0 ≤ (Int.tmod (wrap64 (x15 + 1)) (x11.length : Int)) then (if (Int.tmod (wrap64 (x15 + 1)) (x11.length : Int)) < (x11.length : Int) then (if (rd x11 x15) < 0 then (some false) else (if (rd x11 x15) ≥ x13 then (some false) else (if (rd x11 (Int.tmod (wrap64 (x15 + 1)) (x11.length : Int))) < 0 then (some false) else (if (rd x11 (Int.tmod (wrap64 (x15 + 1)) (x11.length : Int))) ≥ x13 then (some false) else (if 0 ≤ (rd x11 (Int.tmod (wrap64 (x15 + 1)) (x11.length : Int))) then (if (rd x11 (Int.tmod (wrap64 (x15 + 1)) (x11.length : Int))) < (x0.length : Int) then (if 0 ≤ (rd x11 x15) then (if (rd x11 x15) < ((rd_L1 x0 (rd x11 (Int.tmod (wrap64 (x15 + 1)) (x11.length : Int)))).length : Int) then (if (rd (rd_L1 x0 (rd x11 (Int.tmod (wrap64 (x15 + 1)) (x11.length : Int)))) (rd x11 x15)) = (-1152921504606846976) then (some false) else (l5LineDuality.l0 k x0 x1 x2 x9 x11 x13 (wrap64 (x14 + (rd (rd_L1 x0 (rd x11 (Int.tmod (wrap64 (x15 + 1)) (x11.length : Int)))) (rd x11 x15)))) (wrap64 (x15 + 1)) x1168000 x1168001)) else (none)) else (none)) else (none)) else (none)))))) else (none)) else (none))) else (none)) else (if (wrap64 (x14 * x1168001)) = (wrap64 (x1168000 * (x11.length : Int))) then (if x1 ≥ (-500) then (l5LineDuality.j3 k x0 x1 x2 x9 x13 false ([] : List (List Int)) ([] : List (List Int)) 0 (decide (x1 ≤ 500)) x1168000 x1168001) else (l5LineDuality.j3 k x0 x1 x2 x9 x13 false ([] : List (List Int)) ([] : List (List Int)) 0 false x1168000 x1168001)) else (some false))
def l5LineDuality.j3 : Nat → List (List Int) → Int → Int → List Int → Int → Bool → List (List Int) → List (List Int) → Int → Bool → Int → Int → Option (Bool)
 | 0, _, _, _, _, _, _, _, _, _, _, _, _ => none
 | k + 1, x0, x1, x2, x9, x13, x18, x19, x20, x21, x161, x1168000, x1168001 => if x161 = true then (l5LineDuality.j4 k x0 x2 x9 x13 x18 x19 x20 x1 x1168000 x1168001) else (l5LineDuality.j4 k x0 x2 x9 x13 x18 x19 x20 x21 x1168000 x1168001)
def l5LineDuality.j4 : Nat → List (List Int) → Int → List Int → Int → Bool → List (List Int) → List (List Int) → Int → Int → Int → Option (Bool)
 | 0, _, _, _, _, _, _, _, _, _, _ => none
 | k + 1, x0, x2, x9, x13, x18, x19, x20, x21, x1168000, x1168001 => l5LineDuality.l1 k x0 x2 x9 x13 x18 x19 x20 x21 0 x1168000 x1168001
def l5LineDuality.l1 : Nat → List (List Int) → Int → List Int → Int → Bool → List (List Int) → List (List Int) → Int → Int → Int → Int → Option (Bool)
 | 0, _, _, _, _, _, _, _, _, _, _, _ => none
 | k + 1, x0, x2, x9, x13, x18, x19, x20, x21, x22, x1168000, x1168001 => if x22 < x13 then (if x18 = true then (l5LineDuality.j6 k x0 x2 x9 x13 true x19 x20 x21 x22 x1168000 x1168001) else (if 0 ≤ x22 then (if x22 < (x9.length : Int) then (l5LineDuality.j6 k x0 x2 x9 x13 ((rd x9 x22) == 0) x19 x20 x21 x22 x1168000 x1168001) else (none)) else (none))) else ((line_Speed.f k x19).bind fun bt1210 => ((line_Speed.f k x20).bind fun bt1214 => (if x18 = true then (if bt1210.2.2 = 0 then (l5LineDuality.j9 k bt1214.2.2 x20 x21 (!(bt1210.1 == x1168000) || (!(bt1210.2.1 == x1168001))) x1168000 x1168001 bt1214.1 bt1214.2.1) else (l5LineDuality.j9 k bt1214.2.2 x20 x21 true x1168000 x1168001 bt1214.1 bt1214.2.1)) else (l5LineDuality.j9 k bt1214.2.2 x20 x21 true x1168000 x1168001 bt1214.1 bt1214.2.1))))
def l5LineDuality.j6 : Nat → List (List Int) → Int → List Int → Int → Bool → List (List Int) → List (List Int) → Int → Int → Int → Int → Option (Bool)
 | 0, _, _, _, _, _, _, _, _, _, _, _ => none
 | k + 1, x0, x2, x9, x13, x18, x19, x20, x21, x22, x1168000, x1168001 => l5LineDuality.l2 k x0 x2 x9 x13 x18 x19 x20 x21 x22 ([] : List Int) ([] : List Int) 0 x1168000 x1168001
def l5LineDuality.l2 : Nat → List (List Int) → Int → List Int → Int → Bool → List (List Int) → List (List Int) → Int → Int → List Int → List Int → Int → Int → Int → Option (Bool)
 | 0, _, _, _, _, _, _, _, _, _, _, _, _, _, _ => none
 | k + 1, x0, x2, x9, x13, x18, x19, x20, x21, x22, x23, x24, x25, x1168000, x1168001 => if x25 < x13 then (if 0 ≤ x22 then (if x22 < (x0.length : Int) then (if 0 ≤ x25 then (if x25 < ((rd_L1 x0 x22).length : Int) then (if (rd (rd_L1 x0 x22) x25) = (-1152921504606846976) then (if x22 < (x9.length : Int) then (l5LineDuality.j8 k x0 x2 x9 x13 x18 x19 x20 x21 x22 x23 x24 x25 (decide ((rd x9 x22) < 0)) x1168000 x1168001) else (none)) else (if x25 < (x9.length : Int) then (if x22 < (x9.length : Int) then (if (wrap64 ((wrap64 ((wrap64 (x1168001 * (rd (rd_L1 x0 x22) x25))) - x1168000)) + (rd x9 x25))) > (rd x9 x22) then (l5LineDuality.j8 k x0 x2 x9 x13 x18 x19 x20 x21 x22 x23 x24 x25 true x1168000 x1168001) else (l5LineDuality.j8 k x0 x2 x9 x13 x18 x19 x20 x21 x22 x23 x24 x25 (decide ((rd x9 x22) < 0)) x1168000 x1168001)) else (none)) else (none))) else (none)) else (none)) else (none)) else (none)) else (if x19.length < 5864062014805 then (if x20.length < 5864062014805 then (l5LineDuality.l1 k x0 x2 x9 x13 x18 (x19 ++ [x23]) (x20 ++ [x24]) x21 (wrap64 (x22 + 1)) x1168000 x1168001) else (none)) else (none))
def l5LineDuality.j8 : Nat → List (List Int) → Int → List Int → Int → Bool → List (List Int) → List (List Int) → Int → Int → List Int → List Int → Int → Bool → Int → Int → Option (Bool)
 | 0, _, _, _, _, _, _, _, _, _, _, _, _, _, _, _ => none
 | k + 1, x0, x2, x9, x13, x18, x19, x20, x21, x22, x23, x24, x25, x220, x1168000, x1168001 => if x220 = true then (some false) else (if 0 ≤ x25 then (if x25 < (x0.length : Int) then (if 0 ≤ x22 then (if x22 < ((rd_L1 x0 x25).length : Int) then (if x23.length < 17592186044416 then (if x13 = 0 then (none) else (if 0 ≤ (Int.tmod (wrap64 (x22 + (wrap64 (x2)))) x13) then (if (Int.tmod (wrap64 (x22 + (wrap64 (x2)))) x13) < (x0.length : Int) then (if 0 ≤ (Int.tmod (wrap64 (x25 + (wrap64 (x2)))) x13) then (if (Int.tmod (wrap64 (x25 + (wrap64 (x2)))) x13) < ((rd_L1 x0 (Int.tmod (wrap64 (x22 + (wrap64 (x2)))) x13)).length : Int) then ((l5plus.f (rd (rd_L1 x0 (Int.tmod (wrap64 (x22 + (wrap64 (x2)))) x13)) (Int.tmod (wrap64 (x25 + (wrap64 (x2)))) x13)) x21).bind fun t1206 => (if x24.length < 17592186044416 then (l5LineDuality.l2 k x0 x2 x9 x13 x18 x19 x20 x21 x22 (x23 ++ [rd (rd_L1 x0 x25) x22]) (x24 ++ [t1206]) (wrap64 (x25 + 1)) x1168000 x1168001) else (none))) else (none)) else (none)) else (none)) else (none))) else (none)) else (none)) else (none)) else (none)) else (none))
def l5LineDuality.j9 : Nat → Int → List (List Int) → Int → Bool → Int → Int → Int → Int → Option (Bool)
 | 0, _, _, _, _, _, _, _, _ => none
 | k + 1, x10, x20, x21, x281, x1168000, x1168001, x1218000, x1218001 => if x281 = true then (some false) else (if x10 = 2 then ((l5within.f k x20).bind fun t1218 => (if t1218 = true then (if x10 = 0 then (if x1218001 = x1168001 then (if x1218000 = (wrap64 (x1168000 + (wrap64 (x21 * x1168001)))) then ((l5alive.f k).bind fun t1219 => (some t1219)) else (some false)) else (some false)) else (some false)) else ((l5alive.f k).bind fun t1220 => (some t1220)))) else (if x10 = 0 then (if x1218001 = x1168001 then (if x1218000 = (wrap64 (x1168000 + (wrap64 (x21 * x1168001)))) then ((l5alive.f k).bind fun t1221 => (some t1221)) else (some false)) else (some false)) else (some false)))
end
def l5LineDuality.f (k : Nat) (l0 : List (List Int)) (a1 : Int) (a2 : Int) : Option (Bool) := (l5few.f k l0).bind fun t1162 => (if t1162 = true then ((line_Speed.f k l0).bind fun bt1164 => ((line_Potential.f k l0).bind fun bt1168 => ((line_Cycle.f k l0).bind fun bt1172 => (if bt1164.2.2 = bt1168.2 then (l5LineDuality.j0 k l0 a1 a2 bt1164.2.2 bt1168.1 bt1172.1 (bt1168.2 != bt1172.2) bt1164.1 bt1164.2.1) else (l5LineDuality.j0 k l0 a1 a2 bt1164.2.2 bt1168.1 bt1172.1 true bt1164.1 bt1164.2.1))))) else ((l5alive.f k).bind fun t1163 => (some t1163)))
def l5LineDuality.T17 : Bool × List (List Nat × List Nat) := (true, [([], []), ([], []), ([0, 1], [0, 1]), ([2], [2]), ([], []), ([], []), ([5], [5]), ([], []), ([7], [7]), ([6, 8], [6, 8]), ([4, 9], [4, 9]), ([10], [10]), ([3, 0, 1, 2, 3], [3]), ([11, 12, 0, 1, 2, 3, 4, 5, 6, 7, 8, 9, 10, 11, 12], [11])])
def l5LineDuality.B17 : List Nat := [0, 0, 3, 7, 0, 0, 32, 0, 128, 480, 1008, 2032, 15, 8191]
theorem l5LineDuality.tab17 : rtab .any (opsOf Try.f11 17) = l5LineDuality.T17 := by kernel_rfl
theorem l5LineDuality.bits17 : waitsOk l5LineDuality.T17.2 l5LineDuality.B17 = true := by kernel_rfl
def l5LineDuality.T36 : Bool × List (List Nat × List Nat) := (true, [([], []), ([], []), ([0, 1], [0, 1]), ([2], [2]), ([], []), ([3, 4], [3, 4]), ([5], [5]), ([6], [6]), ([7], [7]), ([8], [8]), ([9, 8], [8, 9]), ([8], [8]), ([8], [8]), ([11, 12, 8], [8, 11, 12]), ([13, 8], [8, 13]), ([8], [8]), ([14, 15, 8], [8, 14, 15]), ([16, 8], [8, 16]), ([10, 17, 8], [8, 10, 17]), ([8], [8]), ([19, 8], [8, 19]), ([18, 20, 8], [8, 18, 20]), ([8], [8]), ([8], [8]), ([22, 23, 8], [8, 22, 23]), ([24, 8], [8, 24]), ([21, 25, 8], [8, 21, 25]), ([8], [8]), ([8], [8]), ([27, 28, 8], [8, 27, 28]), ([29, 8], [8, 29]), ([26, 30, 8], [8, 26, 30]), ([8, 31], [8, 31]), ([32, 8], [32]), ([33], [33]), ([33], [33]), ([34, 35, 33], [33, 34, 35]), ([36, 33], [33, 36]), ([37, 33], [33, 37]), ([33, 38], [33, 38])])
def l5LineDuality.B36 : List Nat := [0, 0, 3, 7, 0, 31, 63, 127, 255, 511, 1023, 511, 511, 6655, 14847, 511, 63999, 129535, 262143, 511, 524799, 2097151, 511, 511, 12583423, 29360639, 67108863, 511, 511, 402653695, 939524607, 2147483647, 4294967295, 8589934591, 17179869183, 17179869183, 68719476735, 137438953471, 274877906943, 549755813887]
theorem l5LineDuality.tab36 : rtab .any (opsOf Try.f11 36) = l5LineDuality.T36 := by kernel_rfl
theorem l5LineDuality.bits36 : waitsOk l5LineDuality.T36.2 l5LineDuality.B36 = true := by kernel_rfl
def l5LineDuality.T39 : Bool × List (List Nat × List Nat) := (true, [([], []), ([], []), ([], []), ([], []), ([3], [3]), ([2, 4], [2, 4]), ([], []), ([5, 6], [5, 6]), ([1, 7], [1, 7]), ([8], [8]), ([], []), ([], []), ([11], [11]), ([10, 12], [10, 12]), ([], []), ([13, 14], [13, 14]), ([9, 15], [9, 15]), ([16], [16]), ([], []), ([17, 18], [17, 18]), ([19], [19]), ([0, 20, 19], [0, 20]), ([21, 21, 0, 1, 2, 3, 4, 5, 6, 7, 8, 9, 10, 11, 12, 13, 14, 15, 16, 17, 18, 19, 20, 21], [0, 21])])
def l5LineDuality.B39 : List Nat := [0, 0, 0, 0, 8, 28, 0, 124, 254, 510, 0, 0, 2048, 7168, 0, 31744, 65534, 131070, 0, 524286, 1048574, 2097151, 4194303]
theorem l5LineDuality.tab39 : rtab .any (opsOf Try.f11 39) = l5LineDuality.T39 := by kernel_rfl
theorem l5LineDuality.bits39 : waitsOk l5LineDuality.T39.2 l5LineDuality.B39 = true := by kernel_rfl
set_option maxHeartbeats 80000000 in
set_option maxRecDepth 100000 in
theorem l5LineDuality.calls (k : Nat) (A0 : Option Addr) (c0 : Nat) (l0 : List (List Int)) (a1 : Int) (a2 : Int) (r : Bool) (w : World) (hr0 : Kd.C (Kd.slice 3 (Kd.int .i64)) w A0 l0.length l0) (hc0 : l0.length ≤ c0) (h : l5LineDuality.f k l0 a1 a2 = some r) (hr_ : xA (r = true)) :
  Calls Try.prog 11 #[.slice A0 l0.length c0, .int .i64 a1, .int .u8 a2] w fun e w' => e = .returned (.bool r) ∧ Below w.heap.size w w' := by
 have hu37 := Try.underlying37
 have HR0 := xA.mk hr0
 have HC0 := xA.mk hc0
 clear hr0 hc0
 have HB := xA.mk (Below.refl w.heap.size w)
 have H : ((l5few.f k l0).bind fun t1162 => (if t1162 = true then ((line_Speed.f k l0).bind fun bt1164 => ((line_Potential.f k l0).bind fun bt1168 => ((line_Cycle.f k l0).bind fun bt1172 => (if bt1164.2.2 = bt1168.2 then (l5LineDuality.j0 k l0 a1 a2 bt1164.2.2 bt1168.1 bt1172.1 (bt1168.2 != bt1172.2) bt1164.1 bt1164.2.1) else (l5LineDuality.j0 k l0 a1 a2 bt1164.2.2 bt1168.1 bt1172.1 true bt1164.1 bt1164.2.1))))) else ((l5alive.f k).bind fun t1163 => (some t1163)))) = some r := h
 clear h
 replace H := qw H
 obtain ⟨t1162, A40, H⟩ := H
 replace H : (if t1162 = true then ((line_Speed.f k l0).bind fun bt1164 => ((line_Potential.f k l0).bind fun bt1168 => ((line_Cycle.f k l0).bind fun bt1172 => (if bt1164.2.2 = bt1168.2 then (l5LineDuality.j0 k l0 a1 a2 bt1164.2.2 bt1168.1 bt1172.1 (bt1168.2 != bt1172.2) bt1164.1 bt1164.2.1) else (l5LineDuality.j0 k l0 a1 a2 bt1164.2.2 bt1168.1 bt1172.1 true bt1164.1 bt1164.2.1))))) else ((l5alive.f k).bind fun t1163 => (some t1163))) = some r := H
 have A4 := xA.mk A40
 clear A40
 by_cases c5 : t1162 = true
 rotate_left
 ·
  replace c5 := Bool.eq_false_iff.mpr c5
  subst c5
  have H1 : ((l5alive.f k).bind fun t1163 => (some t1163)) = some r := by rw [if_neg (show ¬ (false = true) by decide)] at H; exact H
  clear H
  have H := H1
  clear H1
  replace H := qw H
  obtain ⟨t1163, A1940, H⟩ := H
  replace H : (some t1163) = some r := H
  have A194 := xA.mk A1940
  clear A1940
  obtain rfl := qx H
  go_enter Try.func11, Try.ntmps11
  go_wp2_with (first | ((with_reducible refine xK (f := 12) rfl ?_); refine xS (some 29) rfl rfl Try.func12 jk rfl #[.slice A0 l0.length c0] rfl qc ?_; (with_reducible refine (l5few.calls k _ _ l0 false _ ?side1 ?side2 A4.out).mono ?_); (case side1 => exact qm HR0.out); (case side2 => exact HC0.out); rintro e w' ⟨rfl, ⟨nd, rfl⟩⟩; refine ⟨_, rfl, ?_⟩) | ((with_reducible refine xK (f := 13) rfl ?_); refine xS (some 31) rfl rfl Try.func13 jk rfl #[] rfl qc ?_; (with_reducible refine (l5alive.calls k  t1163 _ A194.out).mono ?_); rintro e w195 ⟨rfl, hb⟩; refine ⟨_, rfl, ?_⟩; replace HB := xA.mk (xF qa hb); (try clear hb); (try clear hb2); (try clear hk); (try clear hi)))
  go_ret
  exact ⟨qg, qa⟩
 subst c5
 have H1 : ((line_Speed.f k l0).bind fun bt1164 => ((line_Potential.f k l0).bind fun bt1168 => ((line_Cycle.f k l0).bind fun bt1172 => (if bt1164.2.2 = bt1168.2 then (l5LineDuality.j0 k l0 a1 a2 bt1164.2.2 bt1168.1 bt1172.1 (bt1168.2 != bt1172.2) bt1164.1 bt1164.2.1) else (l5LineDuality.j0 k l0 a1 a2 bt1164.2.2 bt1168.1 bt1172.1 true bt1164.1 bt1164.2.1))))) = some r := by rw [if_pos rfl] at H; exact H
 clear H
 have H := H1
 clear H1
 replace H := qw H
 obtain ⟨⟨t1164, t1165, t1166⟩, A60, H⟩ := H
 replace H : ((line_Potential.f k l0).bind fun bt1168 => ((line_Cycle.f k l0).bind fun bt1172 => (if t1166 = bt1168.2 then (l5LineDuality.j0 k l0 a1 a2 t1166 bt1168.1 bt1172.1 (bt1168.2 != bt1172.2) t1164 t1165) else (l5LineDuality.j0 k l0 a1 a2 t1166 bt1168.1 bt1172.1 true t1164 t1165)))) = some r := H
 have A6 := xA.mk A60
 clear A60
 replace H := qw H
 obtain ⟨⟨t1168, t1169⟩, A70, H⟩ := H
 replace H : ((line_Cycle.f k l0).bind fun bt1172 => (if t1166 = t1169 then (l5LineDuality.j0 k l0 a1 a2 t1166 t1168 bt1172.1 (t1169 != bt1172.2) t1164 t1165) else (l5LineDuality.j0 k l0 a1 a2 t1166 t1168 bt1172.1 true t1164 t1165))) = some r := H
 have A7 := xA.mk A70
 clear A70
 replace H := qw H
 obtain ⟨⟨t1172, t1173⟩, A80, H⟩ := H
 replace H : (if t1166 = t1169 then (l5LineDuality.j0 k l0 a1 a2 t1166 t1168 t1172 (t1169 != t1173) t1164 t1165) else (l5LineDuality.j0 k l0 a1 a2 t1166 t1168 t1172 true t1164 t1165)) = some r := H
 have A8 := xA.mk A80
 clear A80
 have HC9 := xA.mk H
 clear H
 go_enter Try.func11, Try.ntmps11
 go_upto_region 6 with (first | ((with_reducible refine xK (f := 12) rfl ?_); refine xS (some 29) rfl rfl Try.func12 jk rfl #[.slice A0 l0.length c0] rfl qc ?_; (with_reducible refine (l5few.calls k _ _ l0 true _ ?side1 ?side2 A4.out).mono ?_); (case side1 => exact qm HR0.out); (case side2 => exact HC0.out); rintro e w' ⟨rfl, ⟨nd, rfl⟩⟩; refine ⟨_, rfl, ?_⟩) | ((with_reducible refine xK (f := 22) rfl ?_); refine xS (some 34) rfl rfl Try.func22 jk rfl #[.slice A0 l0.length c0] rfl qc ?_; (with_reducible refine (line_Speed.calls k _ _ l0 t1164 t1165 t1166 _ ?side1 ?side2 A6.out).mono ?_); (case side1 => exact qm HR0.out); (case side2 => exact HC0.out); rintro e w10 ⟨rfl, hb⟩; refine ⟨_, rfl, ?_⟩; replace HB := xA.mk (xF qa hb); (try clear hb); (try clear hb2); (try clear hk); (try clear hi)) | ((with_reducible refine xW (N := 7) rfl ?_); (try (refine gate_guard (by rfl) ?_; dsimp only)); refine yF ?hg (N := 7) ?hd (cs := #[.int .i64 0, .int .i64 0]) (t := 37) ?hr ?_; (case hd => rfl); (case hg => rfl); (case hr => first | (go_simp; done) | (go_simp; rfl)); intro gb1167 hg w11 hbox hb; have n0_ := xA.mk (xF qa hb); have n1_ := xA.mk (hbox); have n2_ := xA.mk ((by rw [hg]; exact (xD qa) : w.heap.size ≤ gb1167)); have n3_ := xA.mk ((by rw [hg]; exact (xD qa) : w.heap.size ≤ gb1167)); clear HB; have HB := n0_; have BK1167 := n1_; have GW1167 := n2_; have GE1167 := n3_; clear n0_ n1_ n2_ n3_; clear hb hbox hg; have hcz12_0 : w11.cell? ⟨gb1167, 0, none⟩ = some (.int .i64 0) := (xB BK1167.out 0).trans rfl; have hcz12_1 : w11.cell? ⟨gb1167, 1, none⟩ = some (.int .i64 0) := (xB BK1167.out 1).trans rfl; have hfz12_0 := xC BK1167.out 0; have hfz12_1 := xC BK1167.out 1) | ((with_reducible refine xK (f := 28) rfl ?_); refine xS (some 39) rfl rfl Try.func28 jk rfl #[.slice A0 l0.length c0] rfl qc ?_; (with_reducible refine (line_Potential.calls k _ _ l0 t1168 t1169 _ ?side1 ?side2 A7.out).mono ?_); (case side1 => exact Kd.yC HR0.out (qo GE1167.out)); (case side2 => exact HC0.out); rintro e w13 ⟨v1170, rfl, ho0, hb⟩; refine ⟨_, rfl, ?_⟩; have n0_ := xA.mk (Kd.R_lower ho0 (xD (qo GE1167.out))); have n1_ := xA.mk (xO (g := gb1167) (o := .cells #[.int .i64 t1164, .int .i64 t1165] 37 (0, 0)) (by (with_reducible repeat (first | refine xI ?_ _ | refine xH ?_ | refine xG ?_ _)); refine xT (cs := #[.int .i64 t1164, .int .i64 0]) ?_ 1 _ rfl; (with_reducible repeat (first | refine xI ?_ _ | refine xH ?_ | refine xG ?_ _)); refine xT (cs := #[.int .i64 0, .int .i64 0]) ?_ 0 _ rfl; (with_reducible repeat (first | refine xI ?_ _ | refine xH ?_ | refine xG ?_ _)); exact BK1167.out) hb); have n2_ := xA.mk (xF (qo GE1167.out) hb); clear BK1167; clear HB; have HO1171 := n0_; have BK1167 := n1_; have HB := n2_; clear n0_ n1_ n2_; (try clear hb); (try clear hb2); (try clear hk); (try clear hi); (try clear ho0)) | ((with_reducible refine xK (f := 33) rfl ?_); refine xS (some 44) rfl rfl Try.func33 jk rfl #[.slice A0 l0.length c0] rfl qc ?_; (with_reducible refine (line_Cycle.calls k _ _ l0 t1172 t1173 _ ?side1 ?side2 A8.out).mono ?_); (case side1 => exact qm (Kd.yC HR0.out HB.out)); (case side2 => exact HC0.out); rintro e w14 ⟨v1174, rfl, ho0, hb⟩; refine ⟨_, rfl, ?_⟩; have HO1175 := xA.mk (Kd.R_lower (Kd.R_new' ho0 (Kd.R_lt (qi HO1171.out))) (xD (qo GE1167.out))); replace HO1171 := xA.mk (Kd.R_elder' (qi HO1171.out) (Kd.R_base ho0) hb); replace BK1167 := xA.mk (xO (g := gb1167) (o := .cells #[.int .i64 t1164, .int .i64 t1165] 37 (0, 0)) (qn BK1167.out) hb); replace HB := xA.mk (xF (qo GE1167.out) hb); (try clear hb); (try clear hb2); (try clear hk); (try clear hi); (try clear ho0)))
 (try simp only [Act.put, qy, qz, ja])
 go_cut [54] (fun v54 wc => ∃ (kq : Nat) (x54_8 : Bool), v54 = .bool x54_8 ∧ xA (l5LineDuality.j0 kq l0 a1 a2 t1166 t1168 t1172 x54_8 t1164 t1165 = some r) ∧ xA (kq ≤ k) ∧ xA (Kd.R (Kd.int .i64) 3 wc w.heap.size (fun k_ => some k_ ≠ (v1174 : Value).ownBlock) v1170 t1168) ∧ xA (Kd.R (Kd.int .i64) 3 wc w.heap.size (fun k_ => some k_ ≠ (v1170 : Value).ownBlock) v1174 t1172) ∧ xA (wc.heap[gb1167]? = some (.cells #[.int .i64 t1164, .int .i64 t1165] 37 (0, 0))) ∧ xA (Below w.heap.size w wc))
 case first =>
  have H := HC9.out
  clear HC9
  obtain ⟨⟨c15b0, c15b1⟩, H⟩ | ⟨c15, ⟨c15b0, c15b1⟩, H⟩ := itn_or H
  rotate_left
  ·
   (first | rw [c15b0] | (simp only [i64_w, i32_w]; rw [c15b0]) | skip)
   have H' := xA.mk H
   clear H
   go_wp2
   go_meet
   case rel => exact ⟨_, (true), qf, H', ⟨by first | omega | exact Nat.le_refl _⟩, ⟨by (with_reducible repeat (first | apply Kd.R_alloc | apply Kd.R_drewN | apply Kd.R_drew)); exact Kd.xZ HO1171.out (fun _ hk => hk.2)⟩, ⟨by (with_reducible repeat (first | apply Kd.R_alloc | apply Kd.R_drewN | apply Kd.R_drew)); exact Kd.xZ HO1175.out (fun _ hk => hk.2)⟩, ⟨qn BK1167.out⟩, ⟨qo GE1167.out⟩⟩
  (first | rw [c15b0] | (simp only [i64_w, i32_w]; rw [c15b0]) | skip)
  have H' := xA.mk H
  clear H
  go_wp2
  go_meet
  case rel => exact ⟨_, ((t1169 != t1173)), qf, H', ⟨by first | omega | exact Nat.le_refl _⟩, ⟨by (with_reducible repeat (first | apply Kd.R_alloc | apply Kd.R_drewN | apply Kd.R_drew)); exact Kd.xZ HO1171.out (fun _ hk => hk.2)⟩, ⟨by (with_reducible repeat (first | apply Kd.R_alloc | apply Kd.R_drewN | apply Kd.R_drew)); exact Kd.xZ HO1175.out (fun _ hk => hk.2)⟩, ⟨qn BK1167.out⟩, ⟨qo GE1167.out⟩⟩
 case rest =>
  as_aux_lemma =>
   clear HC9
   try clear c1
   try clear c2
   try clear p2
   try clear c3
   try clear c5
   try clear c11
   try clear c12
   try clear c15
   try clear c15b0
   try clear c15b1
   try clear hcz12_0
   try clear hcz12_1
   try clear hfz12_0
   try clear hfz12_1
   obtain ⟨kq, x54_8, rfl, HA, HJ8, HO_9, HO_11, BK1167, HB⟩ := hcut
   obtain _ | kj8 := kq
   · exact absurd HA.out (by simp [l5LineDuality.j0])
   have H := HA.out
   clear HA
   simp only [l5LineDuality.j0] at H
   by_cases c16 : x54_8 = true
   ·
    subst c16
    have H1 : (some false) = some r := by rw [if_pos rfl] at H; exact H
    clear H
    have H := H1
    clear H1
    exact absurd (H.trans (congrArg some hr_.out)) (by simp)
   replace c16 := Bool.eq_false_iff.mpr c16
   subst c16
   have H1 : (if t1166 = 0 then (if t1165 < 1 then (l5LineDuality.j1 kj8 l0 a1 a2 t1168 t1172 (l0.length : Int) true t1164 t1165) else (if (t1168.length : Int) = (l0.length : Int) then (if (t1172.length : Int) = 0 then (l5LineDuality.j1 kj8 l0 a1 a2 t1168 t1172 (l0.length : Int) true t1164 t1165) else (l5LineDuality.j1 kj8 l0 a1 a2 t1168 t1172 (l0.length : Int) (decide ((t1172.length : Int) > (l0.length : Int))) t1164 t1165)) else (l5LineDuality.j1 kj8 l0 a1 a2 t1168 t1172 (l0.length : Int) true t1164 t1165))) else (if t1166 = 10 then (if (t1164 == 0 && (t1165 == 0)) = true then ((l5alive.f kj8).bind fun t1176 => (some t1176)) else (some false)) else (if t1166 = 2 then (if (t1164 == 0 && (t1165 == 0)) = true then ((l5alive.f kj8).bind fun t1177 => (some t1177)) else (some false)) else (some false)))) = some r := by rw [if_neg (show ¬ (false = true) by decide)] at H; exact H
   clear H
   have H := H1
   clear H1
   obtain ⟨⟨c17b0, c17b1⟩, H⟩ | ⟨c17, ⟨c17b0, c17b1⟩, H⟩ := itn_or H
   rotate_left
   ·
    obtain ⟨⟨c182b0, c182b1⟩, H⟩ | ⟨c182, ⟨c182b0, c182b1⟩, H⟩ := itn_or H
    ·
     by_cases c183 : (t1164 == 0 && (t1165 == 0)) = true
     rotate_left
     ·
      rw [if_neg c183] at H
      have c183b0 : (t1164 == 0 && (t1165 == 0)) = false := by simpa using c183
      (try (have c183b1 : decide (t1164 = 0 && (t1165 == 0)) = false := by simpa using c183))
      (try (have c183b2 : (t1164 == 0 && (t1165 == 0)) = false := by simpa using c183))
      (try (have c183b3 : ¬ (t1164 = 0 && (t1165 == 0)) := by simpa using c183))
      clear c183
      exact absurd (H.trans (congrArg some hr_.out)) (by simp)
     rw [if_pos c183] at H
     have c183b0 : (t1164 == 0 && (t1165 == 0)) = true := c183
     (try (have c183b1 : decide (t1164 = 0 && (t1165 == 0)) = true := by simpa using c183))
     (try (have c183b2 : (t1164 == 0 && (t1165 == 0)) = true := by simpa using c183))
     clear c183
     replace H := qw H
     obtain ⟨t1176, A1840, H⟩ := H
     replace H : (some t1176) = some r := H
     have A184 := xA.mk A1840
     clear A1840
     obtain rfl := qx H
     have hcz185_0 : wc.cell? ⟨gb1167, 0, none⟩ = some (.int .i64 t1164) := (xB BK1167.out 0).trans rfl
     have hcz185_1 : wc.cell? ⟨gb1167, 1, none⟩ = some (.int .i64 t1165) := (xB BK1167.out 1).trans rfl
     have hfz185_0 := xC BK1167.out 0
     have hfz185_1 := xC BK1167.out 1
     go_wp2_with (first | (go_at_call 13; (with_reducible refine (l5alive.calls kj8  t1176 _ A184.out).mono ?_); rintro e w186 ⟨rfl, hb⟩; replace HO_9 := xA.mk (Kd.R_below (qi HO_9.out) hb); replace HO_11 := xA.mk (Kd.R_below (qi HO_11.out) hb); replace BK1167 := xA.mk (xO (g := gb1167) (o := .cells #[.int .i64 t1164, .int .i64 t1165] 37 (0, 0)) (qn BK1167.out) hb); replace HB := xA.mk (xF (qo GE1167.out) hb); (try clear hb); (try clear hb2); (try clear hk); (try clear hi)))
     go_ret
     exact ⟨qg, qo GE1167.out⟩
    obtain ⟨⟨c188b0, c188b1⟩, H⟩ | ⟨c188, ⟨c188b0, c188b1⟩, H⟩ := itn_or H
    rotate_left
    ·
     exact absurd (H.trans (congrArg some hr_.out)) (by simp)
    by_cases c189 : (t1164 == 0 && (t1165 == 0)) = true
    rotate_left
    ·
     rw [if_neg c189] at H
     have c189b0 : (t1164 == 0 && (t1165 == 0)) = false := by simpa using c189
     (try (have c189b1 : decide (t1164 = 0 && (t1165 == 0)) = false := by simpa using c189))
     (try (have c189b2 : (t1164 == 0 && (t1165 == 0)) = false := by simpa using c189))
     (try (have c189b3 : ¬ (t1164 = 0 && (t1165 == 0)) := by simpa using c189))
     clear c189
     exact absurd (H.trans (congrArg some hr_.out)) (by simp)
    rw [if_pos c189] at H
    have c189b0 : (t1164 == 0 && (t1165 == 0)) = true := c189
    (try (have c189b1 : decide (t1164 = 0 && (t1165 == 0)) = true := by simpa using c189))
    (try (have c189b2 : (t1164 == 0 && (t1165 == 0)) = true := by simpa using c189))
    clear c189
    replace H := qw H
    obtain ⟨t1177, A1900, H⟩ := H
    replace H : (some t1177) = some r := H
    have A190 := xA.mk A1900
    clear A1900
    obtain rfl := qx H
    have hcz191_0 : wc.cell? ⟨gb1167, 0, none⟩ = some (.int .i64 t1164) := (xB BK1167.out 0).trans rfl
    have hcz191_1 : wc.cell? ⟨gb1167, 1, none⟩ = some (.int .i64 t1165) := (xB BK1167.out 1).trans rfl
    have hfz191_0 := xC BK1167.out 0
    have hfz191_1 := xC BK1167.out 1
    go_wp2_with (first | (go_at_call 13; (with_reducible refine (l5alive.calls kj8  t1177 _ A190.out).mono ?_); rintro e w192 ⟨rfl, hb⟩; replace HO_9 := xA.mk (Kd.R_below (qi HO_9.out) hb); replace HO_11 := xA.mk (Kd.R_below (qi HO_11.out) hb); replace BK1167 := xA.mk (xO (g := gb1167) (o := .cells #[.int .i64 t1164, .int .i64 t1165] 37 (0, 0)) (qn BK1167.out) hb); replace HB := xA.mk (xF (qo GE1167.out) hb); (try clear hb); (try clear hb2); (try clear hk); (try clear hi)))
    go_ret
    exact ⟨qg, qo GE1167.out⟩
   have HC18 := xA.mk H
   clear H
   go_upto_region 11 with (fail)
   go_cut [92] (fun v92 wc => ∃ (kq : Nat) (x92_17 : Bool), v92 = .bool x92_17 ∧ xA (l5LineDuality.j1 kq l0 a1 a2 t1168 t1172 (l0.length : Int) x92_17 t1164 t1165 = some r) ∧ xA (kq ≤ kj8) ∧ xA (Kd.R (Kd.int .i64) 3 wc w.heap.size (fun k_ => some k_ ≠ (v1174 : Value).ownBlock) v1170 t1168) ∧ xA (Kd.R (Kd.int .i64) 3 wc w.heap.size (fun k_ => some k_ ≠ (v1170 : Value).ownBlock) v1174 t1172) ∧ xA (wc.heap[gb1167]? = some (.cells #[.int .i64 t1164, .int .i64 t1165] 37 (0, 0))) ∧ xA (Below w.heap.size w wc))
   case first =>
    as_aux_lemma =>
     have H := HC18.out
     clear HC18
     obtain ⟨c19b0, H⟩ | ⟨c19b0, H⟩ := itd_or H
     ·
      (first | rw [c19b0] | (simp only [i64_w, i32_w]; rw [c19b0]) | skip)
      have H' := xA.mk H
      clear H
      have hcz20_0 : wc.cell? ⟨gb1167, 0, none⟩ = some (.int .i64 t1164) := (xB BK1167.out 0).trans rfl
      have hcz20_1 : wc.cell? ⟨gb1167, 1, none⟩ = some (.int .i64 t1165) := (xB BK1167.out 1).trans rfl
      have hfz20_0 := xC BK1167.out 0
      have hfz20_1 := xC BK1167.out 1
      go_wp2
      go_meet
      case rel => exact ⟨_, (true), qf, H', ⟨by have := HJ8.out; first | omega | exact Nat.le_refl _⟩, ⟨qi HO_9.out⟩, ⟨qi HO_11.out⟩, ⟨qn BK1167.out⟩, ⟨qo GE1167.out⟩⟩
     (first | rw [c19b0] | (simp only [i64_w, i32_w]; rw [c19b0]) | skip)
     by_cases c21 : (t1168.length : Int) = (l0.length : Int)
     rotate_left
     ·
      rw [if_neg c21] at H
      have c21b0 : ((t1168.length : Int) == (l0.length : Int)) = false := jg c21
      have c21b1 : ((t1168.length : Int) != (l0.length : Int)) = true := bne_iff_ne.mpr c21
      have c21b2 : (t1168.length == l0.length) = false := by first | simpa using c21 | (simp at c21 ⊢; omega)
      have H' := xA.mk H
      clear H
      have hcz29_0 : wc.cell? ⟨gb1167, 0, none⟩ = some (.int .i64 t1164) := (xB BK1167.out 0).trans rfl
      have hcz29_1 : wc.cell? ⟨gb1167, 1, none⟩ = some (.int .i64 t1165) := (xB BK1167.out 1).trans rfl
      have hfz29_0 := xC BK1167.out 0
      have hfz29_1 := xC BK1167.out 1
      obtain ⟨Ao30, co30, eo30⟩ := Kd.R_slice HO_9.out
      subst eo30
      go_wp2
      go_meet
      case rel => exact ⟨_, (true), qf, H', ⟨by have := HJ8.out; first | omega | exact Nat.le_refl _⟩, ⟨qi HO_9.out⟩, ⟨qi HO_11.out⟩, ⟨qn BK1167.out⟩, ⟨qo GE1167.out⟩⟩
     rw [if_pos c21] at H
     have c21b0 : ((t1168.length : Int) == (l0.length : Int)) = true := beq_iff_eq.mpr c21
     have c21b1 : ((t1168.length : Int) != (l0.length : Int)) = false := bne_eq_false_iff_eq.mpr c21
     have c21b2 : (t1168.length == l0.length) = true := by first | simpa using c21 | (simp at c21 ⊢; omega)
     clear c21
     obtain ⟨⟨c22b0, c22b1⟩, H⟩ | ⟨c22, ⟨c22b0, c22b1⟩, H⟩ := itn_or H
     ·
      have H' := xA.mk H
      clear H
      have hcz23_0 : wc.cell? ⟨gb1167, 0, none⟩ = some (.int .i64 t1164) := (xB BK1167.out 0).trans rfl
      have hcz23_1 : wc.cell? ⟨gb1167, 1, none⟩ = some (.int .i64 t1165) := (xB BK1167.out 1).trans rfl
      have hfz23_0 := xC BK1167.out 0
      have hfz23_1 := xC BK1167.out 1
      obtain ⟨Ao24, co24, eo24⟩ := Kd.R_slice HO_9.out
      subst eo24
      obtain ⟨Ao25, co25, eo25⟩ := Kd.R_slice HO_11.out
      subst eo25
      go_wp2
      go_meet
      case rel => exact ⟨_, (true), qf, H', ⟨by have := HJ8.out; first | omega | exact Nat.le_refl _⟩, ⟨qi HO_9.out⟩, ⟨qi HO_11.out⟩, ⟨qn BK1167.out⟩, ⟨qo GE1167.out⟩⟩
     have c22b2 : ¬ (t1172 = []) := fun h_ => c22 (by rw [h_]; rfl)
     have H' := xA.mk H
     clear H
     have hcz26_0 : wc.cell? ⟨gb1167, 0, none⟩ = some (.int .i64 t1164) := (xB BK1167.out 0).trans rfl
     have hcz26_1 : wc.cell? ⟨gb1167, 1, none⟩ = some (.int .i64 t1165) := (xB BK1167.out 1).trans rfl
     have hfz26_0 := xC BK1167.out 0
     have hfz26_1 := xC BK1167.out 1
     obtain ⟨Ao27, co27, eo27⟩ := Kd.R_slice HO_9.out
     subst eo27
     obtain ⟨Ao28, co28, eo28⟩ := Kd.R_slice HO_11.out
     subst eo28
     go_wp2
     go_meet
     case rel => exact ⟨_, (decide ((t1172.length : Int) > (l0.length : Int))), qf, H', ⟨by have := HJ8.out; first | omega | exact Nat.le_refl _⟩, ⟨qi HO_9.out⟩, ⟨qi HO_11.out⟩, ⟨qn BK1167.out⟩, ⟨qo GE1167.out⟩⟩
   case rest =>
    as_aux_lemma =>
     clear HC18
     try clear c1
     try clear c2
     try clear p2
     try clear c3
     try clear c5
     try clear c11
     try clear c12
     try clear c15
     try clear c15b0
     try clear c15b1
     try clear c16
     try clear c17
     try clear c17b0
     try clear c17b1
     try clear c19
     try clear c19b0
     try clear c21
     try clear c21b0
     try clear c21b1
     try clear c21b2
     try clear c22
     try clear c22b0
     try clear c22b1
     try clear c22b2
     try clear c28
     try clear hcz12_0
     try clear hcz12_1
     try clear hcz20_0
     try clear hcz20_1
     try clear hcz23_0
     try clear hcz23_1
     try clear hcz26_0
     try clear hcz26_1
     try clear hcz29_0
     try clear hcz29_1
     try clear hfz12_0
     try clear hfz12_1
     try clear hfz20_0
     try clear hfz20_1
     try clear hfz23_0
     try clear hfz23_1
     try clear hfz26_0
     try clear hfz26_1
     try clear hfz29_0
     try clear hfz29_1
     try clear p2
     obtain ⟨kq, x92_17, rfl, HA, HJ17, HO_9, HO_11, BK1167, HB⟩ := hcut
     obtain _ | kj17 := kq
     · exact absurd HA.out (by simp [l5LineDuality.j1])
     have H := HA.out
     clear HA
     simp only [l5LineDuality.j1] at H
     by_cases c31 : x92_17 = true
     ·
      subst c31
      have H1 : (some false) = some r := by rw [if_pos rfl] at H; exact H
      clear H
      have H := H1
      clear H1
      exact absurd (H.trans (congrArg some hr_.out)) (by simp)
     replace c31 := Bool.eq_false_iff.mpr c31
     subst c31
     have H1 : (l5LineDuality.l0 kj17 l0 a1 a2 t1168 t1172 (l0.length : Int) 0 0 t1164 t1165) = some r := by rw [if_neg (show ¬ (false = true) by decide)] at H; exact H
     clear H
     have H := H1
     clear H1
     have H' := xA.mk H
     clear H
     go_wp2
     go_loopg [14, 15] kj17 (fun kq v14 v15 w' => ∃ (x14_3 : Int) (x15_3 : Int), v14 = .int .i64 x14_3 ∧ v15 = .int .i64 x15_3 ∧ xA (l5LineDuality.l0 kq l0 a1 a2 t1168 t1172 (l0.length : Int) x14_3 x15_3 t1164 t1165 = some r) ∧ xA (kq ≤ kj17) ∧ xA (Kd.R (Kd.int .i64) 3 w' w.heap.size (fun k_ => some k_ ≠ (v1174 : Value).ownBlock) v1170 t1168) ∧ xA (Kd.R (Kd.int .i64) 3 w' w.heap.size (fun k_ => some k_ ≠ (v1170 : Value).ownBlock) v1174 t1172) ∧ xA (w'.heap[gb1167]? = some (.cells #[.int .i64 t1164, .int .i64 t1165] 37 (0, 0))) ∧ xA (Below w.heap.size w w'))
     case atStart => exact ⟨(0), (0), qf, qf, H', ⟨Nat.le_refl _⟩, ⟨qi HO_9.out⟩, ⟨qi HO_11.out⟩, ⟨qn BK1167.out⟩, ⟨qo GE1167.out⟩⟩
     case round =>
      as_aux_lemma =>
       clear H'
       try clear c1
       try clear c2
       try clear p2
       try clear c3
       try clear c5
       try clear c11
       try clear c12
       try clear c15
       try clear c15b0
       try clear c15b1
       try clear c16
       try clear c17
       try clear c17b0
       try clear c17b1
       try clear c19
       try clear c19b0
       try clear c21
       try clear c21b0
       try clear c21b1
       try clear c21b2
       try clear c22
       try clear c22b0
       try clear c22b1
       try clear c22b2
       try clear c28
       try clear c31
       try clear hcz12_0
       try clear hcz12_1
       try clear hcz20_0
       try clear hcz20_1
       try clear hcz23_0
       try clear hcz23_1
       try clear hcz26_0
       try clear hcz26_1
       try clear hcz29_0
       try clear hcz29_1
       try clear hfz12_0
       try clear hfz12_1
       try clear hfz20_0
       try clear hfz20_1
       try clear hfz23_0
       try clear hfz23_1
       try clear hfz26_0
       try clear hfz26_1
       try clear hfz29_0
       try clear hfz29_1
       try clear p2
       obtain ⟨x14_3, x15_3, rfl, rfl, HA, HK3, HO_9, HO_11, BK1167, HB⟩ := hrel
       obtain _ | k3 := gk
       · exact absurd HA.out (by simp [l5LineDuality.l0])
       have H := HA.out
       clear HA
       simp only [l5LineDuality.l0] at H
       obtain ⟨c32b0, H⟩ | ⟨c32b0, H⟩ := itd_or H
       ·
        obtain ⟨c33b0, H⟩ := xL H
        by_cases c34 : (t1172.length : Int) = 0
        ·
         rw [if_pos c34] at H
         exact absurd H (by simp)
        rw [if_neg c34] at H
        have c34b0 : ((t1172.length : Int) == 0) = false := jg c34
        have c34b1 : ((t1172.length : Int) != 0) = true := bne_iff_ne.mpr c34
        have c34b2 : ¬ (t1172 = []) := fun h_ => c34 (by rw [h_]; rfl)
        obtain ⟨ji35, hji35⟩ : ∃ j_ : Int, (Int.tmod (wrap64 (x15_3 + 1)) (t1172.length : Int)) = j_ := ⟨_, rfl⟩
        replace H : (if 0 ≤ (ji35) then (if (ji35) < (t1172.length : Int) then (if (rd t1172 x15_3) < 0 then (some false) else (if (rd t1172 x15_3) ≥ (l0.length : Int) then (some false) else (if (rd t1172 (ji35)) < 0 then (some false) else (if (rd t1172 (ji35)) ≥ (l0.length : Int) then (some false) else (if 0 ≤ (rd t1172 (ji35)) then (if (rd t1172 (ji35)) < (l0.length : Int) then (if 0 ≤ (rd t1172 x15_3) then (if (rd t1172 x15_3) < ((rd_L1 l0 (rd t1172 (ji35))).length : Int) then (if (rd (rd_L1 l0 (rd t1172 (ji35))) (rd t1172 x15_3)) = (-1152921504606846976) then (some false) else (l5LineDuality.l0 k3 l0 a1 a2 t1168 t1172 (l0.length : Int) (wrap64 (x14_3 + (rd (rd_L1 l0 (rd t1172 (ji35))) (rd t1172 x15_3)))) (wrap64 (x15_3 + 1)) t1164 t1165)) else (none)) else (none)) else (none)) else (none)))))) else (none)) else (none)) = some r := by first | (rw [hji35] at H; exact H) | (simp only [hji35] at H ⊢; exact H)
        obtain ⟨c36b0, H⟩ := xL H
        obtain ⟨c37b0, H⟩ := xL H
        obtain ⟨c38b0, H⟩ | ⟨c38b0, H⟩ := itd_or H
        ·
         exact absurd (H.trans (congrArg some hr_.out)) (by simp)
        by_cases c41 : (rd t1172 x15_3) ≥ (l0.length : Int)
        ·
         rw [if_pos c41] at H
         have c41b0 : decide ((l0.length : Int) ≤ (rd t1172 x15_3)) = true := qu c41
         clear c41
         exact absurd (H.trans (congrArg some hr_.out)) (by simp)
        rw [if_neg c41] at H
        have c41b0 : decide ((l0.length : Int) ≤ (rd t1172 x15_3)) = false := qv c41
        clear c41
        obtain ⟨c44b0, H⟩ | ⟨c44b0, H⟩ := itd_or H
        ·
         exact absurd (H.trans (congrArg some hr_.out)) (by simp)
        by_cases c47 : (rd t1172 (ji35)) ≥ (l0.length : Int)
        ·
         rw [if_pos c47] at H
         have c47b0 : decide ((l0.length : Int) ≤ (rd t1172 (ji35))) = true := qu c47
         clear c47
         exact absurd (H.trans (congrArg some hr_.out)) (by simp)
        rw [if_neg c47] at H
        have c47b0 : decide ((l0.length : Int) ≤ (rd t1172 (ji35))) = false := qv c47
        clear c47
        obtain ⟨c50b0, H⟩ := xL H
        obtain ⟨c51b0, H⟩ := xL H
        obtain ⟨c52b0, H⟩ := xL H
        obtain ⟨c53b0, H⟩ := xL H
        obtain ⟨⟨c54b0, c54b1⟩, H⟩ | ⟨c54, ⟨c54b0, c54b1⟩, H⟩ := itn_or H
        ·
         exact absurd (H.trans (congrArg some hr_.out)) (by simp)
        have H' := xA.mk H
        clear H
        obtain ⟨Ao57, co57, eo57⟩ := Kd.R_slice HO_11.out
        subst eo57
        try go_wp2
        have n0_ := xA.mk (Kd.R_drew HO_9.out)
        have n1_ := xA.mk (Kd.R_drew HO_11.out)
        have n2_ := xA.mk (xH BK1167.out)
        have n3_ := xA.mk (xN HB.out)
        clear HO_9
        clear HO_11
        clear BK1167
        clear HB
        have HO_9 := n0_
        have HO_11 := n1_
        have BK1167 := n2_
        have HB := n3_
        clear n0_ n1_ n2_ n3_
        have p1178 : 0 ≤ (x15_3 : Int) := qr
        have q1178 : x15_3 < (t1172.length : Int) := qr
        obtain ⟨ad1178, e1178, hx1178_0⟩ := Kd.xU (Kd.yE HO_11.out).2.2 x15_3 p1178 q1178
        cases e1178
        replace p1178 := eq_true p1178
        replace q1178 := eq_true q1178
        have p1179 : 0 ≤ ((ji35) : Int) := qr
        have q1179 : (ji35) < (t1172.length : Int) := qr
        obtain ⟨ad1179, e1179, hx1179_0⟩ := Kd.xU (Kd.yE HO_11.out).2.2 (ji35) p1179 q1179
        obtain rfl : ad1178 = ad1179 := (by injection e1179)
        replace p1179 := eq_true p1179
        replace q1179 := eq_true q1179
        refine start_ (n := 14) (S := fun w' => w'.cell? (ad1178.add (x15_3).toNat) = some (.int .i64 (rd t1172 x15_3)) ∧ w'.cell? (ad1178.add ((ji35)).toNat) = some (.int .i64 (rd t1172 (ji35)))) (ds := []) (jl 14 0) jk rfl rfl ⟨hx1178_0, hx1179_0⟩ (fun hHeld => ?_); refine with_tabW l5LineDuality.tab17 l5LineDuality.bits17 (fun HT_ HW_ => ?_)
        generalize wr.drew = w58 at HO_9 HO_11 BK1167 HB hx1178_0 hx1179_0 hHeld ⊢
        refine pure_ (i := 0) (N := some 99) (v := ?_) (a' := ?_) (jl 14 1) rfl rfl (xE HT_.out jk) (fun _ _ _ h => h) (Or.inl ⟨by rfl, ?_⟩) ?_ ?_
        rotate_left
        ·
         intro w'
         go_simp
         with_reducible rfl
        rotate_left
        ·
         simp only [Act.put, qy, qz, ja, i64_w, i32_w]
         rfl
        refine pure_ (i := 1) (N := some 100) (v := ?_) (a' := ?_) (jl 14 3) rfl rfl (xE HT_.out jk) (fun _ _ _ h => h) (Or.inl ⟨by rfl, ?_⟩) ?_ ?_
        rotate_left
        ·
         intro w'
         go_simp
         with_reducible rfl
        rotate_left
        ·
         simp only [Act.put, qy, qz, ja, i64_w, i32_w]
         rfl
        refine pure_ (i := 2) (N := some 101) (v := ?_) (a' := ?_) (jl 14 7) rfl rfl (xE HT_.out jk) (fun _ _ _ h => h) (Or.inl ⟨by rfl, ?_⟩) ?_ ?_
        rotate_left
        ·
         intro w'
         go_simp
         with_reducible rfl
        rotate_left
        ·
         simp only [Act.put, qy, qz, ja, i64_w, i32_w]
         rfl
        refine pure_ (i := 4) (N := some 103) (v := ?_) (a' := ?_) (jl 14 23) rfl rfl (xE HT_.out jk) (fun _ _ _ h => h) (Or.inl ⟨by rfl, ?_⟩) ?_ ?_
        rotate_left
        ·
         intro w'
         go_simp
         with_reducible rfl
        rotate_left
        ·
         simp only [Act.put, qy, qz, ja, i64_w, i32_w]
         rfl
        refine pure_ (i := 5) (N := some 104) (v := ?_) (a' := ?_) (jl 14 55) rfl rfl (xE HT_.out jk) (fun _ _ _ h => h) (Or.inl ⟨by rfl, ?_⟩) ?_ ?_
        rotate_left
        ·
         intro w'
         go_simp
         with_reducible rfl
        rotate_left
        ·
         simp only [Act.put, qy, qz, ja, i64_w, i32_w]
         rfl
        refine pure_ (i := 6) (N := some 105) (v := ?_) (a' := ?_) (jl 14 119) rfl rfl (xE HT_.out jk) (fun _ _ _ h => h) (Or.inl ⟨by rfl, ?_⟩) ?_ ?_
        rotate_left
        ·
         intro w'
         go_simp
         with_reducible rfl
        rotate_left
        ·
         simp only [Act.put, qy, qz, ja, i64_w, i32_w]
         rfl
        refine pure_ (i := 7) (N := some 106) (v := ?_) (a' := ?_) (jl 14 247) rfl rfl (xE HT_.out jk) (fun _ _ _ h => h) (Or.inl ⟨by rfl, ?_⟩) ?_ ?_
        rotate_left
        ·
         intro w'
         go_simp
         with_reducible rfl
        rotate_left
        ·
         simp only [Act.put, qy, qz, ja, i64_w, i32_w]
         rfl
        refine pure_ (i := 8) (N := some 107) (v := ?_) (a' := ?_) (jl 14 503) rfl rfl (xE HT_.out jk) (fun _ _ _ h => h) (Or.inl ⟨by rfl, ?_⟩) ?_ ?_
        rotate_left
        ·
         intro w'
         go_simp
         with_reducible rfl
        rotate_left
        ·
         simp only [Act.put, qy, qz, ja, i64_w, i32_w]
         rfl
        refine pure_ (i := 9) (N := some 108) (v := ?_) (a' := ?_) (jl 14 1015) rfl rfl (xE HT_.out jk) (fun _ _ _ h => h) (Or.inl ⟨by rfl, ?_⟩) ?_ ?_
        rotate_left
        ·
         intro w'
         go_simp
         with_reducible rfl
        rotate_left
        ·
         simp only [Act.put, qy, qz, ja, i64_w, i32_w]
         rfl
        refine pure_ (i := 10) (N := some 109) (v := ?_) (a' := ?_) (jl 14 2039) rfl rfl (xE HT_.out jk) (fun _ _ _ h => h) (Or.inl ⟨by rfl, ?_⟩) ?_ ?_
        rotate_left
        ·
         intro w'
         go_simp
         with_reducible rfl
        rotate_left
        ·
         simp only [Act.put, qy, qz, ja, i64_w, i32_w]
         rfl
        refine take_ (i := 3) (N := some 102) (v := ?_) (a' := ?_) (jl 14 2047) rfl rfl (xY HT_.out HW_.out jk) (fun _ _ _ h => h) (Or.inl ⟨by rfl, ?_⟩) hHeld ?_ ?_
        rotate_left
        ·
         rintro w' ⟨s0, s1⟩
         go_simp
         with_reducible rfl
        rotate_left
        ·
         simp only [Act.put, qy, qz, ja, i64_w, i32_w]
         rfl
        refine pure_ (i := 12) (N := some 16) (v := ?_) (a' := ?_) (jl 14 6143) rfl rfl (xE HT_.out jk) (fun _ _ _ h => h) (Or.inl ⟨by rfl, ?_⟩) ?_ ?_
        rotate_left
        ·
         intro w'
         go_simp
         with_reducible rfl
        rotate_left
        ·
         simp only [Act.put, qy, qz, ja, i64_w, i32_w]
         rfl
        refine take_ (i := 11) (N := some 110) (v := ?_) (a' := ?_) (jl 14 8191) rfl rfl (xY HT_.out HW_.out jk) (fun _ _ _ h => h) (Or.inl ⟨by rfl, ?_⟩) hHeld ?_ ?_
        rotate_left
        ·
         rintro w' ⟨s0, s1⟩
         go_simp
         with_reducible rfl
        rotate_left
        ·
         simp only [Act.put, qy, qz, ja, i64_w, i32_w]
         rfl
        refine pure_ (i := 13) (N := some 17) (v := ?_) (a' := ?_) (jl 14 16383) rfl rfl (xE HT_.out jk) (fun _ _ _ h => h) (Or.inl ⟨by rfl, ?_⟩) ?_ ?_
        rotate_left
        ·
         intro w'
         go_simp
         with_reducible rfl
        rotate_left
        ·
         simp only [Act.put, qy, qz, ja, i64_w, i32_w]
         rfl
        refine done_ (done_of HT_.out jk) ?_
        have p1180 : 0 ≤ ((rd t1172 (ji35)) : Int) := qr
        have q1180 : (rd t1172 (ji35)) < (l0.length : Int) := qr
        obtain ⟨ad1180, A1180_0, c1180_0, e1180, hx1180_0, hl1180_0, hi1180_0⟩ := at_L1 HR0.out (rd t1172 (ji35)) p1180 q1180
        cases e1180
        replace hx1180_0 := (HB.out.cell (World.block_lt_of_cell? w _ hx1180_0)).trans hx1180_0
        have HR1180_0 := xA.mk hi1180_0
        have HC1180_0 := xA.mk hl1180_0
        clear hi1180_0 hl1180_0
        replace p1180 := eq_true p1180
        replace q1180 := eq_true q1180
        have p1181 : 0 ≤ ((rd t1172 x15_3) : Int) := qr
        have q1181 : (rd t1172 x15_3) < ((rd_L1 l0 (rd t1172 (ji35))).length : Int) := qr
        obtain ⟨ad1181, e1181, hx1181_0⟩ := Kd.xU HR1180_0.out (rd t1172 x15_3) p1181 q1181
        cases e1181
        replace hx1181_0 := (HB.out.cell (World.block_lt_of_cell? w _ hx1181_0)).trans hx1181_0
        replace p1181 := eq_true p1181
        replace q1181 := eq_true q1181
        have p1182 : 0 ≤ ((rd t1172 (ji35)) : Int) := qr
        have q1182 : (rd t1172 (ji35)) < (l0.length : Int) := qr
        obtain ⟨ad1182, A1182_0, c1182_0, e1182, hx1182_0, hl1182_0, hi1182_0⟩ := at_L1 HR0.out (rd t1172 (ji35)) p1182 q1182
        obtain rfl : ad1180 = ad1182 := (by injection e1182)
        replace hx1182_0 := (HB.out.cell (World.block_lt_of_cell? w _ hx1182_0)).trans hx1182_0
        have HR1182_0 := xA.mk hi1182_0
        have HC1182_0 := xA.mk hl1182_0
        clear hi1182_0 hl1182_0
        replace p1182 := eq_true p1182
        replace q1182 := eq_true q1182
        have ea_ := qx (hx1180_0.symm.trans hx1182_0)
        injection ea_ with ea_ en_ ec_
        subst ea_
        subst ec_
        clear en_
        have p1183 : 0 ≤ ((rd t1172 x15_3) : Int) := qr
        have q1183 : (rd t1172 x15_3) < ((rd_L1 l0 (rd t1172 (ji35))).length : Int) := qr
        obtain ⟨ad1183, e1183, hx1183_0⟩ := Kd.xU HR1182_0.out (rd t1172 x15_3) p1183 q1183
        cases e1183
        replace hx1183_0 := (HB.out.cell (World.block_lt_of_cell? w _ hx1183_0)).trans hx1183_0
        replace p1183 := eq_true p1183
        replace q1183 := eq_true q1183
        try go_wp2
        go_roundg k3
        case measure => have := HJ8.out; have := HJ17.out; have := HK3.out; omega
        case rel => exact ⟨(wrap64 (x14_3 + (rd (rd_L1 l0 (rd t1172 (ji35))) (rd t1172 x15_3)))), (wrap64 (x15_3 + 1)), (by first | rfl | (simp; done) | (simp only [← hji35] <;> (first | rfl | simp)) | (simp [*]; done)), qf, H', ⟨by have := HJ8.out; have := HJ17.out; have := HK3.out; omega⟩, ⟨qi HO_9.out⟩, ⟨qi HO_11.out⟩, ⟨qn BK1167.out⟩, ⟨qo GE1167.out⟩⟩
       obtain ⟨⟨c59b0, c59b1⟩, H⟩ | ⟨c59, ⟨c59b0, c59b1⟩, H⟩ := itn_or H
       rotate_left
       ·
        obtain rfl := qx H
        obtain ⟨Ao180, co180, eo180⟩ := Kd.R_slice HO_11.out
        subst eo180
        have hcz181_0 : wr.cell? ⟨gb1167, 0, none⟩ = some (.int .i64 t1164) := (xB BK1167.out 0).trans rfl
        have hcz181_1 : wr.cell? ⟨gb1167, 1, none⟩ = some (.int .i64 t1165) := (xB BK1167.out 1).trans rfl
        have hfz181_0 := xC BK1167.out 0
        have hfz181_1 := xC BK1167.out 1
        go_wp2
        go_ret
        exact ⟨qg, qo GE1167.out⟩
       have HC60 := xA.mk H
       clear H
       obtain ⟨Ao61, co61, eo61⟩ := Kd.R_slice HO_11.out
       subst eo61
       have hcz62_0 : wr.cell? ⟨gb1167, 0, none⟩ = some (.int .i64 t1164) := (xB BK1167.out 0).trans rfl
       have hcz62_1 : wr.cell? ⟨gb1167, 1, none⟩ = some (.int .i64 t1165) := (xB BK1167.out 1).trans rfl
       have hfz62_0 := xC BK1167.out 0
       have hfz62_1 := xC BK1167.out 1
       go_upto_region 26 with (fail)
       go_cut [161] (fun v161 wc => ∃ (kq : Nat) (x161_59 : Bool), v161 = .bool x161_59 ∧ xA (l5LineDuality.j3 kq l0 a1 a2 t1168 (l0.length : Int) false ([] : List (List Int)) ([] : List (List Int)) 0 x161_59 t1164 t1165 = some r) ∧ xA (kq ≤ k3) ∧ xA (Kd.R (Kd.int .i64) 3 wc w.heap.size (fun _ => True) v1170 t1168) ∧ xA (Kd.S (Kd.slice 3 (Kd.int .i64)) 26 wc w.heap.size (fun k_ => some k_ ≠ (v1170 : Value).ownBlock ∧ some k_ ≠ ((.slice none 0 0) : Value).ownBlock) (.slice none 0 0) ([] : List (List Int))) ∧ xA (Kd.S (Kd.slice 3 (Kd.int .i64)) 26 wc w.heap.size (fun k_ => some k_ ≠ (v1170 : Value).ownBlock ∧ some k_ ≠ ((.slice none 0 0) : Value).ownBlock) (.slice none 0 0) ([] : List (List Int))) ∧ xA (wc.heap[gb1167]? = some (.cells #[.int .i64 t1164, .int .i64 t1165] 37 (0, 0))) ∧ xA (Below w.heap.size w wc))
       case first =>
        have H := HC60.out
        clear HC60
        by_cases c63 : a1 ≥ (-500)
        rotate_left
        ·
         rw [if_neg c63] at H
         have c63b0 : decide ((-500) ≤ a1) = false := qv c63
         clear c63
         (first | rw [c63b0] | (simp only [i64_w, i32_w]; rw [c63b0]) | skip)
         have H' := xA.mk H
         clear H
         go_wp2
         go_meet
         case rel => exact ⟨_, (false), qf, H', ⟨by have := HJ8.out; have := HJ17.out; have := HK3.out; first | omega | exact Nat.le_refl _⟩, ⟨by (with_reducible repeat (first | apply Kd.R_alloc | apply Kd.R_drewN | apply Kd.R_drew)); exact Kd.xZ HO_9.out (fun _ hk => trivial)⟩, ⟨by first | exact Kd.S_nil _ _ _ _ _ | exact Kd.N_nil _ _ _ _ _ | exact Kd.V_nil _ _ _ _ _ | exact Kd.Q_nil _ _ _ _ _ | exact Kd.R_nil _ _ _ _ _⟩, ⟨by first | exact Kd.S_nil _ _ _ _ _ | exact Kd.N_nil _ _ _ _ _ | exact Kd.V_nil _ _ _ _ _ | exact Kd.Q_nil _ _ _ _ _ | exact Kd.R_nil _ _ _ _ _⟩, ⟨qn BK1167.out⟩, ⟨qo GE1167.out⟩⟩
        rw [if_pos c63] at H
        have c63b0 : decide ((-500) ≤ a1) = true := qu c63
        clear c63
        (first | rw [c63b0] | (simp only [i64_w, i32_w]; rw [c63b0]) | skip)
        have H' := xA.mk H
        clear H
        go_wp2
        go_meet
        case rel => exact ⟨_, (decide (a1 ≤ 500)), qf, H', ⟨by have := HJ8.out; have := HJ17.out; have := HK3.out; first | omega | exact Nat.le_refl _⟩, ⟨by (with_reducible repeat (first | apply Kd.R_alloc | apply Kd.R_drewN | apply Kd.R_drew)); exact Kd.xZ HO_9.out (fun _ hk => trivial)⟩, ⟨by first | exact Kd.S_nil _ _ _ _ _ | exact Kd.N_nil _ _ _ _ _ | exact Kd.V_nil _ _ _ _ _ | exact Kd.Q_nil _ _ _ _ _ | exact Kd.R_nil _ _ _ _ _⟩, ⟨by first | exact Kd.S_nil _ _ _ _ _ | exact Kd.N_nil _ _ _ _ _ | exact Kd.V_nil _ _ _ _ _ | exact Kd.Q_nil _ _ _ _ _ | exact Kd.R_nil _ _ _ _ _⟩, ⟨qn BK1167.out⟩, ⟨qo GE1167.out⟩⟩
       case rest =>
        as_aux_lemma =>
         clear HC60
         try clear c1
         try clear p1
         try clear q1
         try clear hx1
         try clear p2
         try clear c3
         try clear c4
         try clear c5
         try clear c6
         try clear p6
         try clear c11
         try clear p11
         try clear q11
         try clear hx11
         try clear c32
         try clear c32b0
         try clear c33
         try clear c36
         try clear c37
         try clear c44
         try clear c44b0
         try clear c47
         try clear c47b0
         try clear c50
         try clear c50b0
         try clear c51
         try clear c51b0
         try clear c52
         try clear c52b0
         try clear c53
         try clear c53b0
         try clear c54
         try clear c54b0
         try clear c54b1
         try clear c59
         try clear c59b0
         try clear c59b1
         try clear c63
         try clear c63b0
         try clear hcz62_0
         try clear hcz62_1
         try clear hfz62_0
         try clear hfz62_1
         try clear hx1178_0
         try clear hx1179_0
         try clear hx1180_0
         try clear hx1181_0
         try clear hx1182_0
         try clear hx1183_0
         try clear p1178
         try clear p1179
         try clear p1180
         try clear p1181
         try clear p1182
         try clear p1183
         try clear q1178
         try clear q1179
         try clear q1180
         try clear q1181
         try clear q1182
         try clear q1183
         obtain ⟨kq, x161_59, rfl, HA, HJ59, HO_9, HO_19, HO_20, BK1167, HB⟩ := hcut
         obtain _ | kj59 := kq
         · exact absurd HA.out (by simp [l5LineDuality.j3])
         have H := HA.out
         clear HA
         simp only [l5LineDuality.j3] at H
         have HC64 := xA.mk H
         clear H
         go_upto_if 161 with (fail)
         go_cut [21] (fun v21 wc => ∃ (kq : Nat) (x21_63 : Int), v21 = .int .i64 x21_63 ∧ xA (l5LineDuality.j4 kq l0 a2 t1168 (l0.length : Int) false ([] : List (List Int)) ([] : List (List Int)) x21_63 t1164 t1165 = some r) ∧ xA (kq ≤ kj59) ∧ xA (Kd.R (Kd.int .i64) 3 wc w.heap.size (fun _ => True) v1170 t1168) ∧ xA (Kd.S (Kd.slice 3 (Kd.int .i64)) 26 wc w.heap.size (fun k_ => some k_ ≠ (v1170 : Value).ownBlock ∧ some k_ ≠ ((.slice none 0 0) : Value).ownBlock) (.slice none 0 0) ([] : List (List Int))) ∧ xA (Kd.S (Kd.slice 3 (Kd.int .i64)) 26 wc w.heap.size (fun k_ => some k_ ≠ (v1170 : Value).ownBlock ∧ some k_ ≠ ((.slice none 0 0) : Value).ownBlock) (.slice none 0 0) ([] : List (List Int))) ∧ xA (wc.heap[gb1167]? = some (.cells #[.int .i64 t1164, .int .i64 t1165] 37 (0, 0))) ∧ xA (Below w.heap.size w wc))
         case first =>
          have H := HC64.out
          clear HC64
          by_cases c65 : x161_59 = true
          ·
           subst c65
           have H1 : (l5LineDuality.j4 kj59 l0 a2 t1168 (l0.length : Int) false ([] : List (List Int)) ([] : List (List Int)) a1 t1164 t1165) = some r := by rw [if_pos rfl] at H; exact H
           clear H
           have H := H1
           clear H1
           have H' := xA.mk H
           clear H
           go_wp2
           go_meet
           case rel => exact ⟨_, (a1), qf, H', ⟨by have := HJ8.out; have := HJ17.out; have := HK3.out; have := HJ59.out; first | omega | exact Nat.le_refl _⟩, ⟨qi HO_9.out⟩, ⟨qh HO_19.out⟩, ⟨qh HO_20.out⟩, ⟨qn BK1167.out⟩, ⟨qo GE1167.out⟩⟩
          replace c65 := Bool.eq_false_iff.mpr c65
          subst c65
          have H1 : (l5LineDuality.j4 kj59 l0 a2 t1168 (l0.length : Int) false ([] : List (List Int)) ([] : List (List Int)) 0 t1164 t1165) = some r := by rw [if_neg (show ¬ (false = true) by decide)] at H; exact H
          clear H
          have H := H1
          clear H1
          have H' := xA.mk H
          clear H
          go_wp2
          go_meet
          case rel => exact ⟨_, (0), qf, H', ⟨by have := HJ8.out; have := HJ17.out; have := HK3.out; have := HJ59.out; first | omega | exact Nat.le_refl _⟩, ⟨qi HO_9.out⟩, ⟨qh HO_19.out⟩, ⟨qh HO_20.out⟩, ⟨qn BK1167.out⟩, ⟨qo GE1167.out⟩⟩
         case rest =>
          as_aux_lemma =>
           clear HC64
           try clear c1
           try clear p1
           try clear q1
           try clear hx1
           try clear p2
           try clear c3
           try clear c4
           try clear c5
           try clear c6
           try clear p6
           try clear c11
           try clear p11
           try clear q11
           try clear hx11
           try clear c32
           try clear c32b0
           try clear c33
           try clear c36
           try clear c37
           try clear c44
           try clear c44b0
           try clear c47
           try clear c47b0
           try clear c50
           try clear c50b0
           try clear c51
           try clear c51b0
           try clear c52
           try clear c52b0
           try clear c53
           try clear c53b0
           try clear c54
           try clear c54b0
           try clear c54b1
           try clear c59
           try clear c59b0
           try clear c59b1
           try clear c63
           try clear c63b0
           try clear p64
           try clear c65
           try clear hcz62_0
           try clear hcz62_1
           try clear hfz62_0
           try clear hfz62_1
           try clear hx1178_0
           try clear hx1179_0
           try clear hx1180_0
           try clear hx1181_0
           try clear hx1182_0
           try clear hx1183_0
           try clear p1
           try clear p11
           try clear p1178
           try clear p1179
           try clear p1180
           try clear p1181
           try clear p1182
           try clear p1183
           try clear p2
           try clear p6
           try clear q1
           try clear q11
           try clear q1178
           try clear q1179
           try clear q1180
           try clear q1181
           try clear q1182
           try clear q1183
           obtain ⟨kq, x21_63, rfl, HA, HJ63, HO_9, HO_19, HO_20, BK1167, HB⟩ := hcut
           obtain _ | kj63 := kq
           · exact absurd HA.out (by simp [l5LineDuality.j4])
           have H := HA.out
           clear HA
           simp only [l5LineDuality.j4] at H
           have H' := xA.mk H
           clear H
           go_wp2
           go_loopg [18, 19, 20, 22] kj63 (fun kq v18 v19 v20 v22 w' => ∃ (x18_6 : Bool) (x19_6 : List (List Int)) (x20_6 : List (List Int)) (x22_6 : Int), v18 = .bool x18_6 ∧ v22 = .int .i64 x22_6 ∧ xA (l5LineDuality.l1 kq l0 a2 t1168 (l0.length : Int) x18_6 x19_6 x20_6 x21_63 x22_6 t1164 t1165 = some r) ∧ xA (kq ≤ kj63) ∧ xA (Kd.R (Kd.int .i64) 3 w' w.heap.size (fun _ => True) v1170 t1168) ∧ xA (Kd.S (Kd.slice 3 (Kd.int .i64)) 26 w' w.heap.size (fun k_ => some k_ ≠ (v1170 : Value).ownBlock ∧ some k_ ≠ (v20 : Value).ownBlock) v19 x19_6) ∧ xA (Kd.S (Kd.slice 3 (Kd.int .i64)) 26 w' w.heap.size (fun k_ => some k_ ≠ (v1170 : Value).ownBlock ∧ some k_ ≠ (v19 : Value).ownBlock) v20 x20_6) ∧ xA (w'.heap[gb1167]? = some (.cells #[.int .i64 t1164, .int .i64 t1165] 37 (0, 0))) ∧ xA (Below w.heap.size w w'))
           case atStart => exact ⟨(false), (([] : List (List Int))), (([] : List (List Int))), (0), qf, qf, H', ⟨Nat.le_refl _⟩, ⟨qi HO_9.out⟩, ⟨qh HO_19.out⟩, ⟨qh HO_20.out⟩, ⟨qn BK1167.out⟩, ⟨qo GE1167.out⟩⟩
           case round =>
            as_aux_lemma =>
             clear H'
             try clear c1
             try clear p1
             try clear q1
             try clear hx1
             try clear p2
             try clear c3
             try clear c4
             try clear c5
             try clear c6
             try clear p6
             try clear c11
             try clear p11
             try clear q11
             try clear hx11
             try clear c32
             try clear c32b0
             try clear c33
             try clear c36
             try clear c37
             try clear c44
             try clear c44b0
             try clear c47
             try clear c47b0
             try clear c50
             try clear c50b0
             try clear c51
             try clear c51b0
             try clear c52
             try clear c52b0
             try clear c53
             try clear c53b0
             try clear c54
             try clear c54b0
             try clear c54b1
             try clear c59
             try clear c59b0
             try clear c59b1
             try clear c63
             try clear c63b0
             try clear p64
             try clear c65
             try clear hcz62_0
             try clear hcz62_1
             try clear hfz62_0
             try clear hfz62_1
             try clear hx1178_0
             try clear hx1179_0
             try clear hx1180_0
             try clear hx1181_0
             try clear hx1182_0
             try clear hx1183_0
             try clear p1
             try clear p11
             try clear p1178
             try clear p1179
             try clear p1180
             try clear p1181
             try clear p1182
             try clear p1183
             try clear p2
             try clear p6
             try clear p64
             try clear q1
             try clear q11
             try clear q1178
             try clear q1179
             try clear q1180
             try clear q1181
             try clear q1182
             try clear q1183
             obtain ⟨x18_6, x19_6, x20_6, x22_6, rfl, rfl, HA, HK6, HO_9, HO_19, HO_20, BK1167, HB⟩ := hrel
             obtain _ | k6 := gk
             · exact absurd HA.out (by simp [l5LineDuality.l1])
             have H := HA.out
             clear HA
             simp only [l5LineDuality.l1] at H
             obtain ⟨c66b0, H⟩ | ⟨c66b0, H⟩ := itd_or H
             rotate_left
             ·
              replace H := qw H
              obtain ⟨⟨t1210, t1211, t1212⟩, A1130, H⟩ := H
              replace H : ((line_Speed.f k6 x20_6).bind fun bt1214 => (if x18_6 = true then (if t1212 = 0 then (l5LineDuality.j9 k6 bt1214.2.2 x20_6 x21_63 (!(t1210 == t1164) || (!(t1211 == t1165))) t1164 t1165 bt1214.1 bt1214.2.1) else (l5LineDuality.j9 k6 bt1214.2.2 x20_6 x21_63 true t1164 t1165 bt1214.1 bt1214.2.1)) else (l5LineDuality.j9 k6 bt1214.2.2 x20_6 x21_63 true t1164 t1165 bt1214.1 bt1214.2.1))) = some r := H
              have A113 := xA.mk A1130
              clear A1130
              replace H := qw H
              obtain ⟨⟨t1214, t1215, t1216⟩, A1140, H⟩ := H
              replace H : (if x18_6 = true then (if t1212 = 0 then (l5LineDuality.j9 k6 t1216 x20_6 x21_63 (!(t1210 == t1164) || (!(t1211 == t1165))) t1164 t1165 t1214 t1215) else (l5LineDuality.j9 k6 t1216 x20_6 x21_63 true t1164 t1165 t1214 t1215)) else (l5LineDuality.j9 k6 t1216 x20_6 x21_63 true t1164 t1165 t1214 t1215)) = some r := H
              have A114 := xA.mk A1140
              clear A1140
              have HC115 := xA.mk H
              clear H
              obtain ⟨Ao116, co116, eo116⟩ := Kd.yD HO_19.out
              subst eo116
              go_upto_region 44 with (first | ((with_reducible refine xK (f := 22) rfl ?_); refine xS (some 263) rfl rfl Try.func22 jk rfl #[.slice Ao116 x19_6.length co116] rfl qc ?_; (with_reducible refine (line_Speed.calls k6 _ _ x19_6 t1210 t1211 t1212 _ ?side1 ?side2 A113.out).mono ?_); (case side1 => exact qm (Kd.xJ HO_19.out).2.2); (case side2 => exact (Kd.xJ HO_19.out).2.1); rintro e w117 ⟨rfl, hb⟩; refine ⟨_, rfl, ?_⟩; replace HO_9 := xA.mk (Kd.R_below (qi HO_9.out) hb); replace HO_19 := xA.mk (Kd.xX (qh HO_19.out) hb); replace HO_20 := xA.mk (Kd.xX (qh HO_20.out) hb); replace BK1167 := xA.mk (xO (g := gb1167) (o := .cells #[.int .i64 t1164, .int .i64 t1165] 37 (0, 0)) (qn BK1167.out) hb); replace HB := xA.mk (xF (qo GE1167.out) hb); (try clear hb); (try clear hb2); (try clear hk); (try clear hi)) | ((with_reducible refine xW (N := 26) rfl ?_); (try (refine gate_guard (by rfl) ?_; dsimp only)); refine yF ?hg (N := 26) ?hd (cs := #[.int .i64 0, .int .i64 0]) (t := 37) ?hr ?_; (case hd => rfl); (case hg => rfl); (case hr => first | (go_simp; done) | (go_simp; rfl)); intro gb1213 hg w118 hbox hb; have n0_ := xA.mk (Kd.R_below (qi HO_9.out) hb); have n1_ := xA.mk (Kd.xX (qh HO_19.out) hb); have n2_ := xA.mk (Kd.xX (qh HO_20.out) hb); have n3_ := xA.mk (xO (g := gb1167) (o := .cells #[.int .i64 t1164, .int .i64 t1165] 37 (0, 0)) (qn BK1167.out) hb); have n4_ := xA.mk (xF (qo GE1167.out) hb); have n5_ := xA.mk (hbox); have n6_ := xA.mk ((by rw [hg]; exact (xD (qo GE1167.out)) : w.heap.size ≤ gb1213)); have n7_ := xA.mk ((by rw [hg]; exact (xD (qo GE1167.out)) : w.heap.size ≤ gb1213)); have n8_ := xA.mk ((by rw [hg]; exact Nat.ne_of_lt (blk_lt (g := gb1167) (o := .cells #[.int .i64 t1164, .int .i64 t1165] 37 (0, 0)) (qn BK1167.out)) : gb1167 ≠ gb1213)); have n9_ := xA.mk ((by rw [hg]; exact Nat.ne_of_gt (blk_lt (g := gb1167) (o := .cells #[.int .i64 t1164, .int .i64 t1165] 37 (0, 0)) (qn BK1167.out)) : gb1213 ≠ gb1167)); clear HO_9; clear HO_19; clear HO_20; clear BK1167; clear HB; have HO_9 := n0_; have HO_19 := n1_; have HO_20 := n2_; have BK1167 := n3_; have HB := n4_; have BK1213 := n5_; have GW1213 := n6_; have GE1213 := n7_; have NB1167_1213 := n8_; have NB1213_1167 := n9_; clear n0_ n1_ n2_ n3_ n4_ n5_ n6_ n7_ n8_ n9_; clear hb hbox hg; have hnb119 := NB1213_1167.out; have hnc119 := NB1167_1213.out; have hcz120_0 : w118.cell? ⟨gb1213, 0, none⟩ = some (.int .i64 0) := (xB BK1213.out 0).trans rfl; have hcz120_1 : w118.cell? ⟨gb1213, 1, none⟩ = some (.int .i64 0) := (xB BK1213.out 1).trans rfl; have hfz120_0 := xC BK1213.out 0; have hfz120_1 := xC BK1213.out 1; obtain ⟨Ao121, co121, eo121⟩ := Kd.yD HO_20.out; subst eo121) | ((with_reducible refine xK (f := 22) rfl ?_); refine xS (some 268) rfl rfl Try.func22 jk rfl #[.slice Ao121 x20_6.length co121] rfl qc ?_; (with_reducible refine (line_Speed.calls k6 _ _ x20_6 t1214 t1215 t1216 _ ?side1 ?side2 A114.out).mono ?_); (case side1 => refine (Kd.xJ (e := 26) (base := w.heap.size) (ok := fun k_ => (some k_ ≠ (v1170 : Value).ownBlock ∧ some k_ ≠ (.slice Ao116 x19_6.length co116 : Value).ownBlock)) (n := x20_6.length) (c := co121) ?_).2.2; exact (by (with_reducible repeat (first | apply Kd.S_alloc | apply Kd.yA | apply Kd.xV)); exact (Kd.xQ (Kd.S_far (p := ⟨gb1213, 1, none⟩) (Kd.S_far (p := ⟨gb1213, 0, none⟩) (Kd.S_types HO_20.out BK1213.out (by decide)) (fun _ hk => hk.2) (.int .i64 t1210)) (fun _ hk => hk.2) (.int .i64 t1211)) (fun _ h_ => h_.1)))); (case side2 => exact (Kd.xJ HO_20.out).2.1); rintro e w122 ⟨rfl, hb⟩; refine ⟨_, rfl, ?_⟩; have n0_ := xA.mk (Kd.R_below (by (with_reducible repeat (first | apply Kd.R_alloc | apply Kd.R_drewN | apply Kd.R_drew)); exact (Kd.xZ (Kd.R_far (p := ⟨gb1213, 1, none⟩) (Kd.R_far (p := ⟨gb1213, 0, none⟩) (Kd.R_types HO_9.out BK1213.out (by decide)) (fun _ hk => hk.2) (.int .i64 t1210)) (fun _ hk => hk.2) (.int .i64 t1211)) (fun _ h_ => h_.1))) hb); have n1_ := xA.mk (Kd.xX (by (with_reducible repeat (first | apply Kd.S_alloc | apply Kd.yA | apply Kd.xV)); exact (Kd.xQ (Kd.S_far (p := ⟨gb1213, 1, none⟩) (Kd.S_far (p := ⟨gb1213, 0, none⟩) (Kd.S_types HO_19.out BK1213.out (by decide)) (fun _ hk => hk.2) (.int .i64 t1210)) (fun _ hk => hk.2) (.int .i64 t1211)) (fun _ h_ => h_.1))) hb); have n2_ := xA.mk (Kd.xX (by (with_reducible repeat (first | apply Kd.S_alloc | apply Kd.yA | apply Kd.xV)); exact (Kd.xQ (Kd.S_far (p := ⟨gb1213, 1, none⟩) (Kd.S_far (p := ⟨gb1213, 0, none⟩) (Kd.S_types HO_20.out BK1213.out (by decide)) (fun _ hk => hk.2) (.int .i64 t1210)) (fun _ hk => hk.2) (.int .i64 t1211)) (fun _ h_ => h_.1))) hb); have n3_ := xA.mk (xO (g := gb1167) (o := .cells #[.int .i64 t1164, .int .i64 t1165] 37 (0, 0)) (by (with_reducible repeat (first | refine xI ?_ _ | refine xH ?_ | refine xG ?_ _)); refine blk_far ?_ NB1167_1213.out _; (with_reducible repeat (first | refine xI ?_ _ | refine xH ?_ | refine xG ?_ _)); refine blk_far ?_ NB1167_1213.out _; (with_reducible repeat (first | refine xI ?_ _ | refine xH ?_ | refine xG ?_ _)); exact BK1167.out) hb); have n4_ := xA.mk (xO (g := gb1213) (o := .cells #[.int .i64 t1210, .int .i64 t1211] 37 (0, 0)) (by (with_reducible repeat (first | refine xI ?_ _ | refine xH ?_ | refine xG ?_ _)); refine xT (cs := #[.int .i64 t1210, .int .i64 0]) ?_ 1 _ rfl; (with_reducible repeat (first | refine xI ?_ _ | refine xH ?_ | refine xG ?_ _)); refine xT (cs := #[.int .i64 0, .int .i64 0]) ?_ 0 _ rfl; (with_reducible repeat (first | refine xI ?_ _ | refine xH ?_ | refine xG ?_ _)); exact BK1213.out) hb); have n5_ := xA.mk (xF (by repeat (first | (with_reducible first | exact HB.out | apply xR | apply xP | apply xN | refine xM ?_ GE1167.out | refine xM ?_ GE1213.out) | exact HB.out)) hb); clear HO_9; clear HO_19; clear HO_20; clear BK1167; clear BK1213; clear HB; have HO_9 := n0_; have HO_19 := n1_; have HO_20 := n2_; have BK1167 := n3_; have BK1213 := n4_; have HB := n5_; clear n0_ n1_ n2_ n3_ n4_ n5_; (try clear hb); (try clear hb2); (try clear hk); (try clear hi)) | ((with_reducible refine xW (N := 27) rfl ?_); (try (refine gate_guard (by rfl) ?_; dsimp only)); refine yF ?hg (N := 27) ?hd (cs := #[.int .i64 0, .int .i64 0]) (t := 37) ?hr ?_; (case hd => rfl); (case hg => rfl); (case hr => first | (go_simp; done) | (go_simp; rfl)); intro gb1217 hg w123 hbox hb; have n0_ := xA.mk (Kd.R_below (qi HO_9.out) hb); have n1_ := xA.mk (Kd.xX (qh HO_19.out) hb); have n2_ := xA.mk (Kd.xX (qh HO_20.out) hb); have n3_ := xA.mk (xO (g := gb1167) (o := .cells #[.int .i64 t1164, .int .i64 t1165] 37 (0, 0)) (qn BK1167.out) hb); have n4_ := xA.mk (xO (g := gb1213) (o := .cells #[.int .i64 t1210, .int .i64 t1211] 37 (0, 0)) (qn BK1213.out) hb); have n5_ := xA.mk (xF (by repeat (first | (with_reducible first | exact HB.out | apply xR | apply xP | apply xN | refine xM ?_ GE1167.out | refine xM ?_ GE1213.out) | exact HB.out)) hb); have n6_ := xA.mk (hbox); have n7_ := xA.mk ((by rw [hg]; exact (xD (by repeat (first | (with_reducible first | exact HB.out | apply xR | apply xP | apply xN | refine xM ?_ GE1167.out | refine xM ?_ GE1213.out) | exact HB.out))) : w.heap.size ≤ gb1217)); have n8_ := xA.mk ((by rw [hg]; exact (xD (by repeat (first | (with_reducible first | exact HB.out | apply xR | apply xP | apply xN | refine xM ?_ GE1167.out | refine xM ?_ GE1213.out) | exact HB.out))) : w.heap.size ≤ gb1217)); have n9_ := xA.mk ((by rw [hg]; exact Nat.ne_of_lt (blk_lt (g := gb1167) (o := .cells #[.int .i64 t1164, .int .i64 t1165] 37 (0, 0)) (qn BK1167.out)) : gb1167 ≠ gb1217)); have n10_ := xA.mk ((by rw [hg]; exact Nat.ne_of_gt (blk_lt (g := gb1167) (o := .cells #[.int .i64 t1164, .int .i64 t1165] 37 (0, 0)) (qn BK1167.out)) : gb1217 ≠ gb1167)); have n11_ := xA.mk ((by rw [hg]; exact Nat.ne_of_lt (blk_lt (g := gb1213) (o := .cells #[.int .i64 t1210, .int .i64 t1211] 37 (0, 0)) (qn BK1213.out)) : gb1213 ≠ gb1217)); have n12_ := xA.mk ((by rw [hg]; exact Nat.ne_of_gt (blk_lt (g := gb1213) (o := .cells #[.int .i64 t1210, .int .i64 t1211] 37 (0, 0)) (qn BK1213.out)) : gb1217 ≠ gb1213)); clear HO_9; clear HO_19; clear HO_20; clear BK1167; clear BK1213; clear HB; have HO_9 := n0_; have HO_19 := n1_; have HO_20 := n2_; have BK1167 := n3_; have BK1213 := n4_; have HB := n5_; have BK1217 := n6_; have GW1217 := n7_; have GE1217 := n8_; have NB1167_1217 := n9_; have NB1217_1167 := n10_; have NB1213_1217 := n11_; have NB1217_1213 := n12_; clear n0_ n1_ n2_ n3_ n4_ n5_ n6_ n7_ n8_ n9_ n10_ n11_ n12_; clear hb hbox hg; have hnb124 := NB1217_1167.out; have hnc124 := NB1167_1217.out; have hnb125 := NB1217_1213.out; have hnc125 := NB1213_1217.out; have hcz126_0 : w123.cell? ⟨gb1217, 0, none⟩ = some (.int .i64 0) := (xB BK1217.out 0).trans rfl; have hcz126_1 : w123.cell? ⟨gb1217, 1, none⟩ = some (.int .i64 0) := (xB BK1217.out 1).trans rfl; have hfz126_0 := xC BK1217.out 0; have hfz126_1 := xC BK1217.out 1))
              (try simp only [Act.put, qy, qz, ja])
              go_cut [281] (fun v281 wc => ∃ (kq : Nat) (x281_114 : Bool), v281 = .bool x281_114 ∧ xA (l5LineDuality.j9 kq t1216 x20_6 x21_63 x281_114 t1164 t1165 t1214 t1215 = some r) ∧ xA (kq ≤ k6) ∧ xA (Kd.S (Kd.slice 3 (Kd.int .i64)) 26 wc w.heap.size (fun _ => True) (.slice Ao121 x20_6.length co121) x20_6) ∧ xA (wc.heap[gb1167]? = some (.cells #[.int .i64 t1164, .int .i64 t1165] 37 (0, 0))) ∧ xA (wc.heap[gb1213]? = some (.cells #[.int .i64 t1210, .int .i64 t1211] 37 (0, 0))) ∧ xA (wc.heap[gb1217]? = some (.cells #[.int .i64 t1214, .int .i64 t1215] 37 (0, 0))) ∧ xA (Below w.heap.size w wc))
              case first =>
               as_aux_lemma =>
                have H := HC115.out
                clear HC115
                by_cases c127 : x18_6 = true
                rotate_left
                ·
                 replace c127 := Bool.eq_false_iff.mpr c127
                 subst c127
                 have H1 : (l5LineDuality.j9 k6 t1216 x20_6 x21_63 true t1164 t1165 t1214 t1215) = some r := by rw [if_neg (show ¬ (false = true) by decide)] at H; exact H
                 clear H
                 have H := H1
                 clear H1
                 have H' := xA.mk H
                 clear H
                 go_wp2
                 go_meet
                 case rel => exact ⟨_, (true), qf, H', ⟨by have := HJ8.out; have := HJ17.out; have := HK3.out; have := HJ59.out; have := HJ63.out; have := HK6.out; first | omega | exact Nat.le_refl _⟩, ⟨by (with_reducible repeat (first | apply Kd.S_alloc | apply Kd.yA | apply Kd.xV)); exact Kd.xQ (Kd.S_far (p := ⟨gb1217, 1, none⟩) (Kd.S_far (p := ⟨gb1217, 0, none⟩) (Kd.S_types HO_20.out BK1217.out (by decide)) (fun _ hk => hk.2) (.int .i64 t1214)) (fun _ hk => hk.2) (.int .i64 t1215)) (fun _ hk => trivial)⟩, ⟨by (with_reducible repeat (first | refine xI ?_ _ | refine xH ?_ | refine xG ?_ _)); refine blk_far ?_ NB1167_1217.out _; (with_reducible repeat (first | refine xI ?_ _ | refine xH ?_ | refine xG ?_ _)); refine blk_far ?_ NB1167_1217.out _; (with_reducible repeat (first | refine xI ?_ _ | refine xH ?_ | refine xG ?_ _)); exact BK1167.out⟩, ⟨by (with_reducible repeat (first | refine xI ?_ _ | refine xH ?_ | refine xG ?_ _)); refine blk_far ?_ NB1213_1217.out _; (with_reducible repeat (first | refine xI ?_ _ | refine xH ?_ | refine xG ?_ _)); refine blk_far ?_ NB1213_1217.out _; (with_reducible repeat (first | refine xI ?_ _ | refine xH ?_ | refine xG ?_ _)); exact BK1213.out⟩, ⟨by (with_reducible repeat (first | refine xI ?_ _ | refine xH ?_ | refine xG ?_ _)); refine xT (cs := #[.int .i64 t1214, .int .i64 0]) ?_ 1 _ rfl; (with_reducible repeat (first | refine xI ?_ _ | refine xH ?_ | refine xG ?_ _)); refine xT (cs := #[.int .i64 0, .int .i64 0]) ?_ 0 _ rfl; (with_reducible repeat (first | refine xI ?_ _ | refine xH ?_ | refine xG ?_ _)); exact BK1217.out⟩, ⟨by repeat (first | (with_reducible first | exact HB.out | apply xR | apply xP | apply xN | refine xM ?_ GE1167.out | refine xM ?_ GE1213.out | refine xM ?_ GE1217.out) | exact HB.out)⟩⟩
                subst c127
                have H1 : (if t1212 = 0 then (l5LineDuality.j9 k6 t1216 x20_6 x21_63 (!(t1210 == t1164) || (!(t1211 == t1165))) t1164 t1165 t1214 t1215) else (l5LineDuality.j9 k6 t1216 x20_6 x21_63 true t1164 t1165 t1214 t1215)) = some r := by rw [if_pos rfl] at H; exact H
                clear H
                have H := H1
                clear H1
                obtain ⟨⟨c128b0, c128b1⟩, H⟩ | ⟨c128, ⟨c128b0, c128b1⟩, H⟩ := itn_or H
                rotate_left
                ·
                 (first | rw [c128b0] | (simp only [i64_w, i32_w]; rw [c128b0]) | skip)
                 have H' := xA.mk H
                 clear H
                 go_wp2
                 go_meet
                 case rel => exact ⟨_, (true), qf, H', ⟨by have := HJ8.out; have := HJ17.out; have := HK3.out; have := HJ59.out; have := HJ63.out; have := HK6.out; first | omega | exact Nat.le_refl _⟩, ⟨by (with_reducible repeat (first | apply Kd.S_alloc | apply Kd.yA | apply Kd.xV)); exact Kd.xQ (Kd.S_far (p := ⟨gb1217, 1, none⟩) (Kd.S_far (p := ⟨gb1217, 0, none⟩) (Kd.S_types HO_20.out BK1217.out (by decide)) (fun _ hk => hk.2) (.int .i64 t1214)) (fun _ hk => hk.2) (.int .i64 t1215)) (fun _ hk => trivial)⟩, ⟨by (with_reducible repeat (first | refine xI ?_ _ | refine xH ?_ | refine xG ?_ _)); refine blk_far ?_ NB1167_1217.out _; (with_reducible repeat (first | refine xI ?_ _ | refine xH ?_ | refine xG ?_ _)); refine blk_far ?_ NB1167_1217.out _; (with_reducible repeat (first | refine xI ?_ _ | refine xH ?_ | refine xG ?_ _)); exact BK1167.out⟩, ⟨by (with_reducible repeat (first | refine xI ?_ _ | refine xH ?_ | refine xG ?_ _)); refine blk_far ?_ NB1213_1217.out _; (with_reducible repeat (first | refine xI ?_ _ | refine xH ?_ | refine xG ?_ _)); refine blk_far ?_ NB1213_1217.out _; (with_reducible repeat (first | refine xI ?_ _ | refine xH ?_ | refine xG ?_ _)); exact BK1213.out⟩, ⟨by (with_reducible repeat (first | refine xI ?_ _ | refine xH ?_ | refine xG ?_ _)); refine xT (cs := #[.int .i64 t1214, .int .i64 0]) ?_ 1 _ rfl; (with_reducible repeat (first | refine xI ?_ _ | refine xH ?_ | refine xG ?_ _)); refine xT (cs := #[.int .i64 0, .int .i64 0]) ?_ 0 _ rfl; (with_reducible repeat (first | refine xI ?_ _ | refine xH ?_ | refine xG ?_ _)); exact BK1217.out⟩, ⟨by repeat (first | (with_reducible first | exact HB.out | apply xR | apply xP | apply xN | refine xM ?_ GE1167.out | refine xM ?_ GE1213.out | refine xM ?_ GE1217.out) | exact HB.out)⟩⟩
                (first | rw [c128b0] | (simp only [i64_w, i32_w]; rw [c128b0]) | skip)
                have H' := xA.mk H
                clear H
                have hnb129 := NB1213_1167.out
                have hnc129 := NB1167_1213.out
                have hnb130 := NB1213_1217.out
                have hnc130 := NB1217_1213.out
                have hcz131_0 : w123.cell? ⟨gb1213, 0, none⟩ = some (.int .i64 t1210) := (xB BK1213.out 0).trans rfl
                have hcz131_1 : w123.cell? ⟨gb1213, 1, none⟩ = some (.int .i64 t1211) := (xB BK1213.out 1).trans rfl
                have hfz131_0 := xC BK1213.out 0
                have hfz131_1 := xC BK1213.out 1
                have hnb132 := NB1167_1217.out
                have hnc132 := NB1217_1167.out
                have hcz133_0 : w123.cell? ⟨gb1167, 0, none⟩ = some (.int .i64 t1164) := (xB BK1167.out 0).trans rfl
                have hcz133_1 : w123.cell? ⟨gb1167, 1, none⟩ = some (.int .i64 t1165) := (xB BK1167.out 1).trans rfl
                have hfz133_0 := xC BK1167.out 0
                have hfz133_1 := xC BK1167.out 1
                go_wp2
                go_meet
                case rel => exact ⟨_, ((!(t1210 == t1164) || (!(t1211 == t1165)))), qf, H', ⟨by have := HJ8.out; have := HJ17.out; have := HK3.out; have := HJ59.out; have := HJ63.out; have := HK6.out; first | omega | exact Nat.le_refl _⟩, ⟨by (with_reducible repeat (first | apply Kd.S_alloc | apply Kd.yA | apply Kd.xV)); exact Kd.xQ (Kd.S_far (p := ⟨gb1217, 1, none⟩) (Kd.S_far (p := ⟨gb1217, 0, none⟩) (Kd.S_types HO_20.out BK1217.out (by decide)) (fun _ hk => hk.2) (.int .i64 t1214)) (fun _ hk => hk.2) (.int .i64 t1215)) (fun _ hk => trivial)⟩, ⟨by (with_reducible repeat (first | refine xI ?_ _ | refine xH ?_ | refine xG ?_ _)); refine blk_far ?_ NB1167_1217.out _; (with_reducible repeat (first | refine xI ?_ _ | refine xH ?_ | refine xG ?_ _)); refine blk_far ?_ NB1167_1217.out _; (with_reducible repeat (first | refine xI ?_ _ | refine xH ?_ | refine xG ?_ _)); exact BK1167.out⟩, ⟨by (with_reducible repeat (first | refine xI ?_ _ | refine xH ?_ | refine xG ?_ _)); refine blk_far ?_ NB1213_1217.out _; (with_reducible repeat (first | refine xI ?_ _ | refine xH ?_ | refine xG ?_ _)); refine blk_far ?_ NB1213_1217.out _; (with_reducible repeat (first | refine xI ?_ _ | refine xH ?_ | refine xG ?_ _)); exact BK1213.out⟩, ⟨by (with_reducible repeat (first | refine xI ?_ _ | refine xH ?_ | refine xG ?_ _)); refine xT (cs := #[.int .i64 t1214, .int .i64 0]) ?_ 1 _ rfl; (with_reducible repeat (first | refine xI ?_ _ | refine xH ?_ | refine xG ?_ _)); refine xT (cs := #[.int .i64 0, .int .i64 0]) ?_ 0 _ rfl; (with_reducible repeat (first | refine xI ?_ _ | refine xH ?_ | refine xG ?_ _)); exact BK1217.out⟩, ⟨by repeat (first | (with_reducible first | exact HB.out | apply xR | apply xP | apply xN | refine xM ?_ GE1167.out | refine xM ?_ GE1213.out | refine xM ?_ GE1217.out) | exact HB.out)⟩⟩
              case rest =>
               as_aux_lemma =>
                clear HC115
                try clear c1
                try clear p1
                try clear q1
                try clear hx1
                try clear c2
                try clear p2
                try clear c4
                try clear c6
                try clear p6
                try clear c7
                try clear c8
                try clear c9
                try clear c10
                try clear c11
                try clear p11
                try clear q11
                try clear hx11
                try clear c12
                try clear p12
                try clear q12
                try clear hx12
                try clear c13
                try clear c22
                try clear c44
                try clear p64
                try clear c66
                try clear c66b0
                try clear c72
                try clear c72b0
                try clear c74
                try clear c75
                try clear c76
                try clear c77
                try clear c82
                try clear c83
                try clear c84
                try clear c84b0
                try clear c89
                try clear c90
                try clear c90b0
                try clear c91
                try clear c91b0
                try clear c92
                try clear c92b0
                try clear c93
                try clear c93b0
                try clear c94
                try clear c95
                try clear c95b0
                try clear c95b1
                try clear c95b2
                try clear c97
                try clear c97b0
                try clear c98
                try clear c98b0
                try clear c100
                try clear c100b0
                try clear c101
                try clear c101b0
                try clear c103
                try clear c107
                try clear c108
                try clear c119
                try clear p119
                try clear q119
                try clear hx119
                try clear c120
                try clear p120
                try clear q120
                try clear hx120
                try clear c124
                try clear c125
                try clear c127
                try clear c128
                try clear c128b0
                try clear c128b1
                try clear c129
                try clear c130
                try clear c132
                try clear hcz120_0
                try clear hcz120_1
                try clear hcz126_0
                try clear hcz126_1
                try clear hcz131_0
                try clear hcz131_1
                try clear hcz133_0
                try clear hcz133_1
                try clear hfz120_0
                try clear hfz120_1
                try clear hfz126_0
                try clear hfz126_1
                try clear hfz131_0
                try clear hfz131_1
                try clear hfz133_0
                try clear hfz133_1
                try clear hx1191_0
                try clear hx1192_0
                try clear hx1194_0
                try clear hx1195_0
                try clear hx1196_0
                try clear hx1197_0
                try clear hx1198_0
                try clear hx1199_0
                try clear hx1200_0
                try clear hx1204_0
                try clear hx1205_0
                try clear p1
                try clear p11
                try clear p1191
                try clear p1192
                try clear p1194
                try clear p1195
                try clear p1196
                try clear p1197
                try clear p1198
                try clear p1199
                try clear p1200
                try clear p1204
                try clear p1205
                try clear p2
                try clear p6
                try clear p64
                try clear q1
                try clear q11
                try clear q1191
                try clear q1192
                try clear q1194
                try clear q1195
                try clear q1196
                try clear q1197
                try clear q1198
                try clear q1199
                try clear q1200
                try clear q1204
                try clear q1205
                obtain ⟨kq, x281_114, rfl, HA, HJ114, HO_20, BK1167, BK1213, BK1217, HB⟩ := hcut
                obtain _ | kj114 := kq
                · exact absurd HA.out (by simp [l5LineDuality.j9])
                have H := HA.out
                clear HA
                simp only [l5LineDuality.j9] at H
                by_cases c134 : x281_114 = true
                ·
                 subst c134
                 have H1 : (some false) = some r := by rw [if_pos rfl] at H; exact H
                 clear H
                 have H := H1
                 clear H1
                 exact absurd (H.trans (congrArg some hr_.out)) (by simp)
                replace c134 := Bool.eq_false_iff.mpr c134
                subst c134
                have H1 : (if t1216 = 2 then ((l5within.f kj114 x20_6).bind fun t1218 => (if t1218 = true then (if t1216 = 0 then (if t1215 = t1165 then (if t1214 = (wrap64 (t1164 + (wrap64 (x21_63 * t1165)))) then ((l5alive.f kj114).bind fun t1219 => (some t1219)) else (some false)) else (some false)) else (some false)) else ((l5alive.f kj114).bind fun t1220 => (some t1220)))) else (if t1216 = 0 then (if t1215 = t1165 then (if t1214 = (wrap64 (t1164 + (wrap64 (x21_63 * t1165)))) then ((l5alive.f kj114).bind fun t1221 => (some t1221)) else (some false)) else (some false)) else (some false))) = some r := by rw [if_neg (show ¬ (false = true) by decide)] at H; exact H
                clear H
                have H := H1
                clear H1
                obtain ⟨⟨c135b0, c135b1⟩, H⟩ | ⟨c135, ⟨c135b0, c135b1⟩, H⟩ := itn_or H
                rotate_left
                ·
                 obtain ⟨⟨c160b0, c160b1⟩, H⟩ | ⟨c160, ⟨c160b0, c160b1⟩, H⟩ := itn_or H
                 rotate_left
                 ·
                  exact absurd (H.trans (congrArg some hr_.out)) (by simp)
                 obtain ⟨⟨c161b0, c161b1⟩, H⟩ | ⟨c161, ⟨c161b0, c161b1⟩, H⟩ := itn_or H
                 rotate_left
                 ·
                  exact absurd (H.trans (congrArg some hr_.out)) (by simp)
                 obtain ⟨⟨c162b0, c162b1⟩, H⟩ | ⟨c162, ⟨c162b0, c162b1⟩, H⟩ := itn_or H
                 rotate_left
                 ·
                  exact absurd (H.trans (congrArg some hr_.out)) (by simp)
                 replace H := qw H
                 obtain ⟨t1221, A1630, H⟩ := H
                 replace H : (some t1221) = some r := H
                 have A163 := xA.mk A1630
                 clear A1630
                 obtain rfl := qx H
                 have hnb164 := NB1217_1167.out
                 have hnc164 := NB1167_1217.out
                 have hnb165 := NB1217_1213.out
                 have hnc165 := NB1213_1217.out
                 have hcz166_0 : wc.cell? ⟨gb1217, 0, none⟩ = some (.int .i64 t1214) := (xB BK1217.out 0).trans rfl
                 have hcz166_1 : wc.cell? ⟨gb1217, 1, none⟩ = some (.int .i64 t1215) := (xB BK1217.out 1).trans rfl
                 have hfz166_0 := xC BK1217.out 0
                 have hfz166_1 := xC BK1217.out 1
                 have hnb167 := NB1167_1213.out
                 have hnc167 := NB1213_1167.out
                 have hcz168_0 : wc.cell? ⟨gb1167, 0, none⟩ = some (.int .i64 t1164) := (xB BK1167.out 0).trans rfl
                 have hcz168_1 : wc.cell? ⟨gb1167, 1, none⟩ = some (.int .i64 t1165) := (xB BK1167.out 1).trans rfl
                 have hfz168_0 := xC BK1167.out 0
                 have hfz168_1 := xC BK1167.out 1
                 go_wp2_with (first | (go_at_call 13; (with_reducible refine (l5alive.calls kj114  t1221 _ A163.out).mono ?_); rintro e w169 ⟨rfl, hb⟩; replace HO_20 := xA.mk (Kd.xX (qh HO_20.out) hb); replace BK1167 := xA.mk (xO (g := gb1167) (o := .cells #[.int .i64 t1164, .int .i64 t1165] 37 (0, 0)) (qn BK1167.out) hb); replace BK1213 := xA.mk (xO (g := gb1213) (o := .cells #[.int .i64 t1210, .int .i64 t1211] 37 (0, 0)) (qn BK1213.out) hb); replace BK1217 := xA.mk (xO (g := gb1217) (o := .cells #[.int .i64 t1214, .int .i64 t1215] 37 (0, 0)) (qn BK1217.out) hb); replace HB := xA.mk (xF (by repeat (first | (with_reducible first | exact HB.out | apply xR | apply xP | apply xN | refine xM ?_ GE1167.out | refine xM ?_ GE1213.out | refine xM ?_ GE1217.out) | exact HB.out)) hb); (try clear hb); (try clear hb2); (try clear hk); (try clear hi)))
                 go_ret
                 exact ⟨qg, by repeat (first | (with_reducible first | exact HB.out | apply xR | apply xP | apply xN | refine xM ?_ GE1167.out | refine xM ?_ GE1213.out | refine xM ?_ GE1217.out) | exact HB.out)⟩
                replace H := qw H
                obtain ⟨t1218, A1360, H⟩ := H
                replace H : (if t1218 = true then (if t1216 = 0 then (if t1215 = t1165 then (if t1214 = (wrap64 (t1164 + (wrap64 (x21_63 * t1165)))) then ((l5alive.f kj114).bind fun t1219 => (some t1219)) else (some false)) else (some false)) else (some false)) else ((l5alive.f kj114).bind fun t1220 => (some t1220))) = some r := H
                have A136 := xA.mk A1360
                clear A1360
                by_cases c137 : t1218 = true
                rotate_left
                ·
                 replace c137 := Bool.eq_false_iff.mpr c137
                 subst c137
                 have H1 : ((l5alive.f kj114).bind fun t1220 => (some t1220)) = some r := by rw [if_neg (show ¬ (false = true) by decide)] at H; exact H
                 clear H
                 have H := H1
                 clear H1
                 replace H := qw H
                 obtain ⟨t1220, A1580, H⟩ := H
                 replace H : (some t1220) = some r := H
                 have A158 := xA.mk A1580
                 clear A1580
                 obtain rfl := qx H
                 go_wp2_with (first | (go_at_call 43; (with_reducible refine (l5within.calls kj114 _ _ x20_6 false _ ?side1 ?side2 A136.out).mono ?_); (case side1 => exact qm (Kd.xJ HO_20.out).2.2); (case side2 => exact (Kd.xJ HO_20.out).2.1); rintro e w' ⟨rfl, ⟨nd, rfl⟩⟩) | (go_at_call 13; (with_reducible refine (l5alive.calls kj114  t1220 _ A158.out).mono ?_); rintro e w159 ⟨rfl, hb⟩; replace HO_20 := xA.mk (Kd.xX (qh HO_20.out) hb); replace BK1167 := xA.mk (xO (g := gb1167) (o := .cells #[.int .i64 t1164, .int .i64 t1165] 37 (0, 0)) (qn BK1167.out) hb); replace BK1213 := xA.mk (xO (g := gb1213) (o := .cells #[.int .i64 t1210, .int .i64 t1211] 37 (0, 0)) (qn BK1213.out) hb); replace BK1217 := xA.mk (xO (g := gb1217) (o := .cells #[.int .i64 t1214, .int .i64 t1215] 37 (0, 0)) (qn BK1217.out) hb); replace HB := xA.mk (xF (by repeat (first | (with_reducible first | exact HB.out | apply xR | apply xP | apply xN | refine xM ?_ GE1167.out | refine xM ?_ GE1213.out | refine xM ?_ GE1217.out) | exact HB.out)) hb); (try clear hb); (try clear hb2); (try clear hk); (try clear hi)))
                 go_ret
                 exact ⟨qg, by repeat (first | (with_reducible first | exact HB.out | apply xR | apply xP | apply xN | refine xM ?_ GE1167.out | refine xM ?_ GE1213.out | refine xM ?_ GE1217.out) | exact HB.out)⟩
                subst c137
                have H1 : (if t1216 = 0 then (if t1215 = t1165 then (if t1214 = (wrap64 (t1164 + (wrap64 (x21_63 * t1165)))) then ((l5alive.f kj114).bind fun t1219 => (some t1219)) else (some false)) else (some false)) else (some false)) = some r := by rw [if_pos rfl] at H; exact H
                clear H
                have H := H1
                clear H1
                obtain ⟨⟨c138b0, c138b1⟩, H⟩ | ⟨c138, ⟨c138b0, c138b1⟩, H⟩ := itn_or H
                rotate_left
                ·
                 exact absurd (H.trans (congrArg some hr_.out)) (by simp)
                obtain ⟨⟨c139b0, c139b1⟩, H⟩ | ⟨c139, ⟨c139b0, c139b1⟩, H⟩ := itn_or H
                rotate_left
                ·
                 exact absurd (H.trans (congrArg some hr_.out)) (by simp)
                obtain ⟨⟨c140b0, c140b1⟩, H⟩ | ⟨c140, ⟨c140b0, c140b1⟩, H⟩ := itn_or H
                rotate_left
                ·
                 exact absurd (H.trans (congrArg some hr_.out)) (by simp)
                replace H := qw H
                obtain ⟨t1219, A1410, H⟩ := H
                replace H : (some t1219) = some r := H
                have A141 := xA.mk A1410
                clear A1410
                obtain rfl := qx H
                go_wp2_with (first | (go_at_call 43; (with_reducible refine (l5within.calls kj114 _ _ x20_6 true _ ?side1 ?side2 A136.out).mono ?_); (case side1 => exact qm (Kd.xJ HO_20.out).2.2); (case side2 => exact (Kd.xJ HO_20.out).2.1); rintro e w' ⟨rfl, ⟨nd, rfl⟩⟩; have hnb142 := NB1217_1167.out; have hnc142 := NB1167_1217.out; have hnb143 := NB1217_1213.out; have hnc143 := NB1213_1217.out; have hcz144_0 : wc.cell? ⟨gb1217, 0, none⟩ = some (.int .i64 t1214) := (xB BK1217.out 0).trans rfl; have hcz144_1 : wc.cell? ⟨gb1217, 1, none⟩ = some (.int .i64 t1215) := (xB BK1217.out 1).trans rfl; have hfz144_0 := xC BK1217.out 0; have hfz144_1 := xC BK1217.out 1; have hnb145 := NB1167_1213.out; have hnc145 := NB1213_1167.out; have hcz146_0 : wc.cell? ⟨gb1167, 0, none⟩ = some (.int .i64 t1164) := (xB BK1167.out 0).trans rfl; have hcz146_1 : wc.cell? ⟨gb1167, 1, none⟩ = some (.int .i64 t1165) := (xB BK1167.out 1).trans rfl; have hfz146_0 := xC BK1167.out 0; have hfz146_1 := xC BK1167.out 1) | (go_at_call 13; (with_reducible refine (l5alive.calls kj114  t1219 _ A141.out).mono ?_); rintro e w147 ⟨rfl, hb⟩; replace HO_20 := xA.mk (Kd.xX (qh HO_20.out) hb); replace BK1167 := xA.mk (xO (g := gb1167) (o := .cells #[.int .i64 t1164, .int .i64 t1165] 37 (0, 0)) (qn BK1167.out) hb); replace BK1213 := xA.mk (xO (g := gb1213) (o := .cells #[.int .i64 t1210, .int .i64 t1211] 37 (0, 0)) (qn BK1213.out) hb); replace BK1217 := xA.mk (xO (g := gb1217) (o := .cells #[.int .i64 t1214, .int .i64 t1215] 37 (0, 0)) (qn BK1217.out) hb); replace HB := xA.mk (xF (by repeat (first | (with_reducible first | exact HB.out | apply xR | apply xP | apply xN | refine xM ?_ GE1167.out | refine xM ?_ GE1213.out | refine xM ?_ GE1217.out) | exact HB.out)) hb); (try clear hb); (try clear hb2); (try clear hk); (try clear hi)))
                go_ret
                exact ⟨qg, by repeat (first | (with_reducible first | exact HB.out | apply xR | apply xP | apply xN | refine xM ?_ GE1167.out | refine xM ?_ GE1213.out | refine xM ?_ GE1217.out) | exact HB.out)⟩
             have HC67 := xA.mk H
             clear H
             go_upto_region 31 with (fail)
             go_cut [18] (fun v18 wc => ∃ (kq : Nat) (x18_66 : Bool), v18 = .bool x18_66 ∧ xA (l5LineDuality.j6 kq l0 a2 t1168 (l0.length : Int) x18_66 x19_6 x20_6 x21_63 x22_6 t1164 t1165 = some r) ∧ xA (kq ≤ k6) ∧ xA (Kd.R (Kd.int .i64) 3 wc w.heap.size (fun _ => True) v1170 t1168) ∧ xA (Kd.S (Kd.slice 3 (Kd.int .i64)) 26 wc w.heap.size (fun k_ => some k_ ≠ (v1170 : Value).ownBlock ∧ some k_ ≠ (u20 : Value).ownBlock) u19 x19_6) ∧ xA (Kd.S (Kd.slice 3 (Kd.int .i64)) 26 wc w.heap.size (fun k_ => some k_ ≠ (v1170 : Value).ownBlock ∧ some k_ ≠ (u19 : Value).ownBlock) u20 x20_6) ∧ xA (wc.heap[gb1167]? = some (.cells #[.int .i64 t1164, .int .i64 t1165] 37 (0, 0))) ∧ xA (Below w.heap.size w wc))
             case first =>
              as_aux_lemma =>
               have H := HC67.out
               clear HC67
               by_cases c68 : x18_6 = true
               ·
                subst c68
                have H1 : (l5LineDuality.j6 k6 l0 a2 t1168 (l0.length : Int) true x19_6 x20_6 x21_63 x22_6 t1164 t1165) = some r := by rw [if_pos rfl] at H; exact H
                clear H
                have H := H1
                clear H1
                have H' := xA.mk H
                clear H
                go_wp2
                go_meet
                case rel => exact ⟨_, (true), qf, H', ⟨by have := HJ8.out; have := HJ17.out; have := HK3.out; have := HJ59.out; have := HJ63.out; have := HK6.out; first | omega | exact Nat.le_refl _⟩, ⟨qi HO_9.out⟩, ⟨qh HO_19.out⟩, ⟨qh HO_20.out⟩, ⟨qn BK1167.out⟩, ⟨qo GE1167.out⟩⟩
               replace c68 := Bool.eq_false_iff.mpr c68
               subst c68
               have H1 : (if 0 ≤ x22_6 then (if x22_6 < (t1168.length : Int) then (l5LineDuality.j6 k6 l0 a2 t1168 (l0.length : Int) ((rd t1168 x22_6) == 0) x19_6 x20_6 x21_63 x22_6 t1164 t1165) else (none)) else (none)) = some r := by rw [if_neg (show ¬ (false = true) by decide)] at H; exact H
               clear H
               have H := H1
               clear H1
               obtain ⟨c69b0, H⟩ := xL H
               (first | rw [c69b0] | (simp only [i64_w, i32_w]; rw [c69b0]) | skip)
               obtain ⟨c70b0, H⟩ := xL H
               have H' := xA.mk H
               clear H
               obtain ⟨Ao71, co71, eo71⟩ := Kd.R_slice HO_9.out
               subst eo71
               have p1184 : 0 ≤ (x22_6 : Int) := qr
               have q1184 : x22_6 < (t1168.length : Int) := qr
               obtain ⟨ad1184, e1184, hx1184_0⟩ := Kd.xU (Kd.yE HO_9.out).2.2 x22_6 p1184 q1184
               cases e1184
               replace p1184 := eq_true p1184
               replace q1184 := eq_true q1184
               go_wp2
               go_meet
               case rel => exact ⟨_, (((rd t1168 x22_6) == 0)), qf, H', ⟨by have := HJ8.out; have := HJ17.out; have := HK3.out; have := HJ59.out; have := HJ63.out; have := HK6.out; first | omega | exact Nat.le_refl _⟩, ⟨qi HO_9.out⟩, ⟨qh HO_19.out⟩, ⟨qh HO_20.out⟩, ⟨qn BK1167.out⟩, ⟨qo GE1167.out⟩⟩
             case rest =>
              as_aux_lemma =>
               clear HC67
               try clear c1
               try clear p1
               try clear q1
               try clear hx1
               try clear p2
               try clear c3
               try clear c4
               try clear c5
               try clear c6
               try clear p6
               try clear c7
               try clear c11
               try clear p11
               try clear q11
               try clear hx11
               try clear c32
               try clear c32b0
               try clear c33
               try clear c36
               try clear c37
               try clear c44
               try clear c44b0
               try clear c47
               try clear c47b0
               try clear c50
               try clear c50b0
               try clear c51
               try clear c51b0
               try clear c52
               try clear c52b0
               try clear c53
               try clear c53b0
               try clear c54
               try clear c54b0
               try clear c54b1
               try clear c59
               try clear c59b0
               try clear c59b1
               try clear c63
               try clear c63b0
               try clear p64
               try clear c65
               try clear c66
               try clear c66b0
               try clear c68
               try clear c69
               try clear c69b0
               try clear c70
               try clear c70b0
               try clear hcz62_0
               try clear hcz62_1
               try clear hfz62_0
               try clear hfz62_1
               try clear hx1178_0
               try clear hx1179_0
               try clear hx1180_0
               try clear hx1181_0
               try clear hx1182_0
               try clear hx1183_0
               try clear hx1184_0
               try clear p1
               try clear p11
               try clear p1178
               try clear p1179
               try clear p1180
               try clear p1181
               try clear p1182
               try clear p1183
               try clear p1184
               try clear p2
               try clear p6
               try clear p64
               try clear q1
               try clear q11
               try clear q1178
               try clear q1179
               try clear q1180
               try clear q1181
               try clear q1182
               try clear q1183
               try clear q1184
               obtain ⟨kq, x18_66, rfl, HA, HJ66, HO_9, HO_19, HO_20, BK1167, HB⟩ := hcut
               obtain _ | kj66 := kq
               · exact absurd HA.out (by simp [l5LineDuality.j6])
               have H := HA.out
               clear HA
               simp only [l5LineDuality.j6] at H
               have H' := xA.mk H
               clear H
               go_wp2
               go_loopg [23, 24, 25] kj66 (fun kq v23 v24 v25 w' => ∃ (x23_8 : List Int) (x24_8 : List Int) (x25_8 : Int), v25 = .int .i64 x25_8 ∧ xA (l5LineDuality.l2 kq l0 a2 t1168 (l0.length : Int) x18_66 x19_6 x20_6 x21_63 x22_6 x23_8 x24_8 x25_8 t1164 t1165 = some r) ∧ xA (kq ≤ kj66) ∧ xA (Kd.R (Kd.int .i64) 3 w' w.heap.size (fun k_ => some k_ ≠ (v23 : Value).ownBlock ∧ some k_ ≠ (v24 : Value).ownBlock) v1170 t1168) ∧ xA (Kd.S (Kd.slice 3 (Kd.int .i64)) 26 w' w.heap.size (fun k_ => some k_ ≠ (v1170 : Value).ownBlock ∧ some k_ ≠ (u20 : Value).ownBlock ∧ some k_ ≠ (v23 : Value).ownBlock ∧ some k_ ≠ (v24 : Value).ownBlock) u19 x19_6) ∧ xA (Kd.S (Kd.slice 3 (Kd.int .i64)) 26 w' w.heap.size (fun k_ => some k_ ≠ (v1170 : Value).ownBlock ∧ some k_ ≠ (u19 : Value).ownBlock ∧ some k_ ≠ (v23 : Value).ownBlock ∧ some k_ ≠ (v24 : Value).ownBlock) u20 x20_6) ∧ xA (Kd.R (Kd.int .i64) 3 w' w.heap.size (fun k_ => some k_ ≠ (v1170 : Value).ownBlock ∧ some k_ ≠ (v24 : Value).ownBlock) v23 x23_8) ∧ xA (Kd.R (Kd.int .i64) 3 w' w.heap.size (fun k_ => some k_ ≠ (v1170 : Value).ownBlock ∧ some k_ ≠ (v23 : Value).ownBlock) v24 x24_8) ∧ xA (w'.heap[gb1167]? = some (.cells #[.int .i64 t1164, .int .i64 t1165] 37 (0, 0))) ∧ xA (Below w.heap.size w w'))
               case atStart => exact ⟨(([] : List Int)), (([] : List Int)), (0), qf, H', ⟨Nat.le_refl _⟩, ⟨by (with_reducible repeat (first | apply Kd.R_alloc | apply Kd.R_drewN | apply Kd.R_drew)); exact Kd.xZ HO_9.out (fun _ hk => ⟨(by simp [Value.ownBlock]), (by simp [Value.ownBlock])⟩)⟩, ⟨by (with_reducible repeat (first | apply Kd.S_alloc | apply Kd.yA | apply Kd.xV)); exact Kd.xQ HO_19.out (fun _ hk => ⟨hk.1, ⟨hk.2, ⟨(by simp [Value.ownBlock]), (by simp [Value.ownBlock])⟩⟩⟩)⟩, ⟨by (with_reducible repeat (first | apply Kd.S_alloc | apply Kd.yA | apply Kd.xV)); exact Kd.xQ HO_20.out (fun _ hk => ⟨hk.1, ⟨hk.2, ⟨(by simp [Value.ownBlock]), (by simp [Value.ownBlock])⟩⟩⟩)⟩, ⟨by first | exact Kd.R_nil _ _ _ _ _ | exact Kd.N_nil _ _ _ _ _ | exact Kd.V_nil _ _ _ _ _ | exact Kd.Q_nil _ _ _ _ _ | exact Kd.S_nil _ _ _ _ _⟩, ⟨by first | exact Kd.R_nil _ _ _ _ _ | exact Kd.N_nil _ _ _ _ _ | exact Kd.V_nil _ _ _ _ _ | exact Kd.Q_nil _ _ _ _ _ | exact Kd.S_nil _ _ _ _ _⟩, ⟨qn BK1167.out⟩, ⟨qo GE1167.out⟩⟩
               case round =>
                as_aux_lemma =>
                 clear H'
                 try clear c1
                 try clear p1
                 try clear q1
                 try clear hx1
                 try clear p2
                 try clear c3
                 try clear c4
                 try clear c5
                 try clear c6
                 try clear p6
                 try clear c7
                 try clear c11
                 try clear p11
                 try clear q11
                 try clear hx11
                 try clear c32
                 try clear c32b0
                 try clear c33
                 try clear c36
                 try clear c37
                 try clear c44
                 try clear c44b0
                 try clear c47
                 try clear c47b0
                 try clear c50
                 try clear c50b0
                 try clear c51
                 try clear c51b0
                 try clear c52
                 try clear c52b0
                 try clear c53
                 try clear c53b0
                 try clear c54
                 try clear c54b0
                 try clear c54b1
                 try clear c59
                 try clear c59b0
                 try clear c59b1
                 try clear c63
                 try clear c63b0
                 try clear p64
                 try clear c65
                 try clear c66
                 try clear c66b0
                 try clear c68
                 try clear c69
                 try clear c69b0
                 try clear c70
                 try clear c70b0
                 try clear hcz62_0
                 try clear hcz62_1
                 try clear hfz62_0
                 try clear hfz62_1
                 try clear hx1178_0
                 try clear hx1179_0
                 try clear hx1180_0
                 try clear hx1181_0
                 try clear hx1182_0
                 try clear hx1183_0
                 try clear hx1184_0
                 try clear p1
                 try clear p11
                 try clear p1178
                 try clear p1179
                 try clear p1180
                 try clear p1181
                 try clear p1182
                 try clear p1183
                 try clear p1184
                 try clear p2
                 try clear p6
                 try clear p64
                 try clear q1
                 try clear q11
                 try clear q1178
                 try clear q1179
                 try clear q1180
                 try clear q1181
                 try clear q1182
                 try clear q1183
                 try clear q1184
                 obtain ⟨x23_8, x24_8, x25_8, rfl, HA, HK8, HO_9, HO_19, HO_20, HO_23, HO_24, BK1167, HB⟩ := hrel
                 obtain _ | k8 := gk
                 · exact absurd HA.out (by simp [l5LineDuality.l2])
                 have H := HA.out
                 clear HA
                 simp only [l5LineDuality.l2] at H
                 obtain ⟨c72b0, H⟩ | ⟨c72b0, H⟩ := itd_or H
                 rotate_left
                 ·
                  obtain ⟨c107, H⟩ := ite_some H
                  have LMc107 := xA.mk c107
                  clear c107
                  obtain ⟨y1185, hy1185⟩ : ∃ y_ : List (List Int), y_ = (x19_6 ++ [x23_8]) := ⟨_, rfl⟩
                  replace H : (if x20_6.length < 5864062014805 then (l5LineDuality.l1 k8 l0 a2 t1168 (l0.length : Int) x18_66 y1185 (x20_6 ++ [x24_8]) x21_63 (wrap64 (x22_6 + 1)) t1164 t1165) else (none)) = some r := by first | (rw [hy1185]; with_reducible exact H) | (have H2_ := (Option.bind_some _ _).symm.trans H; rw [hy1185]; with_reducible exact H2_) | (have H2_ := (Option.bind_some _ _).symm.trans H; with_reducible exact H2_) | with_reducible exact H | (rw [hy1185]; exact H) | exact H
                  have Ny1185 := xA.mk hy1185
                  clear hy1185
                  obtain ⟨c108, H⟩ := ite_some H
                  have LMc108 := xA.mk c108
                  clear c108
                  obtain ⟨y1188, hy1188⟩ : ∃ y_ : List (List Int), y_ = (x20_6 ++ [x24_8]) := ⟨_, rfl⟩
                  replace H : (l5LineDuality.l1 k8 l0 a2 t1168 (l0.length : Int) x18_66 y1185 y1188 x21_63 (wrap64 (x22_6 + 1)) t1164 t1165) = some r := by first | (rw [hy1188]; with_reducible exact H) | (have H2_ := (Option.bind_some _ _).symm.trans H; rw [hy1188]; with_reducible exact H2_) | (have H2_ := (Option.bind_some _ _).symm.trans H; with_reducible exact H2_) | with_reducible exact H | (rw [hy1188]; exact H) | exact H
                  have Ny1188 := xA.mk hy1188
                  clear hy1188
                  have H' := xA.mk H
                  clear H
                  obtain ⟨Ao110, co110, eo110⟩ := Kd.R_slice HO_23.out
                  subst eo110
                  go_wp2_with (first | ((with_reducible refine gate_builtin (b := .append) (xs := #[.tmp 253, .tmp 255]) rfl ?_); (try (refine gate_guard (by rfl) ?_; dsimp only)); at_builtin; refine Kd.S_append (Kd.slice 3 (Kd.int .i64)) (w0 := w) w.heap.size rfl (.tmp 253) (.tmp 255) 22 26 (.slice none 0 0) 24 rfl Try.underlying22 info26 rfl (by decide) jj u19 x19_6 x23_8 [.slice Ao110 x23_8.length co110] (fun k_ => some k_ ≠ (v1170 : Value).ownBlock ∧ some k_ ≠ (u20 : Value).ownBlock ∧ some k_ ≠ (u24 : Value).ownBlock) (fun k_ => some k_ = (.slice Ao110 x23_8.length co110 : Value).ownBlock) rfl rfl ?aP (fun k_ hk_ => ((Kd.xZ (ok' := fun k_ => ((fun k_ => some k_ ≠ (v1170 : Value).ownBlock ∧ some k_ ≠ (u20 : Value).ownBlock ∧ some k_ ≠ (u24 : Value).ownBlock)) k_ ∧ some k_ ≠ (u19 : Value).ownBlock) (Kd.R_apart' (Kd.R_apart' (HO_23.out) (Kd.S_typed HO_20.out) (by decide)) (Kd.S_typed HO_19.out) (by decide)) (fun k_ hk => ⟨⟨hk.1.1.1, ⟨hk.1.2, hk.1.1.2⟩⟩, hk.2⟩))).1 k_ hk_.symm) ?aF ?aO ?aB ?aS ?aL ?_; (case aP => exact Kd.M_row (Kd.xZ (Kd.R_tight rfl (Kd.xZ (ok' := fun k_ => ((fun k_ => some k_ ≠ (v1170 : Value).ownBlock ∧ some k_ ≠ (u20 : Value).ownBlock ∧ some k_ ≠ (u24 : Value).ownBlock)) k_ ∧ some k_ ≠ (u19 : Value).ownBlock) (Kd.R_apart' (Kd.R_apart' (HO_23.out) (Kd.S_typed HO_20.out) (by decide)) (Kd.S_typed HO_19.out) (by decide)) (fun k_ hk => ⟨⟨hk.1.1.1, ⟨hk.1.2, hk.1.1.2⟩⟩, hk.2⟩))) (fun _ h_ => h_))); (case aB => exact (qo GE1167.out)); (case aF => exact (fun k_ hk => ⟨Kd.fresh' (Kd.R_lt (qi HO_9.out)) k_ hk, Kd.fresh' (Kd.S_lt (qh HO_20.out)) k_ hk, Kd.fresh' (Kd.R_lt (qi HO_24.out)) k_ hk⟩)); (case aO => exact (by (with_reducible repeat (first | apply Kd.S_alloc | apply Kd.yA | apply Kd.xV)); exact Kd.xQ HO_19.out (fun k_ hk => ⟨⟨hk.1, ⟨hk.2.1, hk.2.2.2⟩⟩, fun e_ => hk.2.2.1 e_⟩))); (case aS => exact (xD (qo GE1167.out))); (case aL => have := LMc107.out; omega); intro v1186 w109 ho hb hg hat; rw [← Ny1185.out] at ho; have n0_ := xA.mk (Kd.R_over' (qi HO_9.out) (Kd.S_typed (qh HO_19.out)) (by decide) hg); have n1_ := xA.mk (Kd.S_after (ok := (fun k_ => some k_ ≠ (v1170 : Value).ownBlock ∧ some k_ ≠ (.slice Ao110 x23_8.length co110 : Value).ownBlock ∧ some k_ ≠ (u24 : Value).ownBlock)) (by (with_reducible repeat (first | apply Kd.S_alloc | apply Kd.yA | apply Kd.xV)); exact Kd.xQ HO_20.out (fun _ hk => ⟨⟨hk.1, ⟨hk.2.2.1, hk.2.2.2⟩⟩, hk.2.1⟩)) hg hat); have n2_ := xA.mk (Kd.R_over' (qi HO_24.out) (Kd.S_typed (qh HO_19.out)) (by decide) hg); have n3_ := xA.mk (blk_grown (g := gb1167) (o := .cells #[.int .i64 t1164, .int .i64 t1165] 37 (0, 0)) (qn BK1167.out) hg (Kd.S_ne HO_19.out BK1167.out (by decide))); have n4_ := xA.mk (hb); have n5_ := xA.mk (ho); clear HO_9; clear HO_20; clear HO_24; clear BK1167; clear HB; clear HO_19; clear HO_23; have HO_9 := n0_; have HO_20 := n1_; have HO_24 := n2_; have BK1167 := n3_; have HB := n4_; have HO1187 := n5_; clear n0_ n1_ n2_ n3_ n4_ n5_; clear ho hb hg hat; obtain ⟨Ao112, co112, eo112⟩ := Kd.R_slice HO_24.out; subst eo112) | ((with_reducible refine gate_builtin (b := .append) (xs := #[.tmp 257, .tmp 259]) rfl ?_); (try (refine gate_guard (by rfl) ?_; dsimp only)); at_builtin; refine Kd.S_append (Kd.slice 3 (Kd.int .i64)) (w0 := w) w.heap.size rfl (.tmp 257) (.tmp 259) 22 26 (.slice none 0 0) 24 rfl Try.underlying22 info26 rfl (by decide) jj u20 x20_6 x24_8 [.slice Ao112 x24_8.length co112] (fun k_ => some k_ ≠ (v1170 : Value).ownBlock ∧ some k_ ≠ (v1186 : Value).ownBlock) (fun k_ => some k_ = (.slice Ao112 x24_8.length co112 : Value).ownBlock) rfl rfl ?aP (fun k_ hk_ => ((Kd.xZ (ok' := fun k_ => ((fun k_ => some k_ ≠ (v1170 : Value).ownBlock ∧ some k_ ≠ (v1186 : Value).ownBlock)) k_ ∧ some k_ ≠ (u20 : Value).ownBlock) (Kd.R_apart' (Kd.R_apart' (HO_24.out) (Kd.S_typed HO1187.out) (by decide)) (Kd.S_typed HO_20.out) (by decide)) (fun k_ hk => ⟨⟨hk.1.1.1, hk.1.2⟩, hk.2⟩))).1 k_ hk_.symm) ?aF ?aO ?aB ?aS ?aL ?_; (case aP => exact Kd.M_row (Kd.xZ (Kd.R_tight rfl (Kd.xZ (ok' := fun k_ => ((fun k_ => some k_ ≠ (v1170 : Value).ownBlock ∧ some k_ ≠ (v1186 : Value).ownBlock)) k_ ∧ some k_ ≠ (u20 : Value).ownBlock) (Kd.R_apart' (Kd.R_apart' (HO_24.out) (Kd.S_typed HO1187.out) (by decide)) (Kd.S_typed HO_20.out) (by decide)) (fun k_ hk => ⟨⟨hk.1.1.1, hk.1.2⟩, hk.2⟩))) (fun _ h_ => h_))); (case aB => exact (qo GE1167.out)); (case aF => exact (fun k_ hk => ⟨Kd.fresh' (Kd.R_lt (qi HO_9.out)) k_ hk, Kd.fresh' (Kd.S_lt (qh HO1187.out)) k_ hk⟩)); (case aO => exact (by (with_reducible repeat (first | apply Kd.S_alloc | apply Kd.yA | apply Kd.xV)); exact Kd.xQ HO_20.out (fun k_ hk => ⟨⟨hk.1.1, hk.2⟩, fun e_ => hk.1.2.2 e_⟩))); (case aS => exact (xD (qo GE1167.out))); (case aL => have := LMc108.out; omega); intro v1189 w111 ho hb hg hat; rw [← Ny1188.out] at ho; have n0_ := xA.mk (Kd.R_over' (qi HO_9.out) (Kd.S_typed (qh HO_20.out)) (by decide) hg); have n1_ := xA.mk (blk_grown (g := gb1167) (o := .cells #[.int .i64 t1164, .int .i64 t1165] 37 (0, 0)) (qn BK1167.out) hg (Kd.S_ne HO_20.out BK1167.out (by decide))); have n2_ := xA.mk (Kd.S_after (ok := (fun k_ => some k_ ≠ (v1170 : Value).ownBlock ∧ some k_ ≠ (.slice Ao112 x24_8.length co112 : Value).ownBlock)) (by (with_reducible repeat (first | apply Kd.S_alloc | apply Kd.yA | apply Kd.xV)); exact Kd.xQ HO1187.out (fun _ hk => ⟨⟨hk.1, hk.2.2⟩, hk.2.1⟩)) hg hat); have n3_ := xA.mk (hb); have n4_ := xA.mk (ho); clear HO_9; clear BK1167; clear HO1187; clear HB; clear HO_20; clear HO_24; have HO_9 := n0_; have BK1167 := n1_; have HO1187 := n2_; have HB := n3_; have HO1190 := n4_; clear n0_ n1_ n2_ n3_ n4_; clear ho hb hg hat))
                  go_roundg k8
                  case measure => have := HJ8.out; have := HJ17.out; have := HK3.out; have := HJ59.out; have := HJ63.out; have := HK6.out; have := HJ66.out; have := HK8.out; omega
                  case rel => exact ⟨(x18_66), (y1185), (y1188), (wrap64 (x22_6 + 1)), qf, qf, H', ⟨by have := HJ8.out; have := HJ17.out; have := HK3.out; have := HJ59.out; have := HJ63.out; have := HK6.out; have := HJ66.out; have := HK8.out; omega⟩, ⟨by (with_reducible repeat (first | apply Kd.R_alloc | apply Kd.R_drewN | apply Kd.R_drew)); exact Kd.xZ HO_9.out (fun _ hk => trivial)⟩, ⟨by (with_reducible repeat (first | apply Kd.S_alloc | apply Kd.yA | apply Kd.xV)); exact Kd.xQ HO1187.out (fun _ hk => ⟨hk.1.1, hk.2⟩)⟩, ⟨qh HO1190.out⟩, ⟨qn BK1167.out⟩, ⟨qo GE1167.out⟩⟩
                 have HC73 := xA.mk H
                 clear H
                 go_upto_region 36 with (fail)
                 go_cut [220] (fun v220 wc => ∃ (kq : Nat) (x220_72 : Bool), v220 = .bool x220_72 ∧ xA (l5LineDuality.j8 kq l0 a2 t1168 (l0.length : Int) x18_66 x19_6 x20_6 x21_63 x22_6 x23_8 x24_8 x25_8 x220_72 t1164 t1165 = some r) ∧ xA (kq ≤ k8) ∧ xA (Kd.R (Kd.int .i64) 3 wc w.heap.size (fun k_ => some k_ ≠ (u23 : Value).ownBlock ∧ some k_ ≠ (u24 : Value).ownBlock) v1170 t1168) ∧ xA (Kd.S (Kd.slice 3 (Kd.int .i64)) 26 wc w.heap.size (fun k_ => some k_ ≠ (v1170 : Value).ownBlock ∧ some k_ ≠ (u20 : Value).ownBlock ∧ some k_ ≠ (u23 : Value).ownBlock ∧ some k_ ≠ (u24 : Value).ownBlock) u19 x19_6) ∧ xA (Kd.S (Kd.slice 3 (Kd.int .i64)) 26 wc w.heap.size (fun k_ => some k_ ≠ (v1170 : Value).ownBlock ∧ some k_ ≠ (u19 : Value).ownBlock ∧ some k_ ≠ (u23 : Value).ownBlock ∧ some k_ ≠ (u24 : Value).ownBlock) u20 x20_6) ∧ xA (Kd.R (Kd.int .i64) 3 wc w.heap.size (fun k_ => some k_ ≠ (v1170 : Value).ownBlock ∧ some k_ ≠ (u24 : Value).ownBlock) u23 x23_8) ∧ xA (Kd.R (Kd.int .i64) 3 wc w.heap.size (fun k_ => some k_ ≠ (v1170 : Value).ownBlock ∧ some k_ ≠ (u23 : Value).ownBlock) u24 x24_8) ∧ xA (wc.heap[gb1167]? = some (.cells #[.int .i64 t1164, .int .i64 t1165] 37 (0, 0))) ∧ xA (Below w.heap.size w wc))
                 case first =>
                  as_aux_lemma =>
                   have H := HC73.out
                   clear HC73
                   obtain ⟨c74b0, H⟩ := xL H
                   (first | rw [c74b0] | (simp only [i64_w, i32_w]; rw [c74b0]) | skip)
                   obtain ⟨c75b0, H⟩ := xL H
                   obtain ⟨c76b0, H⟩ := xL H
                   obtain ⟨c77b0, H⟩ := xL H
                   obtain ⟨⟨c78b0, c78b1⟩, H⟩ | ⟨c78, ⟨c78b0, c78b1⟩, H⟩ := itn_or H
                   ·
                    obtain ⟨c79b0, H⟩ := xL H
                    have H' := xA.mk H
                    clear H
                    try go_wp2
                    have n0_ := xA.mk (Kd.R_drew HO_9.out)
                    have n1_ := xA.mk (Kd.xV HO_19.out)
                    have n2_ := xA.mk (Kd.xV HO_20.out)
                    have n3_ := xA.mk (Kd.R_drew HO_23.out)
                    have n4_ := xA.mk (Kd.R_drew HO_24.out)
                    have n5_ := xA.mk (xH BK1167.out)
                    have n6_ := xA.mk (xN HB.out)
                    clear HO_9
                    clear HO_19
                    clear HO_20
                    clear HO_23
                    clear HO_24
                    clear BK1167
                    clear HB
                    have HO_9 := n0_
                    have HO_19 := n1_
                    have HO_20 := n2_
                    have HO_23 := n3_
                    have HO_24 := n4_
                    have BK1167 := n5_
                    have HB := n6_
                    clear n0_ n1_ n2_ n3_ n4_ n5_ n6_
                    have p1191 : 0 ≤ (x22_6 : Int) := qr
                    have q1191 : x22_6 < (l0.length : Int) := qr
                    obtain ⟨ad1191, A1191_0, c1191_0, e1191, hx1191_0, hl1191_0, hi1191_0⟩ := at_L1 HR0.out x22_6 p1191 q1191
                    have hw1191_0 := hx1191_0
                    cases e1191
                    replace hx1191_0 := (HB.out.cell (World.block_lt_of_cell? w _ hx1191_0)).trans hx1191_0
                    have HR1191_0 := xA.mk hi1191_0
                    have HC1191_0 := xA.mk hl1191_0
                    clear hi1191_0 hl1191_0
                    replace p1191 := eq_true p1191
                    replace q1191 := eq_true q1191
                    have p1192 : 0 ≤ (x25_8 : Int) := qr
                    have q1192 : x25_8 < ((rd_L1 l0 x22_6).length : Int) := qr
                    obtain ⟨ad1192, e1192, hx1192_0⟩ := Kd.xU HR1191_0.out x25_8 p1192 q1192
                    have hw1192_0 := hx1192_0
                    cases e1192
                    replace hx1192_0 := (HB.out.cell (World.block_lt_of_cell? w _ hx1192_0)).trans hx1192_0
                    replace p1192 := eq_true p1192
                    replace q1192 := eq_true q1192
                    obtain ⟨Ao81, co81, eo81⟩ := Kd.R_slice HO_9.out
                    (first | subst eo81 | (injection eo81 with f1_ f2_ f3_; have f4_ := f1_.symm; have f5_ := f3_.symm; clear f1_ f2_ f3_; subst f4_; subst f5_))
                    have p1193 : 0 ≤ (x22_6 : Int) := qr
                    have q1193 : x22_6 < (t1168.length : Int) := qr
                    obtain ⟨ad1193, e1193, hx1193_0⟩ := Kd.xU (Kd.yE HO_9.out).2.2 x22_6 p1193 q1193
                    cases e1193
                    replace p1193 := eq_true p1193
                    replace q1193 := eq_true q1193
                    refine start_ (n := 40) (S := fun w' => w'.cell? (ad1191.add (x22_6).toNat) = some (.slice (some ad1192) (rd_L1 l0 x22_6).length c1191_0) ∧ w'.cell? (ad1192.add (x25_8).toNat) = some (.int .i64 (rd (rd_L1 l0 x22_6) x25_8)) ∧ w'.cell? (ad1193.add (x22_6).toNat) = some (.int .i64 (rd t1168 x22_6))) (ds := []) (jl 40 0) jk rfl rfl ⟨((HB.out.cell (World.block_lt_of_cell? w _ hw1191_0)).trans hw1191_0), ((HB.out.cell (World.block_lt_of_cell? w _ hw1192_0)).trans hw1192_0), hx1193_0⟩ (fun hHeld => ?_); refine with_tabW l5LineDuality.tab36 l5LineDuality.bits36 (fun HT_ HW_ => ?_)
                    generalize wr.drew = w80 at HO_9 HO_19 HO_20 HO_23 HO_24 BK1167 HB HR1191_0 hx1191_0 hx1192_0 hx1193_0 hHeld ⊢
                    refine pure_ (i := 0) (N := some 181) (v := ?_) (a' := ?_) (jl 40 1) rfl rfl (xE HT_.out jk) (fun _ _ _ h => h) (Or.inl ⟨by rfl, ?_⟩) ?_ ?_
                    rotate_left
                    ·
                     intro w'
                     go_simp
                     with_reducible rfl
                    rotate_left
                    ·
                     simp only [Act.put, qy, qz, ja, i64_w, i32_w]
                     rfl
                    refine pure_ (i := 1) (N := some 182) (v := ?_) (a' := ?_) (jl 40 3) rfl rfl (xE HT_.out jk) (fun _ _ _ h => h) (Or.inl ⟨by rfl, ?_⟩) ?_ ?_
                    rotate_left
                    ·
                     intro w'
                     go_simp
                     with_reducible rfl
                    rotate_left
                    ·
                     simp only [Act.put, qy, qz, ja, i64_w, i32_w]
                     rfl
                    refine pure_ (i := 2) (N := some 183) (v := ?_) (a' := ?_) (jl 40 7) rfl rfl (xE HT_.out jk) (fun _ _ _ h => h) (Or.inl ⟨by rfl, ?_⟩) ?_ ?_
                    rotate_left
                    ·
                     intro w'
                     go_simp
                     with_reducible rfl
                    rotate_left
                    ·
                     simp only [Act.put, qy, qz, ja, i64_w, i32_w]
                     rfl
                    refine pure_ (i := 4) (N := some 185) (v := ?_) (a' := ?_) (jl 40 23) rfl rfl (xE HT_.out jk) (fun _ _ _ h => h) (Or.inl ⟨by rfl, ?_⟩) ?_ ?_
                    rotate_left
                    ·
                     intro w'
                     go_simp
                     with_reducible rfl
                    rotate_left
                    ·
                     simp only [Act.put, qy, qz, ja, i64_w, i32_w]
                     rfl
                    refine take_ (i := 3) (N := some 184) (v := ?_) (a' := ?_) (jl 40 31) rfl rfl (xY HT_.out HW_.out jk) (fun _ _ _ h => h) (Or.inl ⟨by rfl, ?_⟩) hHeld ?_ ?_
                    rotate_left
                    ·
                     rintro w' ⟨s0, s1, s2⟩
                     go_simp
                     with_reducible rfl
                    rotate_left
                    ·
                     simp only [Act.put, qy, qz, ja, i64_w, i32_w]
                     rfl
                    refine pure_ (i := 5) (N := some 186) (v := ?_) (a' := ?_) (jl 40 63) rfl rfl (xE HT_.out jk) (fun _ _ _ h => h) (Or.inl ⟨by rfl, ?_⟩) ?_ ?_
                    rotate_left
                    ·
                     intro w'
                     go_simp
                     with_reducible rfl
                    rotate_left
                    ·
                     simp only [Act.put, qy, qz, ja, i64_w, i32_w]
                     rfl
                    refine take_ (i := 6) (N := some 187) (v := ?_) (a' := ?_) (jl 40 127) rfl rfl (xY HT_.out HW_.out jk) (fun _ _ _ h => h) (Or.inl ⟨by rfl, ?_⟩) hHeld ?_ ?_
                    rotate_left
                    ·
                     rintro w' ⟨s0, s1, s2⟩
                     go_simp
                     with_reducible rfl
                    rotate_left
                    ·
                     simp only [Act.put, qy, qz, ja, i64_w, i32_w]
                     rfl
                    refine pure_ (i := 7) (N := some 188) (v := ?_) (a' := ?_) (jl 40 255) rfl rfl (xE HT_.out jk) (fun _ _ _ h => h) (Or.inl ⟨by rfl, ?_⟩) ?_ ?_
                    rotate_left
                    ·
                     intro w'
                     go_simp
                     with_reducible rfl
                    rotate_left
                    ·
                     simp only [Act.put, qy, qz, ja, i64_w, i32_w]
                     rfl
                    refine pure_ (i := 8) (N := some 189) (v := ?_) (a' := ?_) (jl 40 511) rfl rfl (xE HT_.out jk) (fun _ _ _ h => h) (Or.inl ⟨by rfl, ?_⟩) ?_ ?_
                    rotate_left
                    ·
                     intro w'
                     go_simp
                     with_reducible rfl
                    rotate_left
                    ·
                     simp only [Act.put, qy, qz, ja, i64_w, i32_w]
                     rfl
                    refine pure_ (i := 9) (N := some 190) (v := undef) (a' := ?_) (jl 40 1023) rfl rfl (xE HT_.out jk) (fun _ _ _ h => h) (Or.inr ⟨by rfl, rfl⟩) ?_ ?_
                    rotate_left
                    ·
                     simp only [Act.put, qy, qz, ja, i64_w, i32_w]
                     rfl
                    refine pure_ (i := 10) (N := some 191) (v := undef) (a' := ?_) (jl 40 2047) rfl rfl (xE HT_.out jk) (fun _ _ _ h => h) (Or.inr ⟨by rfl, rfl⟩) ?_ ?_
                    rotate_left
                    ·
                     simp only [Act.put, qy, qz, ja, i64_w, i32_w]
                     rfl
                    refine pure_ (i := 11) (N := some 192) (v := undef) (a' := ?_) (jl 40 4095) rfl rfl (xE HT_.out jk) (fun _ _ _ h => h) (Or.inr ⟨by rfl, rfl⟩) ?_ ?_
                    rotate_left
                    ·
                     simp only [Act.put, qy, qz, ja, i64_w, i32_w]
                     rfl
                    refine pure_ (i := 12) (N := some 193) (v := undef) (a' := ?_) (jl 40 8191) rfl rfl (xE HT_.out jk) (fun _ _ _ h => h) (Or.inr ⟨by rfl, rfl⟩) ?_ ?_
                    rotate_left
                    ·
                     simp only [Act.put, qy, qz, ja, i64_w, i32_w]
                     rfl
                    refine pure_ (i := 13) (N := some 194) (v := undef) (a' := ?_) (jl 40 16383) rfl rfl (xE HT_.out jk) (fun _ _ _ h => h) (Or.inr ⟨by rfl, rfl⟩) ?_ ?_
                    rotate_left
                    ·
                     simp only [Act.put, qy, qz, ja, i64_w, i32_w]
                     rfl
                    refine pure_ (i := 14) (N := some 195) (v := undef) (a' := ?_) (jl 40 32767) rfl rfl (xE HT_.out jk) (fun _ _ _ h => h) (Or.inr ⟨by rfl, rfl⟩) ?_ ?_
                    rotate_left
                    ·
                     simp only [Act.put, qy, qz, ja, i64_w, i32_w]
                     rfl
                    refine pure_ (i := 15) (N := some 196) (v := undef) (a' := ?_) (jl 40 65535) rfl rfl (xE HT_.out jk) (fun _ _ _ h => h) (Or.inr ⟨by rfl, rfl⟩) ?_ ?_
                    rotate_left
                    ·
                     simp only [Act.put, qy, qz, ja, i64_w, i32_w]
                     rfl
                    refine pure_ (i := 16) (N := some 197) (v := undef) (a' := ?_) (jl 40 131071) rfl rfl (xE HT_.out jk) (fun _ _ _ h => h) (Or.inr ⟨by rfl, rfl⟩) ?_ ?_
                    rotate_left
                    ·
                     simp only [Act.put, qy, qz, ja, i64_w, i32_w]
                     rfl
                    refine pure_ (i := 17) (N := some 198) (v := undef) (a' := ?_) (jl 40 262143) rfl rfl (xE HT_.out jk) (fun _ _ _ h => h) (Or.inr ⟨by rfl, rfl⟩) ?_ ?_
                    rotate_left
                    ·
                     simp only [Act.put, qy, qz, ja, i64_w, i32_w]
                     rfl
                    refine pure_ (i := 18) (N := some 199) (v := undef) (a' := ?_) (jl 40 524287) rfl rfl (xE HT_.out jk) (fun _ _ _ h => h) (Or.inr ⟨by rfl, rfl⟩) ?_ ?_
                    rotate_left
                    ·
                     simp only [Act.put, qy, qz, ja, i64_w, i32_w]
                     rfl
                    refine pure_ (i := 19) (N := some 200) (v := undef) (a' := ?_) (jl 40 1048575) rfl rfl (xE HT_.out jk) (fun _ _ _ h => h) (Or.inr ⟨by rfl, rfl⟩) ?_ ?_
                    rotate_left
                    ·
                     simp only [Act.put, qy, qz, ja, i64_w, i32_w]
                     rfl
                    refine pure_ (i := 20) (N := some 201) (v := undef) (a' := ?_) (jl 40 2097151) rfl rfl (xE HT_.out jk) (fun _ _ _ h => h) (Or.inr ⟨by rfl, rfl⟩) ?_ ?_
                    rotate_left
                    ·
                     simp only [Act.put, qy, qz, ja, i64_w, i32_w]
                     rfl
                    refine pure_ (i := 21) (N := some 202) (v := undef) (a' := ?_) (jl 40 4194303) rfl rfl (xE HT_.out jk) (fun _ _ _ h => h) (Or.inr ⟨by rfl, rfl⟩) ?_ ?_
                    rotate_left
                    ·
                     simp only [Act.put, qy, qz, ja, i64_w, i32_w]
                     rfl
                    refine pure_ (i := 22) (N := some 203) (v := undef) (a' := ?_) (jl 40 8388607) rfl rfl (xE HT_.out jk) (fun _ _ _ h => h) (Or.inr ⟨by rfl, rfl⟩) ?_ ?_
                    rotate_left
                    ·
                     simp only [Act.put, qy, qz, ja, i64_w, i32_w]
                     rfl
                    refine pure_ (i := 23) (N := some 204) (v := undef) (a' := ?_) (jl 40 16777215) rfl rfl (xE HT_.out jk) (fun _ _ _ h => h) (Or.inr ⟨by rfl, rfl⟩) ?_ ?_
                    rotate_left
                    ·
                     simp only [Act.put, qy, qz, ja, i64_w, i32_w]
                     rfl
                    refine pure_ (i := 24) (N := some 205) (v := undef) (a' := ?_) (jl 40 33554431) rfl rfl (xE HT_.out jk) (fun _ _ _ h => h) (Or.inr ⟨by rfl, rfl⟩) ?_ ?_
                    rotate_left
                    ·
                     simp only [Act.put, qy, qz, ja, i64_w, i32_w]
                     rfl
                    refine pure_ (i := 25) (N := some 206) (v := undef) (a' := ?_) (jl 40 67108863) rfl rfl (xE HT_.out jk) (fun _ _ _ h => h) (Or.inr ⟨by rfl, rfl⟩) ?_ ?_
                    rotate_left
                    ·
                     simp only [Act.put, qy, qz, ja, i64_w, i32_w]
                     rfl
                    refine pure_ (i := 26) (N := some 207) (v := undef) (a' := ?_) (jl 40 134217727) rfl rfl (xE HT_.out jk) (fun _ _ _ h => h) (Or.inr ⟨by rfl, rfl⟩) ?_ ?_
                    rotate_left
                    ·
                     simp only [Act.put, qy, qz, ja, i64_w, i32_w]
                     rfl
                    refine pure_ (i := 27) (N := some 208) (v := undef) (a' := ?_) (jl 40 268435455) rfl rfl (xE HT_.out jk) (fun _ _ _ h => h) (Or.inr ⟨by rfl, rfl⟩) ?_ ?_
                    rotate_left
                    ·
                     simp only [Act.put, qy, qz, ja, i64_w, i32_w]
                     rfl
                    refine pure_ (i := 28) (N := some 209) (v := undef) (a' := ?_) (jl 40 536870911) rfl rfl (xE HT_.out jk) (fun _ _ _ h => h) (Or.inr ⟨by rfl, rfl⟩) ?_ ?_
                    rotate_left
                    ·
                     simp only [Act.put, qy, qz, ja, i64_w, i32_w]
                     rfl
                    refine pure_ (i := 29) (N := some 210) (v := undef) (a' := ?_) (jl 40 1073741823) rfl rfl (xE HT_.out jk) (fun _ _ _ h => h) (Or.inr ⟨by rfl, rfl⟩) ?_ ?_
                    rotate_left
                    ·
                     simp only [Act.put, qy, qz, ja, i64_w, i32_w]
                     rfl
                    refine pure_ (i := 30) (N := some 211) (v := undef) (a' := ?_) (jl 40 2147483647) rfl rfl (xE HT_.out jk) (fun _ _ _ h => h) (Or.inr ⟨by rfl, rfl⟩) ?_ ?_
                    rotate_left
                    ·
                     simp only [Act.put, qy, qz, ja, i64_w, i32_w]
                     rfl
                    refine pure_ (i := 31) (N := some 212) (v := undef) (a' := ?_) (jl 40 4294967295) rfl rfl (xE HT_.out jk) (fun _ _ _ h => h) (Or.inr ⟨by rfl, rfl⟩) ?_ ?_
                    rotate_left
                    ·
                     simp only [Act.put, qy, qz, ja, i64_w, i32_w]
                     rfl
                    refine pure_ (i := 32) (N := some 213) (v := ?_) (a' := ?_) (jl 40 8589934591) rfl rfl (xE HT_.out jk) (fun _ _ _ h => h) (Or.inl ⟨by rfl, ?_⟩) ?_ ?_
                    rotate_left
                    ·
                     intro w'
                     go_simp
                     with_reducible rfl
                    rotate_left
                    ·
                     simp only [Act.put, qy, qz, ja, i64_w, i32_w]
                     rfl
                    refine pure_ (i := 33) (N := some 214) (v := ?_) (a' := ?_) (jl 40 17179869183) rfl rfl (xE HT_.out jk) (fun _ _ _ h => h) (Or.inl ⟨by rfl, ?_⟩) ?_ ?_
                    rotate_left
                    ·
                     intro w'
                     go_simp
                     with_reducible rfl
                    rotate_left
                    ·
                     simp only [Act.put, qy, qz, ja, i64_w, i32_w]
                     rfl
                    refine pure_ (i := 34) (N := some 215) (v := ?_) (a' := ?_) (jl 40 34359738367) rfl rfl (xE HT_.out jk) (fun _ _ _ h => h) (Or.inl ⟨by rfl, ?_⟩) ?_ ?_
                    rotate_left
                    ·
                     intro w'
                     go_simp
                     with_reducible rfl
                    rotate_left
                    ·
                     simp only [Act.put, qy, qz, ja, i64_w, i32_w]
                     rfl
                    refine pure_ (i := 35) (N := some 216) (v := ?_) (a' := ?_) (jl 40 68719476735) rfl rfl (xE HT_.out jk) (fun _ _ _ h => h) (Or.inl ⟨by rfl, ?_⟩) ?_ ?_
                    rotate_left
                    ·
                     intro w'
                     go_simp
                     with_reducible rfl
                    rotate_left
                    ·
                     simp only [Act.put, qy, qz, ja, i64_w, i32_w]
                     rfl
                    refine pure_ (i := 36) (N := some 217) (v := ?_) (a' := ?_) (jl 40 137438953471) rfl rfl (xE HT_.out jk) (fun _ _ _ h => h) (Or.inl ⟨by rfl, ?_⟩) ?_ ?_
                    rotate_left
                    ·
                     intro w'
                     go_simp
                     with_reducible rfl
                    rotate_left
                    ·
                     simp only [Act.put, qy, qz, ja, i64_w, i32_w]
                     rfl
                    refine take_ (i := 37) (N := some 218) (v := ?_) (a' := ?_) (jl 40 274877906943) rfl rfl (xY HT_.out HW_.out jk) (fun _ _ _ h => h) (Or.inl ⟨by rfl, ?_⟩) hHeld ?_ ?_
                    rotate_left
                    ·
                     rintro w' ⟨s0, s1, s2⟩
                     go_simp
                     with_reducible rfl
                    rotate_left
                    ·
                     simp only [Act.put, qy, qz, ja, i64_w, i32_w]
                     rfl
                    refine pure_ (i := 38) (N := some 219) (v := ?_) (a' := ?_) (jl 40 549755813887) rfl rfl (xE HT_.out jk) (fun _ _ _ h => h) (Or.inl ⟨by rfl, ?_⟩) ?_ ?_
                    rotate_left
                    ·
                     intro w'
                     go_simp
                     with_reducible rfl
                    rotate_left
                    ·
                     simp only [Act.put, qy, qz, ja, i64_w, i32_w]
                     rfl
                    refine pure_ (i := 39) (N := some 220) (v := ?_) (a' := ?_) (jl 40 1099511627775) rfl rfl (xE HT_.out jk) (fun _ _ _ h => h) (Or.inl ⟨by rfl, ?_⟩) ?_ ?_
                    rotate_left
                    ·
                     intro w'
                     go_simp
                     with_reducible rfl
                    rotate_left
                    ·
                     simp only [Act.put, qy, qz, ja, i64_w, i32_w]
                     rfl
                    refine done_ (done_of HT_.out jk) ?_
                    try go_wp2
                    go_meet
                    case rel => exact ⟨_, (decide ((rd t1168 x22_6) < 0)), qf, H', ⟨by have := HJ8.out; have := HJ17.out; have := HK3.out; have := HJ59.out; have := HJ63.out; have := HK6.out; have := HJ66.out; have := HK8.out; first | omega | exact Nat.le_refl _⟩, ⟨qi HO_9.out⟩, ⟨qh HO_19.out⟩, ⟨qh HO_20.out⟩, ⟨qi HO_23.out⟩, ⟨qi HO_24.out⟩, ⟨qn BK1167.out⟩, ⟨qo GE1167.out⟩⟩
                   obtain ⟨c82b0, H⟩ := xL H
                   obtain ⟨c83b0, H⟩ := xL H
                   by_cases c84 : (wrap64 ((wrap64 ((wrap64 (t1165 * (rd (rd_L1 l0 x22_6) x25_8))) - t1164)) + (rd t1168 x25_8))) > (rd t1168 x22_6)
                   ·
                    rw [if_pos c84] at H
                    have c84b0 : decide ((rd t1168 x22_6) < (wrap64 ((wrap64 ((wrap64 (t1165 * (rd (rd_L1 l0 x22_6) x25_8))) - t1164)) + (rd t1168 x25_8)))) = true := qu c84
                    clear c84
                    have H' := xA.mk H
                    clear H
                    try go_wp2
                    have n0_ := xA.mk (Kd.R_drew HO_9.out)
                    have n1_ := xA.mk (Kd.xV HO_19.out)
                    have n2_ := xA.mk (Kd.xV HO_20.out)
                    have n3_ := xA.mk (Kd.R_drew HO_23.out)
                    have n4_ := xA.mk (Kd.R_drew HO_24.out)
                    have n5_ := xA.mk (xH BK1167.out)
                    have n6_ := xA.mk (xN HB.out)
                    clear HO_9
                    clear HO_19
                    clear HO_20
                    clear HO_23
                    clear HO_24
                    clear BK1167
                    clear HB
                    have HO_9 := n0_
                    have HO_19 := n1_
                    have HO_20 := n2_
                    have HO_23 := n3_
                    have HO_24 := n4_
                    have BK1167 := n5_
                    have HB := n6_
                    clear n0_ n1_ n2_ n3_ n4_ n5_ n6_
                    have p1191 : 0 ≤ (x22_6 : Int) := qr
                    have q1191 : x22_6 < (l0.length : Int) := qr
                    obtain ⟨ad1191, A1191_0, c1191_0, e1191, hx1191_0, hl1191_0, hi1191_0⟩ := at_L1 HR0.out x22_6 p1191 q1191
                    have hw1191_0 := hx1191_0
                    cases e1191
                    replace hx1191_0 := (HB.out.cell (World.block_lt_of_cell? w _ hx1191_0)).trans hx1191_0
                    have HR1191_0 := xA.mk hi1191_0
                    have HC1191_0 := xA.mk hl1191_0
                    clear hi1191_0 hl1191_0
                    replace p1191 := eq_true p1191
                    replace q1191 := eq_true q1191
                    have p1192 : 0 ≤ (x25_8 : Int) := qr
                    have q1192 : x25_8 < ((rd_L1 l0 x22_6).length : Int) := qr
                    obtain ⟨ad1192, e1192, hx1192_0⟩ := Kd.xU HR1191_0.out x25_8 p1192 q1192
                    have hw1192_0 := hx1192_0
                    cases e1192
                    replace hx1192_0 := (HB.out.cell (World.block_lt_of_cell? w _ hx1192_0)).trans hx1192_0
                    replace p1192 := eq_true p1192
                    replace q1192 := eq_true q1192
                    have p1194 : 0 ≤ (x22_6 : Int) := qr
                    have q1194 : x22_6 < (l0.length : Int) := qr
                    obtain ⟨ad1194, A1194_0, c1194_0, e1194, hx1194_0, hl1194_0, hi1194_0⟩ := at_L1 HR0.out x22_6 p1194 q1194
                    have hw1194_0 := hx1194_0
                    obtain rfl : ad1191 = ad1194 := (by injection e1194)
                    replace hx1194_0 := (HB.out.cell (World.block_lt_of_cell? w _ hx1194_0)).trans hx1194_0
                    have HR1194_0 := xA.mk hi1194_0
                    have HC1194_0 := xA.mk hl1194_0
                    clear hi1194_0 hl1194_0
                    replace p1194 := eq_true p1194
                    replace q1194 := eq_true q1194
                    have ea_ := qx (hx1191_0.symm.trans hx1194_0)
                    injection ea_ with ea_ en_ ec_
                    subst ea_
                    subst ec_
                    clear en_
                    have p1195 : 0 ≤ (x25_8 : Int) := qr
                    have q1195 : x25_8 < ((rd_L1 l0 x22_6).length : Int) := qr
                    obtain ⟨ad1195, e1195, hx1195_0⟩ := Kd.xU HR1194_0.out x25_8 p1195 q1195
                    have hw1195_0 := hx1195_0
                    cases e1195
                    replace hx1195_0 := (HB.out.cell (World.block_lt_of_cell? w _ hx1195_0)).trans hx1195_0
                    replace p1195 := eq_true p1195
                    replace q1195 := eq_true q1195
                    obtain ⟨Ao86, co86, eo86⟩ := Kd.R_slice HO_9.out
                    (first | subst eo86 | (injection eo86 with f1_ f2_ f3_; have f4_ := f1_.symm; have f5_ := f3_.symm; clear f1_ f2_ f3_; subst f4_; subst f5_))
                    have p1196 : 0 ≤ (x25_8 : Int) := qr
                    have q1196 : x25_8 < (t1168.length : Int) := qr
                    obtain ⟨ad1196, e1196, hx1196_0⟩ := Kd.xU (Kd.yE HO_9.out).2.2 x25_8 p1196 q1196
                    cases e1196
                    replace p1196 := eq_true p1196
                    replace q1196 := eq_true q1196
                    have p1197 : 0 ≤ (x22_6 : Int) := qr
                    have q1197 : x22_6 < (t1168.length : Int) := qr
                    obtain ⟨ad1197, e1197, hx1197_0⟩ := Kd.xU (Kd.yE HO_9.out).2.2 x22_6 p1197 q1197
                    obtain rfl : ad1196 = ad1197 := (by injection e1197)
                    replace p1197 := eq_true p1197
                    replace q1197 := eq_true q1197
                    refine start_ (n := 40) (S := fun w' => w'.cell? ⟨gb1167, 0, none⟩ = some (.int .i64 t1164) ∧ w'.cell? ⟨gb1167, 1, none⟩ = some (.int .i64 t1165) ∧ w'.cell? (ad1191.add (x22_6).toNat) = some (.slice (some ad1192) (rd_L1 l0 x22_6).length c1191_0) ∧ w'.cell? (ad1192.add (x25_8).toNat) = some (.int .i64 (rd (rd_L1 l0 x22_6) x25_8)) ∧ w'.cell? (ad1191.add (x22_6).toNat) = some (.slice (some ad1192) (rd_L1 l0 x22_6).length c1191_0) ∧ w'.cell? (ad1192.add (x25_8).toNat) = some (.int .i64 (rd (rd_L1 l0 x22_6) x25_8)) ∧ w'.cell? (ad1196.add (x25_8).toNat) = some (.int .i64 (rd t1168 x25_8)) ∧ w'.cell? (ad1196.add (x22_6).toNat) = some (.int .i64 (rd t1168 x22_6))) (ds := []) (jl 40 0) jk rfl rfl ⟨(xB BK1167.out 0).trans rfl, (xB BK1167.out 1).trans rfl, ((HB.out.cell (World.block_lt_of_cell? w _ hw1191_0)).trans hw1191_0), ((HB.out.cell (World.block_lt_of_cell? w _ hw1192_0)).trans hw1192_0), ((HB.out.cell (World.block_lt_of_cell? w _ hw1194_0)).trans hw1194_0), ((HB.out.cell (World.block_lt_of_cell? w _ hw1195_0)).trans hw1195_0), hx1196_0, hx1197_0⟩ (fun hHeld => ?_); refine with_tabW l5LineDuality.tab36 l5LineDuality.bits36 (fun HT_ HW_ => ?_)
                    generalize wr.drew = w85 at HO_9 HO_19 HO_20 HO_23 HO_24 BK1167 HB HR1191_0 HR1194_0 hx1191_0 hx1192_0 hx1194_0 hx1195_0 hx1196_0 hx1197_0 hHeld ⊢
                    refine pure_ (i := 0) (N := some 181) (v := ?_) (a' := ?_) (jl 40 1) rfl rfl (xE HT_.out jk) (fun _ _ _ h => h) (Or.inl ⟨by rfl, ?_⟩) ?_ ?_
                    rotate_left
                    ·
                     intro w'
                     go_simp
                     with_reducible rfl
                    rotate_left
                    ·
                     simp only [Act.put, qy, qz, ja, i64_w, i32_w]
                     rfl
                    refine pure_ (i := 1) (N := some 182) (v := ?_) (a' := ?_) (jl 40 3) rfl rfl (xE HT_.out jk) (fun _ _ _ h => h) (Or.inl ⟨by rfl, ?_⟩) ?_ ?_
                    rotate_left
                    ·
                     intro w'
                     go_simp
                     with_reducible rfl
                    rotate_left
                    ·
                     simp only [Act.put, qy, qz, ja, i64_w, i32_w]
                     rfl
                    refine pure_ (i := 2) (N := some 183) (v := ?_) (a' := ?_) (jl 40 7) rfl rfl (xE HT_.out jk) (fun _ _ _ h => h) (Or.inl ⟨by rfl, ?_⟩) ?_ ?_
                    rotate_left
                    ·
                     intro w'
                     go_simp
                     with_reducible rfl
                    rotate_left
                    ·
                     simp only [Act.put, qy, qz, ja, i64_w, i32_w]
                     rfl
                    refine pure_ (i := 4) (N := some 185) (v := ?_) (a' := ?_) (jl 40 23) rfl rfl (xE HT_.out jk) (fun _ _ _ h => h) (Or.inl ⟨by rfl, ?_⟩) ?_ ?_
                    rotate_left
                    ·
                     intro w'
                     go_simp
                     with_reducible rfl
                    rotate_left
                    ·
                     simp only [Act.put, qy, qz, ja, i64_w, i32_w]
                     rfl
                    refine take_ (i := 3) (N := some 184) (v := ?_) (a' := ?_) (jl 40 31) rfl rfl (xY HT_.out HW_.out jk) (fun _ _ _ h => h) (Or.inl ⟨by rfl, ?_⟩) hHeld ?_ ?_
                    rotate_left
                    ·
                     rintro w' ⟨s0, s1, s2, s3, s4, s5, s6, s7⟩
                     go_simp
                     with_reducible rfl
                    rotate_left
                    ·
                     simp only [Act.put, qy, qz, ja, i64_w, i32_w]
                     rfl
                    refine pure_ (i := 5) (N := some 186) (v := ?_) (a' := ?_) (jl 40 63) rfl rfl (xE HT_.out jk) (fun _ _ _ h => h) (Or.inl ⟨by rfl, ?_⟩) ?_ ?_
                    rotate_left
                    ·
                     intro w'
                     go_simp
                     with_reducible rfl
                    rotate_left
                    ·
                     simp only [Act.put, qy, qz, ja, i64_w, i32_w]
                     rfl
                    refine take_ (i := 6) (N := some 187) (v := ?_) (a' := ?_) (jl 40 127) rfl rfl (xY HT_.out HW_.out jk) (fun _ _ _ h => h) (Or.inl ⟨by rfl, ?_⟩) hHeld ?_ ?_
                    rotate_left
                    ·
                     rintro w' ⟨s0, s1, s2, s3, s4, s5, s6, s7⟩
                     go_simp
                     with_reducible rfl
                    rotate_left
                    ·
                     simp only [Act.put, qy, qz, ja, i64_w, i32_w]
                     rfl
                    refine pure_ (i := 7) (N := some 188) (v := ?_) (a' := ?_) (jl 40 255) rfl rfl (xE HT_.out jk) (fun _ _ _ h => h) (Or.inl ⟨by rfl, ?_⟩) ?_ ?_
                    rotate_left
                    ·
                     intro w'
                     go_simp
                     with_reducible rfl
                    rotate_left
                    ·
                     simp only [Act.put, qy, qz, ja, i64_w, i32_w]
                     rfl
                    refine pure_ (i := 8) (N := some 189) (v := ?_) (a' := ?_) (jl 40 511) rfl rfl (xE HT_.out jk) (fun _ _ _ h => h) (Or.inl ⟨by rfl, ?_⟩) ?_ ?_
                    rotate_left
                    ·
                     intro w'
                     go_simp
                     with_reducible rfl
                    rotate_left
                    ·
                     simp only [Act.put, qy, qz, ja, i64_w, i32_w]
                     rfl
                    refine pure_ (i := 9) (N := some 190) (v := ?_) (a' := ?_) (jl 40 1023) rfl rfl (xE HT_.out jk) (fun _ _ _ h => h) (Or.inl ⟨by rfl, ?_⟩) ?_ ?_
                    rotate_left
                    ·
                     intro w'
                     go_simp
                     with_reducible rfl
                    rotate_left
                    ·
                     simp only [Act.put, qy, qz, ja, i64_w, i32_w]
                     rfl
                    refine pure_ (i := 11) (N := some 192) (v := ?_) (a' := ?_) (jl 40 3071) rfl rfl (xE HT_.out jk) (fun _ _ _ h => h) (Or.inl ⟨by rfl, ?_⟩) ?_ ?_
                    rotate_left
                    ·
                     intro w'
                     go_simp
                     with_reducible rfl
                    rotate_left
                    ·
                     simp only [Act.put, qy, qz, ja, i64_w, i32_w]
                     rfl
                    refine pure_ (i := 12) (N := some 193) (v := ?_) (a' := ?_) (jl 40 7167) rfl rfl (xE HT_.out jk) (fun _ _ _ h => h) (Or.inl ⟨by rfl, ?_⟩) ?_ ?_
                    rotate_left
                    ·
                     intro w'
                     go_simp
                     with_reducible rfl
                    rotate_left
                    ·
                     simp only [Act.put, qy, qz, ja, i64_w, i32_w]
                     rfl
                    refine pure_ (i := 13) (N := some 194) (v := ?_) (a' := ?_) (jl 40 15359) rfl rfl (xE HT_.out jk) (fun _ _ _ h => h) (Or.inl ⟨by rfl, ?_⟩) ?_ ?_
                    rotate_left
                    ·
                     intro w'
                     go_simp
                     with_reducible rfl
                    rotate_left
                    ·
                     simp only [Act.put, qy, qz, ja, i64_w, i32_w]
                     rfl
                    refine pure_ (i := 15) (N := some 196) (v := ?_) (a' := ?_) (jl 40 48127) rfl rfl (xE HT_.out jk) (fun _ _ _ h => h) (Or.inl ⟨by rfl, ?_⟩) ?_ ?_
                    rotate_left
                    ·
                     intro w'
                     go_simp
                     with_reducible rfl
                    rotate_left
                    ·
                     simp only [Act.put, qy, qz, ja, i64_w, i32_w]
                     rfl
                    refine pure_ (i := 19) (N := some 200) (v := ?_) (a' := ?_) (jl 40 572415) rfl rfl (xE HT_.out jk) (fun _ _ _ h => h) (Or.inl ⟨by rfl, ?_⟩) ?_ ?_
                    rotate_left
                    ·
                     intro w'
                     go_simp
                     with_reducible rfl
                    rotate_left
                    ·
                     simp only [Act.put, qy, qz, ja, i64_w, i32_w]
                     rfl
                    refine pure_ (i := 22) (N := some 203) (v := ?_) (a' := ?_) (jl 40 4766719) rfl rfl (xE HT_.out jk) (fun _ _ _ h => h) (Or.inl ⟨by rfl, ?_⟩) ?_ ?_
                    rotate_left
                    ·
                     intro w'
                     go_simp
                     with_reducible rfl
                    rotate_left
                    ·
                     simp only [Act.put, qy, qz, ja, i64_w, i32_w]
                     rfl
                    refine pure_ (i := 23) (N := some 204) (v := ?_) (a' := ?_) (jl 40 13155327) rfl rfl (xE HT_.out jk) (fun _ _ _ h => h) (Or.inl ⟨by rfl, ?_⟩) ?_ ?_
                    rotate_left
                    ·
                     intro w'
                     go_simp
                     with_reducible rfl
                    rotate_left
                    ·
                     simp only [Act.put, qy, qz, ja, i64_w, i32_w]
                     rfl
                    refine pure_ (i := 24) (N := some 205) (v := ?_) (a' := ?_) (jl 40 29932543) rfl rfl (xE HT_.out jk) (fun _ _ _ h => h) (Or.inl ⟨by rfl, ?_⟩) ?_ ?_
                    rotate_left
                    ·
                     intro w'
                     go_simp
                     with_reducible rfl
                    rotate_left
                    ·
                     simp only [Act.put, qy, qz, ja, i64_w, i32_w]
                     rfl
                    refine pure_ (i := 27) (N := some 208) (v := ?_) (a' := ?_) (jl 40 164150271) rfl rfl (xE HT_.out jk) (fun _ _ _ h => h) (Or.inl ⟨by rfl, ?_⟩) ?_ ?_
                    rotate_left
                    ·
                     intro w'
                     go_simp
                     with_reducible rfl
                    rotate_left
                    ·
                     simp only [Act.put, qy, qz, ja, i64_w, i32_w]
                     rfl
                    refine pure_ (i := 28) (N := some 209) (v := ?_) (a' := ?_) (jl 40 432585727) rfl rfl (xE HT_.out jk) (fun _ _ _ h => h) (Or.inl ⟨by rfl, ?_⟩) ?_ ?_
                    rotate_left
                    ·
                     intro w'
                     go_simp
                     with_reducible rfl
                    rotate_left
                    ·
                     simp only [Act.put, qy, qz, ja, i64_w, i32_w]
                     rfl
                    refine pure_ (i := 29) (N := some 210) (v := ?_) (a' := ?_) (jl 40 969456639) rfl rfl (xE HT_.out jk) (fun _ _ _ h => h) (Or.inl ⟨by rfl, ?_⟩) ?_ ?_
                    rotate_left
                    ·
                     intro w'
                     go_simp
                     with_reducible rfl
                    rotate_left
                    ·
                     simp only [Act.put, qy, qz, ja, i64_w, i32_w]
                     rfl
                    refine take_ (i := 10) (N := some 191) (v := ?_) (a' := ?_) (jl 40 969457663) rfl rfl (xY HT_.out HW_.out jk) (fun _ _ _ h => h) (Or.inl ⟨by rfl, ?_⟩) hHeld ?_ ?_
                    rotate_left
                    ·
                     rintro w' ⟨s0, s1, s2, s3, s4, s5, s6, s7⟩
                     go_simp
                     with_reducible rfl
                    rotate_left
                    ·
                     simp only [Act.put, qy, qz, ja, i64_w, i32_w]
                     rfl
                    refine take_ (i := 14) (N := some 195) (v := ?_) (a' := ?_) (jl 40 969474047) rfl rfl (xY HT_.out HW_.out jk) (fun _ _ _ h => h) (Or.inl ⟨by rfl, ?_⟩) hHeld ?_ ?_
                    rotate_left
                    ·
                     rintro w' ⟨s0, s1, s2, s3, s4, s5, s6, s7⟩
                     go_simp
                     with_reducible rfl
                    rotate_left
                    ·
                     simp only [Act.put, qy, qz, ja, i64_w, i32_w]
                     rfl
                    refine pure_ (i := 16) (N := some 197) (v := ?_) (a' := ?_) (jl 40 969539583) rfl rfl (xE HT_.out jk) (fun _ _ _ h => h) (Or.inl ⟨by rfl, ?_⟩) ?_ ?_
                    rotate_left
                    ·
                     intro w'
                     go_simp
                     with_reducible rfl
                    rotate_left
                    ·
                     simp only [Act.put, qy, qz, ja, i64_w, i32_w]
                     rfl
                    refine take_ (i := 17) (N := some 198) (v := ?_) (a' := ?_) (jl 40 969670655) rfl rfl (xY HT_.out HW_.out jk) (fun _ _ _ h => h) (Or.inl ⟨by rfl, ?_⟩) hHeld ?_ ?_
                    rotate_left
                    ·
                     rintro w' ⟨s0, s1, s2, s3, s4, s5, s6, s7⟩
                     go_simp
                     with_reducible rfl
                    rotate_left
                    ·
                     simp only [Act.put, qy, qz, ja, i64_w, i32_w]
                     rfl
                    refine pure_ (i := 18) (N := some 199) (v := ?_) (a' := ?_) (jl 40 969932799) rfl rfl (xE HT_.out jk) (fun _ _ _ h => h) (Or.inl ⟨by rfl, ?_⟩) ?_ ?_
                    rotate_left
                    ·
                     intro w'
                     go_simp
                     with_reducible rfl
                    rotate_left
                    ·
                     simp only [Act.put, qy, qz, ja, i64_w, i32_w]
                     rfl
                    refine take_ (i := 20) (N := some 201) (v := ?_) (a' := ?_) (jl 40 970981375) rfl rfl (xY HT_.out HW_.out jk) (fun _ _ _ h => h) (Or.inl ⟨by rfl, ?_⟩) hHeld ?_ ?_
                    rotate_left
                    ·
                     rintro w' ⟨s0, s1, s2, s3, s4, s5, s6, s7⟩
                     go_simp
                     with_reducible rfl
                    rotate_left
                    ·
                     simp only [Act.put, qy, qz, ja, i64_w, i32_w]
                     rfl
                    refine pure_ (i := 21) (N := some 202) (v := ?_) (a' := ?_) (jl 40 973078527) rfl rfl (xE HT_.out jk) (fun _ _ _ h => h) (Or.inl ⟨by rfl, ?_⟩) ?_ ?_
                    rotate_left
                    ·
                     intro w'
                     go_simp
                     with_reducible rfl
                    rotate_left
                    ·
                     simp only [Act.put, qy, qz, ja, i64_w, i32_w]
                     rfl
                    refine take_ (i := 25) (N := some 206) (v := ?_) (a' := ?_) (jl 40 1006632959) rfl rfl (xY HT_.out HW_.out jk) (fun _ _ _ h => h) (Or.inl ⟨by rfl, ?_⟩) hHeld ?_ ?_
                    rotate_left
                    ·
                     rintro w' ⟨s0, s1, s2, s3, s4, s5, s6, s7⟩
                     go_simp
                     with_reducible rfl
                    rotate_left
                    ·
                     simp only [Act.put, qy, qz, ja, i64_w, i32_w]
                     rfl
                    refine pure_ (i := 26) (N := some 207) (v := ?_) (a' := ?_) (jl 40 1073741823) rfl rfl (xE HT_.out jk) (fun _ _ _ h => h) (Or.inl ⟨by rfl, ?_⟩) ?_ ?_
                    rotate_left
                    ·
                     intro w'
                     go_simp
                     with_reducible rfl
                    rotate_left
                    ·
                     simp only [Act.put, qy, qz, ja, i64_w, i32_w]
                     rfl
                    refine take_ (i := 30) (N := some 211) (v := ?_) (a' := ?_) (jl 40 2147483647) rfl rfl (xY HT_.out HW_.out jk) (fun _ _ _ h => h) (Or.inl ⟨by rfl, ?_⟩) hHeld ?_ ?_
                    rotate_left
                    ·
                     rintro w' ⟨s0, s1, s2, s3, s4, s5, s6, s7⟩
                     go_simp
                     with_reducible rfl
                    rotate_left
                    ·
                     simp only [Act.put, qy, qz, ja, i64_w, i32_w]
                     rfl
                    refine pure_ (i := 31) (N := some 212) (v := ?_) (a' := ?_) (jl 40 4294967295) rfl rfl (xE HT_.out jk) (fun _ _ _ h => h) (Or.inl ⟨by rfl, ?_⟩) ?_ ?_
                    rotate_left
                    ·
                     intro w'
                     go_simp
                     with_reducible rfl
                    rotate_left
                    ·
                     simp only [Act.put, qy, qz, ja, i64_w, i32_w]
                     rfl
                    refine pure_ (i := 32) (N := some 213) (v := ?_) (a' := ?_) (jl 40 8589934591) rfl rfl (xE HT_.out jk) (fun _ _ _ h => h) (Or.inl ⟨by rfl, ?_⟩) ?_ ?_
                    rotate_left
                    ·
                     intro w'
                     go_simp
                     with_reducible rfl
                    rotate_left
                    ·
                     simp only [Act.put, qy, qz, ja, i64_w, i32_w]
                     rfl
                    refine pure_ (i := 33) (N := some 214) (v := ?_) (a' := ?_) (jl 40 17179869183) rfl rfl (xE HT_.out jk) (fun _ _ _ h => h) (Or.inl ⟨by rfl, ?_⟩) ?_ ?_
                    rotate_left
                    ·
                     intro w'
                     go_simp
                     with_reducible rfl
                    rotate_left
                    ·
                     simp only [Act.put, qy, qz, ja, i64_w, i32_w]
                     rfl
                    refine pure_ (i := 34) (N := some 215) (v := undef) (a' := ?_) (jl 40 34359738367) rfl rfl (xE HT_.out jk) (fun _ _ _ h => h) (Or.inr ⟨by rfl, rfl⟩) ?_ ?_
                    rotate_left
                    ·
                     simp only [Act.put, qy, qz, ja, i64_w, i32_w]
                     rfl
                    refine pure_ (i := 35) (N := some 216) (v := undef) (a' := ?_) (jl 40 68719476735) rfl rfl (xE HT_.out jk) (fun _ _ _ h => h) (Or.inr ⟨by rfl, rfl⟩) ?_ ?_
                    rotate_left
                    ·
                     simp only [Act.put, qy, qz, ja, i64_w, i32_w]
                     rfl
                    refine pure_ (i := 36) (N := some 217) (v := undef) (a' := ?_) (jl 40 137438953471) rfl rfl (xE HT_.out jk) (fun _ _ _ h => h) (Or.inr ⟨by rfl, rfl⟩) ?_ ?_
                    rotate_left
                    ·
                     simp only [Act.put, qy, qz, ja, i64_w, i32_w]
                     rfl
                    refine pure_ (i := 37) (N := some 218) (v := undef) (a' := ?_) (jl 40 274877906943) rfl rfl (xE HT_.out jk) (fun _ _ _ h => h) (Or.inr ⟨by rfl, rfl⟩) ?_ ?_
                    rotate_left
                    ·
                     simp only [Act.put, qy, qz, ja, i64_w, i32_w]
                     rfl
                    refine pure_ (i := 38) (N := some 219) (v := undef) (a' := ?_) (jl 40 549755813887) rfl rfl (xE HT_.out jk) (fun _ _ _ h => h) (Or.inr ⟨by rfl, rfl⟩) ?_ ?_
                    rotate_left
                    ·
                     simp only [Act.put, qy, qz, ja, i64_w, i32_w]
                     rfl
                    refine pure_ (i := 39) (N := some 220) (v := ?_) (a' := ?_) (jl 40 1099511627775) rfl rfl (xE HT_.out jk) (fun _ _ _ h => h) (Or.inl ⟨by rfl, ?_⟩) ?_ ?_
                    rotate_left
                    ·
                     intro w'
                     go_simp
                     with_reducible rfl
                    rotate_left
                    ·
                     simp only [Act.put, qy, qz, ja, i64_w, i32_w]
                     rfl
                    refine done_ (done_of HT_.out jk) ?_
                    try go_wp2
                    go_meet
                    case rel => exact ⟨_, (true), qf, H', ⟨by have := HJ8.out; have := HJ17.out; have := HK3.out; have := HJ59.out; have := HJ63.out; have := HK6.out; have := HJ66.out; have := HK8.out; first | omega | exact Nat.le_refl _⟩, ⟨qi HO_9.out⟩, ⟨qh HO_19.out⟩, ⟨qh HO_20.out⟩, ⟨qi HO_23.out⟩, ⟨qi HO_24.out⟩, ⟨qn BK1167.out⟩, ⟨qo GE1167.out⟩⟩
                   rw [if_neg c84] at H
                   have c84b0 : decide ((rd t1168 x22_6) < (wrap64 ((wrap64 ((wrap64 (t1165 * (rd (rd_L1 l0 x22_6) x25_8))) - t1164)) + (rd t1168 x25_8)))) = false := qv c84
                   clear c84
                   have H' := xA.mk H
                   clear H
                   try go_wp2
                   have n0_ := xA.mk (Kd.R_drew HO_9.out)
                   have n1_ := xA.mk (Kd.xV HO_19.out)
                   have n2_ := xA.mk (Kd.xV HO_20.out)
                   have n3_ := xA.mk (Kd.R_drew HO_23.out)
                   have n4_ := xA.mk (Kd.R_drew HO_24.out)
                   have n5_ := xA.mk (xH BK1167.out)
                   have n6_ := xA.mk (xN HB.out)
                   clear HO_9
                   clear HO_19
                   clear HO_20
                   clear HO_23
                   clear HO_24
                   clear BK1167
                   clear HB
                   have HO_9 := n0_
                   have HO_19 := n1_
                   have HO_20 := n2_
                   have HO_23 := n3_
                   have HO_24 := n4_
                   have BK1167 := n5_
                   have HB := n6_
                   clear n0_ n1_ n2_ n3_ n4_ n5_ n6_
                   have p1191 : 0 ≤ (x22_6 : Int) := qr
                   have q1191 : x22_6 < (l0.length : Int) := qr
                   obtain ⟨ad1191, A1191_0, c1191_0, e1191, hx1191_0, hl1191_0, hi1191_0⟩ := at_L1 HR0.out x22_6 p1191 q1191
                   have hw1191_0 := hx1191_0
                   cases e1191
                   replace hx1191_0 := (HB.out.cell (World.block_lt_of_cell? w _ hx1191_0)).trans hx1191_0
                   have HR1191_0 := xA.mk hi1191_0
                   have HC1191_0 := xA.mk hl1191_0
                   clear hi1191_0 hl1191_0
                   replace p1191 := eq_true p1191
                   replace q1191 := eq_true q1191
                   have p1192 : 0 ≤ (x25_8 : Int) := qr
                   have q1192 : x25_8 < ((rd_L1 l0 x22_6).length : Int) := qr
                   obtain ⟨ad1192, e1192, hx1192_0⟩ := Kd.xU HR1191_0.out x25_8 p1192 q1192
                   have hw1192_0 := hx1192_0
                   cases e1192
                   replace hx1192_0 := (HB.out.cell (World.block_lt_of_cell? w _ hx1192_0)).trans hx1192_0
                   replace p1192 := eq_true p1192
                   replace q1192 := eq_true q1192
                   have p1194 : 0 ≤ (x22_6 : Int) := qr
                   have q1194 : x22_6 < (l0.length : Int) := qr
                   obtain ⟨ad1194, A1194_0, c1194_0, e1194, hx1194_0, hl1194_0, hi1194_0⟩ := at_L1 HR0.out x22_6 p1194 q1194
                   have hw1194_0 := hx1194_0
                   obtain rfl : ad1191 = ad1194 := (by injection e1194)
                   replace hx1194_0 := (HB.out.cell (World.block_lt_of_cell? w _ hx1194_0)).trans hx1194_0
                   have HR1194_0 := xA.mk hi1194_0
                   have HC1194_0 := xA.mk hl1194_0
                   clear hi1194_0 hl1194_0
                   replace p1194 := eq_true p1194
                   replace q1194 := eq_true q1194
                   have ea_ := qx (hx1191_0.symm.trans hx1194_0)
                   injection ea_ with ea_ en_ ec_
                   subst ea_
                   subst ec_
                   clear en_
                   have p1195 : 0 ≤ (x25_8 : Int) := qr
                   have q1195 : x25_8 < ((rd_L1 l0 x22_6).length : Int) := qr
                   obtain ⟨ad1195, e1195, hx1195_0⟩ := Kd.xU HR1194_0.out x25_8 p1195 q1195
                   have hw1195_0 := hx1195_0
                   cases e1195
                   replace hx1195_0 := (HB.out.cell (World.block_lt_of_cell? w _ hx1195_0)).trans hx1195_0
                   replace p1195 := eq_true p1195
                   replace q1195 := eq_true q1195
                   obtain ⟨Ao88, co88, eo88⟩ := Kd.R_slice HO_9.out
                   (first | subst eo88 | (injection eo88 with f1_ f2_ f3_; have f4_ := f1_.symm; have f5_ := f3_.symm; clear f1_ f2_ f3_; subst f4_; subst f5_))
                   have p1196 : 0 ≤ (x25_8 : Int) := qr
                   have q1196 : x25_8 < (t1168.length : Int) := qr
                   obtain ⟨ad1196, e1196, hx1196_0⟩ := Kd.xU (Kd.yE HO_9.out).2.2 x25_8 p1196 q1196
                   cases e1196
                   replace p1196 := eq_true p1196
                   replace q1196 := eq_true q1196
                   have p1197 : 0 ≤ (x22_6 : Int) := qr
                   have q1197 : x22_6 < (t1168.length : Int) := qr
                   obtain ⟨ad1197, e1197, hx1197_0⟩ := Kd.xU (Kd.yE HO_9.out).2.2 x22_6 p1197 q1197
                   obtain rfl : ad1196 = ad1197 := (by injection e1197)
                   replace p1197 := eq_true p1197
                   replace q1197 := eq_true q1197
                   have p1198 : 0 ≤ (x22_6 : Int) := qr
                   have q1198 : x22_6 < (t1168.length : Int) := qr
                   obtain ⟨ad1198, e1198, hx1198_0⟩ := Kd.xU (Kd.yE HO_9.out).2.2 x22_6 p1198 q1198
                   obtain rfl : ad1196 = ad1198 := (by injection e1198)
                   replace p1198 := eq_true p1198
                   replace q1198 := eq_true q1198
                   refine start_ (n := 40) (S := fun w' => w'.cell? ⟨gb1167, 0, none⟩ = some (.int .i64 t1164) ∧ w'.cell? ⟨gb1167, 1, none⟩ = some (.int .i64 t1165) ∧ w'.cell? (ad1191.add (x22_6).toNat) = some (.slice (some ad1192) (rd_L1 l0 x22_6).length c1191_0) ∧ w'.cell? (ad1192.add (x25_8).toNat) = some (.int .i64 (rd (rd_L1 l0 x22_6) x25_8)) ∧ w'.cell? (ad1191.add (x22_6).toNat) = some (.slice (some ad1192) (rd_L1 l0 x22_6).length c1191_0) ∧ w'.cell? (ad1192.add (x25_8).toNat) = some (.int .i64 (rd (rd_L1 l0 x22_6) x25_8)) ∧ w'.cell? (ad1196.add (x25_8).toNat) = some (.int .i64 (rd t1168 x25_8)) ∧ w'.cell? (ad1196.add (x22_6).toNat) = some (.int .i64 (rd t1168 x22_6)) ∧ w'.cell? (ad1196.add (x22_6).toNat) = some (.int .i64 (rd t1168 x22_6))) (ds := []) (jl 40 0) jk rfl rfl ⟨(xB BK1167.out 0).trans rfl, (xB BK1167.out 1).trans rfl, ((HB.out.cell (World.block_lt_of_cell? w _ hw1191_0)).trans hw1191_0), ((HB.out.cell (World.block_lt_of_cell? w _ hw1192_0)).trans hw1192_0), ((HB.out.cell (World.block_lt_of_cell? w _ hw1194_0)).trans hw1194_0), ((HB.out.cell (World.block_lt_of_cell? w _ hw1195_0)).trans hw1195_0), hx1196_0, hx1197_0, hx1198_0⟩ (fun hHeld => ?_); refine with_tabW l5LineDuality.tab36 l5LineDuality.bits36 (fun HT_ HW_ => ?_)
                   generalize wr.drew = w87 at HO_9 HO_19 HO_20 HO_23 HO_24 BK1167 HB HR1191_0 HR1194_0 hx1191_0 hx1192_0 hx1194_0 hx1195_0 hx1196_0 hx1197_0 hx1198_0 hHeld ⊢
                   refine pure_ (i := 0) (N := some 181) (v := ?_) (a' := ?_) (jl 40 1) rfl rfl (xE HT_.out jk) (fun _ _ _ h => h) (Or.inl ⟨by rfl, ?_⟩) ?_ ?_
                   rotate_left
                   ·
                    intro w'
                    go_simp
                    with_reducible rfl
                   rotate_left
                   ·
                    simp only [Act.put, qy, qz, ja, i64_w, i32_w]
                    rfl
                   refine pure_ (i := 1) (N := some 182) (v := ?_) (a' := ?_) (jl 40 3) rfl rfl (xE HT_.out jk) (fun _ _ _ h => h) (Or.inl ⟨by rfl, ?_⟩) ?_ ?_
                   rotate_left
                   ·
                    intro w'
                    go_simp
                    with_reducible rfl
                   rotate_left
                   ·
                    simp only [Act.put, qy, qz, ja, i64_w, i32_w]
                    rfl
                   refine pure_ (i := 2) (N := some 183) (v := ?_) (a' := ?_) (jl 40 7) rfl rfl (xE HT_.out jk) (fun _ _ _ h => h) (Or.inl ⟨by rfl, ?_⟩) ?_ ?_
                   rotate_left
                   ·
                    intro w'
                    go_simp
                    with_reducible rfl
                   rotate_left
                   ·
                    simp only [Act.put, qy, qz, ja, i64_w, i32_w]
                    rfl
                   refine pure_ (i := 4) (N := some 185) (v := ?_) (a' := ?_) (jl 40 23) rfl rfl (xE HT_.out jk) (fun _ _ _ h => h) (Or.inl ⟨by rfl, ?_⟩) ?_ ?_
                   rotate_left
                   ·
                    intro w'
                    go_simp
                    with_reducible rfl
                   rotate_left
                   ·
                    simp only [Act.put, qy, qz, ja, i64_w, i32_w]
                    rfl
                   refine take_ (i := 3) (N := some 184) (v := ?_) (a' := ?_) (jl 40 31) rfl rfl (xY HT_.out HW_.out jk) (fun _ _ _ h => h) (Or.inl ⟨by rfl, ?_⟩) hHeld ?_ ?_
                   rotate_left
                   ·
                    rintro w' ⟨s0, s1, s2, s3, s4, s5, s6, s7, s8⟩
                    go_simp
                    with_reducible rfl
                   rotate_left
                   ·
                    simp only [Act.put, qy, qz, ja, i64_w, i32_w]
                    rfl
                   refine pure_ (i := 5) (N := some 186) (v := ?_) (a' := ?_) (jl 40 63) rfl rfl (xE HT_.out jk) (fun _ _ _ h => h) (Or.inl ⟨by rfl, ?_⟩) ?_ ?_
                   rotate_left
                   ·
                    intro w'
                    go_simp
                    with_reducible rfl
                   rotate_left
                   ·
                    simp only [Act.put, qy, qz, ja, i64_w, i32_w]
                    rfl
                   refine take_ (i := 6) (N := some 187) (v := ?_) (a' := ?_) (jl 40 127) rfl rfl (xY HT_.out HW_.out jk) (fun _ _ _ h => h) (Or.inl ⟨by rfl, ?_⟩) hHeld ?_ ?_
                   rotate_left
                   ·
                    rintro w' ⟨s0, s1, s2, s3, s4, s5, s6, s7, s8⟩
                    go_simp
                    with_reducible rfl
                   rotate_left
                   ·
                    simp only [Act.put, qy, qz, ja, i64_w, i32_w]
                    rfl
                   refine pure_ (i := 7) (N := some 188) (v := ?_) (a' := ?_) (jl 40 255) rfl rfl (xE HT_.out jk) (fun _ _ _ h => h) (Or.inl ⟨by rfl, ?_⟩) ?_ ?_
                   rotate_left
                   ·
                    intro w'
                    go_simp
                    with_reducible rfl
                   rotate_left
                   ·
                    simp only [Act.put, qy, qz, ja, i64_w, i32_w]
                    rfl
                   refine pure_ (i := 8) (N := some 189) (v := ?_) (a' := ?_) (jl 40 511) rfl rfl (xE HT_.out jk) (fun _ _ _ h => h) (Or.inl ⟨by rfl, ?_⟩) ?_ ?_
                   rotate_left
                   ·
                    intro w'
                    go_simp
                    with_reducible rfl
                   rotate_left
                   ·
                    simp only [Act.put, qy, qz, ja, i64_w, i32_w]
                    rfl
                   refine pure_ (i := 9) (N := some 190) (v := ?_) (a' := ?_) (jl 40 1023) rfl rfl (xE HT_.out jk) (fun _ _ _ h => h) (Or.inl ⟨by rfl, ?_⟩) ?_ ?_
                   rotate_left
                   ·
                    intro w'
                    go_simp
                    with_reducible rfl
                   rotate_left
                   ·
                    simp only [Act.put, qy, qz, ja, i64_w, i32_w]
                    rfl
                   refine pure_ (i := 11) (N := some 192) (v := ?_) (a' := ?_) (jl 40 3071) rfl rfl (xE HT_.out jk) (fun _ _ _ h => h) (Or.inl ⟨by rfl, ?_⟩) ?_ ?_
                   rotate_left
                   ·
                    intro w'
                    go_simp
                    with_reducible rfl
                   rotate_left
                   ·
                    simp only [Act.put, qy, qz, ja, i64_w, i32_w]
                    rfl
                   refine pure_ (i := 12) (N := some 193) (v := ?_) (a' := ?_) (jl 40 7167) rfl rfl (xE HT_.out jk) (fun _ _ _ h => h) (Or.inl ⟨by rfl, ?_⟩) ?_ ?_
                   rotate_left
                   ·
                    intro w'
                    go_simp
                    with_reducible rfl
                   rotate_left
                   ·
                    simp only [Act.put, qy, qz, ja, i64_w, i32_w]
                    rfl
                   refine pure_ (i := 13) (N := some 194) (v := ?_) (a' := ?_) (jl 40 15359) rfl rfl (xE HT_.out jk) (fun _ _ _ h => h) (Or.inl ⟨by rfl, ?_⟩) ?_ ?_
                   rotate_left
                   ·
                    intro w'
                    go_simp
                    with_reducible rfl
                   rotate_left
                   ·
                    simp only [Act.put, qy, qz, ja, i64_w, i32_w]
                    rfl
                   refine pure_ (i := 15) (N := some 196) (v := ?_) (a' := ?_) (jl 40 48127) rfl rfl (xE HT_.out jk) (fun _ _ _ h => h) (Or.inl ⟨by rfl, ?_⟩) ?_ ?_
                   rotate_left
                   ·
                    intro w'
                    go_simp
                    with_reducible rfl
                   rotate_left
                   ·
                    simp only [Act.put, qy, qz, ja, i64_w, i32_w]
                    rfl
                   refine pure_ (i := 19) (N := some 200) (v := ?_) (a' := ?_) (jl 40 572415) rfl rfl (xE HT_.out jk) (fun _ _ _ h => h) (Or.inl ⟨by rfl, ?_⟩) ?_ ?_
                   rotate_left
                   ·
                    intro w'
                    go_simp
                    with_reducible rfl
                   rotate_left
                   ·
                    simp only [Act.put, qy, qz, ja, i64_w, i32_w]
                    rfl
                   refine pure_ (i := 22) (N := some 203) (v := ?_) (a' := ?_) (jl 40 4766719) rfl rfl (xE HT_.out jk) (fun _ _ _ h => h) (Or.inl ⟨by rfl, ?_⟩) ?_ ?_
                   rotate_left
                   ·
                    intro w'
                    go_simp
                    with_reducible rfl
                   rotate_left
                   ·
                    simp only [Act.put, qy, qz, ja, i64_w, i32_w]
                    rfl
                   refine pure_ (i := 23) (N := some 204) (v := ?_) (a' := ?_) (jl 40 13155327) rfl rfl (xE HT_.out jk) (fun _ _ _ h => h) (Or.inl ⟨by rfl, ?_⟩) ?_ ?_
                   rotate_left
                   ·
                    intro w'
                    go_simp
                    with_reducible rfl
                   rotate_left
                   ·
                    simp only [Act.put, qy, qz, ja, i64_w, i32_w]
                    rfl
                   refine pure_ (i := 24) (N := some 205) (v := ?_) (a' := ?_) (jl 40 29932543) rfl rfl (xE HT_.out jk) (fun _ _ _ h => h) (Or.inl ⟨by rfl, ?_⟩) ?_ ?_
                   rotate_left
                   ·
                    intro w'
                    go_simp
                    with_reducible rfl
                   rotate_left
                   ·
                    simp only [Act.put, qy, qz, ja, i64_w, i32_w]
                    rfl
                   refine pure_ (i := 27) (N := some 208) (v := ?_) (a' := ?_) (jl 40 164150271) rfl rfl (xE HT_.out jk) (fun _ _ _ h => h) (Or.inl ⟨by rfl, ?_⟩) ?_ ?_
                   rotate_left
                   ·
                    intro w'
                    go_simp
                    with_reducible rfl
                   rotate_left
                   ·
                    simp only [Act.put, qy, qz, ja, i64_w, i32_w]
                    rfl
                   refine pure_ (i := 28) (N := some 209) (v := ?_) (a' := ?_) (jl 40 432585727) rfl rfl (xE HT_.out jk) (fun _ _ _ h => h) (Or.inl ⟨by rfl, ?_⟩) ?_ ?_
                   rotate_left
                   ·
                    intro w'
                    go_simp
                    with_reducible rfl
                   rotate_left
                   ·
                    simp only [Act.put, qy, qz, ja, i64_w, i32_w]
                    rfl
                   refine pure_ (i := 29) (N := some 210) (v := ?_) (a' := ?_) (jl 40 969456639) rfl rfl (xE HT_.out jk) (fun _ _ _ h => h) (Or.inl ⟨by rfl, ?_⟩) ?_ ?_
                   rotate_left
                   ·
                    intro w'
                    go_simp
                    with_reducible rfl
                   rotate_left
                   ·
                    simp only [Act.put, qy, qz, ja, i64_w, i32_w]
                    rfl
                   refine take_ (i := 10) (N := some 191) (v := ?_) (a' := ?_) (jl 40 969457663) rfl rfl (xY HT_.out HW_.out jk) (fun _ _ _ h => h) (Or.inl ⟨by rfl, ?_⟩) hHeld ?_ ?_
                   rotate_left
                   ·
                    rintro w' ⟨s0, s1, s2, s3, s4, s5, s6, s7, s8⟩
                    go_simp
                    with_reducible rfl
                   rotate_left
                   ·
                    simp only [Act.put, qy, qz, ja, i64_w, i32_w]
                    rfl
                   refine take_ (i := 14) (N := some 195) (v := ?_) (a' := ?_) (jl 40 969474047) rfl rfl (xY HT_.out HW_.out jk) (fun _ _ _ h => h) (Or.inl ⟨by rfl, ?_⟩) hHeld ?_ ?_
                   rotate_left
                   ·
                    rintro w' ⟨s0, s1, s2, s3, s4, s5, s6, s7, s8⟩
                    go_simp
                    with_reducible rfl
                   rotate_left
                   ·
                    simp only [Act.put, qy, qz, ja, i64_w, i32_w]
                    rfl
                   refine pure_ (i := 16) (N := some 197) (v := ?_) (a' := ?_) (jl 40 969539583) rfl rfl (xE HT_.out jk) (fun _ _ _ h => h) (Or.inl ⟨by rfl, ?_⟩) ?_ ?_
                   rotate_left
                   ·
                    intro w'
                    go_simp
                    with_reducible rfl
                   rotate_left
                   ·
                    simp only [Act.put, qy, qz, ja, i64_w, i32_w]
                    rfl
                   refine take_ (i := 17) (N := some 198) (v := ?_) (a' := ?_) (jl 40 969670655) rfl rfl (xY HT_.out HW_.out jk) (fun _ _ _ h => h) (Or.inl ⟨by rfl, ?_⟩) hHeld ?_ ?_
                   rotate_left
                   ·
                    rintro w' ⟨s0, s1, s2, s3, s4, s5, s6, s7, s8⟩
                    go_simp
                    with_reducible rfl
                   rotate_left
                   ·
                    simp only [Act.put, qy, qz, ja, i64_w, i32_w]
                    rfl
                   refine pure_ (i := 18) (N := some 199) (v := ?_) (a' := ?_) (jl 40 969932799) rfl rfl (xE HT_.out jk) (fun _ _ _ h => h) (Or.inl ⟨by rfl, ?_⟩) ?_ ?_
                   rotate_left
                   ·
                    intro w'
                    go_simp
                    with_reducible rfl
                   rotate_left
                   ·
                    simp only [Act.put, qy, qz, ja, i64_w, i32_w]
                    rfl
                   refine take_ (i := 20) (N := some 201) (v := ?_) (a' := ?_) (jl 40 970981375) rfl rfl (xY HT_.out HW_.out jk) (fun _ _ _ h => h) (Or.inl ⟨by rfl, ?_⟩) hHeld ?_ ?_
                   rotate_left
                   ·
                    rintro w' ⟨s0, s1, s2, s3, s4, s5, s6, s7, s8⟩
                    go_simp
                    with_reducible rfl
                   rotate_left
                   ·
                    simp only [Act.put, qy, qz, ja, i64_w, i32_w]
                    rfl
                   refine pure_ (i := 21) (N := some 202) (v := ?_) (a' := ?_) (jl 40 973078527) rfl rfl (xE HT_.out jk) (fun _ _ _ h => h) (Or.inl ⟨by rfl, ?_⟩) ?_ ?_
                   rotate_left
                   ·
                    intro w'
                    go_simp
                    with_reducible rfl
                   rotate_left
                   ·
                    simp only [Act.put, qy, qz, ja, i64_w, i32_w]
                    rfl
                   refine take_ (i := 25) (N := some 206) (v := ?_) (a' := ?_) (jl 40 1006632959) rfl rfl (xY HT_.out HW_.out jk) (fun _ _ _ h => h) (Or.inl ⟨by rfl, ?_⟩) hHeld ?_ ?_
                   rotate_left
                   ·
                    rintro w' ⟨s0, s1, s2, s3, s4, s5, s6, s7, s8⟩
                    go_simp
                    with_reducible rfl
                   rotate_left
                   ·
                    simp only [Act.put, qy, qz, ja, i64_w, i32_w]
                    rfl
                   refine pure_ (i := 26) (N := some 207) (v := ?_) (a' := ?_) (jl 40 1073741823) rfl rfl (xE HT_.out jk) (fun _ _ _ h => h) (Or.inl ⟨by rfl, ?_⟩) ?_ ?_
                   rotate_left
                   ·
                    intro w'
                    go_simp
                    with_reducible rfl
                   rotate_left
                   ·
                    simp only [Act.put, qy, qz, ja, i64_w, i32_w]
                    rfl
                   refine take_ (i := 30) (N := some 211) (v := ?_) (a' := ?_) (jl 40 2147483647) rfl rfl (xY HT_.out HW_.out jk) (fun _ _ _ h => h) (Or.inl ⟨by rfl, ?_⟩) hHeld ?_ ?_
                   rotate_left
                   ·
                    rintro w' ⟨s0, s1, s2, s3, s4, s5, s6, s7, s8⟩
                    go_simp
                    with_reducible rfl
                   rotate_left
                   ·
                    simp only [Act.put, qy, qz, ja, i64_w, i32_w]
                    rfl
                   refine pure_ (i := 31) (N := some 212) (v := ?_) (a' := ?_) (jl 40 4294967295) rfl rfl (xE HT_.out jk) (fun _ _ _ h => h) (Or.inl ⟨by rfl, ?_⟩) ?_ ?_
                   rotate_left
                   ·
                    intro w'
                    go_simp
                    with_reducible rfl
                   rotate_left
                   ·
                    simp only [Act.put, qy, qz, ja, i64_w, i32_w]
                    rfl
                   refine pure_ (i := 32) (N := some 213) (v := ?_) (a' := ?_) (jl 40 8589934591) rfl rfl (xE HT_.out jk) (fun _ _ _ h => h) (Or.inl ⟨by rfl, ?_⟩) ?_ ?_
                   rotate_left
                   ·
                    intro w'
                    go_simp
                    with_reducible rfl
                   rotate_left
                   ·
                    simp only [Act.put, qy, qz, ja, i64_w, i32_w]
                    rfl
                   refine pure_ (i := 33) (N := some 214) (v := ?_) (a' := ?_) (jl 40 17179869183) rfl rfl (xE HT_.out jk) (fun _ _ _ h => h) (Or.inl ⟨by rfl, ?_⟩) ?_ ?_
                   rotate_left
                   ·
                    intro w'
                    go_simp
                    with_reducible rfl
                   rotate_left
                   ·
                    simp only [Act.put, qy, qz, ja, i64_w, i32_w]
                    rfl
                   refine pure_ (i := 34) (N := some 215) (v := ?_) (a' := ?_) (jl 40 34359738367) rfl rfl (xE HT_.out jk) (fun _ _ _ h => h) (Or.inl ⟨by rfl, ?_⟩) ?_ ?_
                   rotate_left
                   ·
                    intro w'
                    go_simp
                    with_reducible rfl
                   rotate_left
                   ·
                    simp only [Act.put, qy, qz, ja, i64_w, i32_w]
                    rfl
                   refine pure_ (i := 35) (N := some 216) (v := ?_) (a' := ?_) (jl 40 68719476735) rfl rfl (xE HT_.out jk) (fun _ _ _ h => h) (Or.inl ⟨by rfl, ?_⟩) ?_ ?_
                   rotate_left
                   ·
                    intro w'
                    go_simp
                    with_reducible rfl
                   rotate_left
                   ·
                    simp only [Act.put, qy, qz, ja, i64_w, i32_w]
                    rfl
                   refine pure_ (i := 36) (N := some 217) (v := ?_) (a' := ?_) (jl 40 137438953471) rfl rfl (xE HT_.out jk) (fun _ _ _ h => h) (Or.inl ⟨by rfl, ?_⟩) ?_ ?_
                   rotate_left
                   ·
                    intro w'
                    go_simp
                    with_reducible rfl
                   rotate_left
                   ·
                    simp only [Act.put, qy, qz, ja, i64_w, i32_w]
                    rfl
                   refine take_ (i := 37) (N := some 218) (v := ?_) (a' := ?_) (jl 40 274877906943) rfl rfl (xY HT_.out HW_.out jk) (fun _ _ _ h => h) (Or.inl ⟨by rfl, ?_⟩) hHeld ?_ ?_
                   rotate_left
                   ·
                    rintro w' ⟨s0, s1, s2, s3, s4, s5, s6, s7, s8⟩
                    go_simp
                    with_reducible rfl
                   rotate_left
                   ·
                    simp only [Act.put, qy, qz, ja, i64_w, i32_w]
                    rfl
                   refine pure_ (i := 38) (N := some 219) (v := ?_) (a' := ?_) (jl 40 549755813887) rfl rfl (xE HT_.out jk) (fun _ _ _ h => h) (Or.inl ⟨by rfl, ?_⟩) ?_ ?_
                   rotate_left
                   ·
                    intro w'
                    go_simp
                    with_reducible rfl
                   rotate_left
                   ·
                    simp only [Act.put, qy, qz, ja, i64_w, i32_w]
                    rfl
                   refine pure_ (i := 39) (N := some 220) (v := ?_) (a' := ?_) (jl 40 1099511627775) rfl rfl (xE HT_.out jk) (fun _ _ _ h => h) (Or.inl ⟨by rfl, ?_⟩) ?_ ?_
                   rotate_left
                   ·
                    intro w'
                    go_simp
                    with_reducible rfl
                   rotate_left
                   ·
                    simp only [Act.put, qy, qz, ja, i64_w, i32_w]
                    rfl
                   refine done_ (done_of HT_.out jk) ?_
                   try go_wp2
                   go_meet
                   case rel => exact ⟨_, (decide ((rd t1168 x22_6) < 0)), qf, H', ⟨by have := HJ8.out; have := HJ17.out; have := HK3.out; have := HJ59.out; have := HJ63.out; have := HK6.out; have := HJ66.out; have := HK8.out; first | omega | exact Nat.le_refl _⟩, ⟨qi HO_9.out⟩, ⟨qh HO_19.out⟩, ⟨qh HO_20.out⟩, ⟨qi HO_23.out⟩, ⟨qi HO_24.out⟩, ⟨qn BK1167.out⟩, ⟨qo GE1167.out⟩⟩
                 case rest =>
                  as_aux_lemma =>
                   clear HC73
                   try clear c1
                   try clear p1
                   try clear q1
                   try clear hx1
                   try clear p2
                   try clear p6
                   try clear c7
                   try clear c8
                   try clear c11
                   try clear p11
                   try clear q11
                   try clear hx11
                   try clear p64
                   try clear c74
                   try clear c75
                   try clear c76
                   try clear c77
                   try clear c82
                   try clear c83
                   try clear c84
                   try clear c84b0
                   try clear hx1191_0
                   try clear hx1192_0
                   try clear hx1194_0
                   try clear hx1195_0
                   try clear hx1196_0
                   try clear hx1197_0
                   try clear hx1198_0
                   try clear p1191
                   try clear p1192
                   try clear p1194
                   try clear p1195
                   try clear p1196
                   try clear p1197
                   try clear p1198
                   try clear q1191
                   try clear q1192
                   try clear q1194
                   try clear q1195
                   try clear q1196
                   try clear q1197
                   try clear q1198
                   obtain ⟨kq, x220_72, rfl, HA, HJ72, HO_9, HO_19, HO_20, HO_23, HO_24, BK1167, HB⟩ := hcut
                   obtain _ | kj72 := kq
                   · exact absurd HA.out (by simp [l5LineDuality.j8])
                   have H := HA.out
                   clear HA
                   simp only [l5LineDuality.j8] at H
                   by_cases c89 : x220_72 = true
                   ·
                    subst c89
                    have H1 : (some false) = some r := by rw [if_pos rfl] at H; exact H
                    clear H
                    have H := H1
                    clear H1
                    exact absurd (H.trans (congrArg some hr_.out)) (by simp)
                   replace c89 := Bool.eq_false_iff.mpr c89
                   subst c89
                   have H1 : (if 0 ≤ x25_8 then (if x25_8 < (l0.length : Int) then (if 0 ≤ x22_6 then (if x22_6 < ((rd_L1 l0 x25_8).length : Int) then (if x23_8.length < 17592186044416 then (if (l0.length : Int) = 0 then (none) else (if 0 ≤ (Int.tmod (wrap64 (x22_6 + (wrap64 (a2)))) (l0.length : Int)) then (if (Int.tmod (wrap64 (x22_6 + (wrap64 (a2)))) (l0.length : Int)) < (l0.length : Int) then (if 0 ≤ (Int.tmod (wrap64 (x25_8 + (wrap64 (a2)))) (l0.length : Int)) then (if (Int.tmod (wrap64 (x25_8 + (wrap64 (a2)))) (l0.length : Int)) < ((rd_L1 l0 (Int.tmod (wrap64 (x22_6 + (wrap64 (a2)))) (l0.length : Int))).length : Int) then ((l5plus.f (rd (rd_L1 l0 (Int.tmod (wrap64 (x22_6 + (wrap64 (a2)))) (l0.length : Int))) (Int.tmod (wrap64 (x25_8 + (wrap64 (a2)))) (l0.length : Int))) x21_63).bind fun t1206 => (if x24_8.length < 17592186044416 then (l5LineDuality.l2 kj72 l0 a2 t1168 (l0.length : Int) x18_66 x19_6 x20_6 x21_63 x22_6 (x23_8 ++ [rd (rd_L1 l0 x25_8) x22_6]) (x24_8 ++ [t1206]) (wrap64 (x25_8 + 1)) t1164 t1165) else (none))) else (none)) else (none)) else (none)) else (none))) else (none)) else (none)) else (none)) else (none)) else (none)) = some r := by rw [if_neg (show ¬ (false = true) by decide)] at H; exact H
                   clear H
                   have H := H1
                   clear H1
                   obtain ⟨c90b0, H⟩ := xL H
                   obtain ⟨c91b0, H⟩ := xL H
                   obtain ⟨c92b0, H⟩ := xL H
                   obtain ⟨c93b0, H⟩ := xL H
                   obtain ⟨c94, H⟩ := ite_some H
                   have LMc94 := xA.mk c94
                   clear c94
                   obtain ⟨y1201, hy1201⟩ : ∃ y_ : List Int, y_ = (x23_8 ++ [rd (rd_L1 l0 x25_8) x22_6]) := ⟨_, rfl⟩
                   replace H : (if (l0.length : Int) = 0 then (none) else (if 0 ≤ (Int.tmod (wrap64 (x22_6 + (wrap64 (a2)))) (l0.length : Int)) then (if (Int.tmod (wrap64 (x22_6 + (wrap64 (a2)))) (l0.length : Int)) < (l0.length : Int) then (if 0 ≤ (Int.tmod (wrap64 (x25_8 + (wrap64 (a2)))) (l0.length : Int)) then (if (Int.tmod (wrap64 (x25_8 + (wrap64 (a2)))) (l0.length : Int)) < ((rd_L1 l0 (Int.tmod (wrap64 (x22_6 + (wrap64 (a2)))) (l0.length : Int))).length : Int) then ((l5plus.f (rd (rd_L1 l0 (Int.tmod (wrap64 (x22_6 + (wrap64 (a2)))) (l0.length : Int))) (Int.tmod (wrap64 (x25_8 + (wrap64 (a2)))) (l0.length : Int))) x21_63).bind fun t1206 => (if x24_8.length < 17592186044416 then (l5LineDuality.l2 kj72 l0 a2 t1168 (l0.length : Int) x18_66 x19_6 x20_6 x21_63 x22_6 y1201 (x24_8 ++ [t1206]) (wrap64 (x25_8 + 1)) t1164 t1165) else (none))) else (none)) else (none)) else (none)) else (none))) = some r := by first | (rw [hy1201]; with_reducible exact H) | (have H2_ := (Option.bind_some _ _).symm.trans H; rw [hy1201]; with_reducible exact H2_) | (have H2_ := (Option.bind_some _ _).symm.trans H; with_reducible exact H2_) | with_reducible exact H | (rw [hy1201]; exact H) | exact H
                   have Ny1201 := xA.mk hy1201
                   clear hy1201
                   by_cases c95 : (l0.length : Int) = 0
                   ·
                    rw [if_pos c95] at H
                    exact absurd H (by simp)
                   rw [if_neg c95] at H
                   have c95b0 : ((l0.length : Int) == 0) = false := jg c95
                   have c95b1 : ((l0.length : Int) != 0) = true := bne_iff_ne.mpr c95
                   have c95b2 : ¬ (l0 = []) := fun h_ => c95 (by rw [h_]; rfl)
                   obtain ⟨ji96, hji96⟩ : ∃ j_ : Int, (Int.tmod (wrap64 (x22_6 + (wrap64 (a2)))) (l0.length : Int)) = j_ := ⟨_, rfl⟩
                   replace H : (if 0 ≤ (ji96) then (if (ji96) < (l0.length : Int) then (if 0 ≤ (Int.tmod (wrap64 (x25_8 + (wrap64 (a2)))) (l0.length : Int)) then (if (Int.tmod (wrap64 (x25_8 + (wrap64 (a2)))) (l0.length : Int)) < ((rd_L1 l0 (ji96)).length : Int) then ((l5plus.f (rd (rd_L1 l0 (ji96)) (Int.tmod (wrap64 (x25_8 + (wrap64 (a2)))) (l0.length : Int))) x21_63).bind fun t1206 => (if x24_8.length < 17592186044416 then (l5LineDuality.l2 kj72 l0 a2 t1168 (l0.length : Int) x18_66 x19_6 x20_6 x21_63 x22_6 y1201 (x24_8 ++ [t1206]) (wrap64 (x25_8 + 1)) t1164 t1165) else (none))) else (none)) else (none)) else (none)) else (none)) = some r := by first | (rw [hji96] at H; exact H) | (simp only [hji96] at H ⊢; exact H)
                   obtain ⟨c97b0, H⟩ := xL H
                   obtain ⟨c98b0, H⟩ := xL H
                   obtain ⟨ji99, hji99⟩ : ∃ j_ : Int, (Int.tmod (wrap64 (x25_8 + (wrap64 (a2)))) (l0.length : Int)) = j_ := ⟨_, rfl⟩
                   replace H : (if 0 ≤ (ji99) then (if (ji99) < ((rd_L1 l0 (ji96)).length : Int) then ((l5plus.f (rd (rd_L1 l0 (ji96)) (ji99)) x21_63).bind fun t1206 => (if x24_8.length < 17592186044416 then (l5LineDuality.l2 kj72 l0 a2 t1168 (l0.length : Int) x18_66 x19_6 x20_6 x21_63 x22_6 y1201 (x24_8 ++ [t1206]) (wrap64 (x25_8 + 1)) t1164 t1165) else (none))) else (none)) else (none)) = some r := by first | (rw [hji99] at H; exact H) | (simp only [hji99] at H ⊢; exact H)
                   obtain ⟨c100b0, H⟩ := xL H
                   obtain ⟨c101b0, H⟩ := xL H
                   replace H := qw H
                   obtain ⟨t1206, A1020, H⟩ := H
                   replace H : (if x24_8.length < 17592186044416 then (l5LineDuality.l2 kj72 l0 a2 t1168 (l0.length : Int) x18_66 x19_6 x20_6 x21_63 x22_6 y1201 (x24_8 ++ [t1206]) (wrap64 (x25_8 + 1)) t1164 t1165) else (none)) = some r := H
                   have A102 := xA.mk A1020
                   clear A1020
                   obtain ⟨c103, H⟩ := ite_some H
                   have LMc103 := xA.mk c103
                   clear c103
                   obtain ⟨y1207, hy1207⟩ : ∃ y_ : List Int, y_ = (x24_8 ++ [t1206]) := ⟨_, rfl⟩
                   replace H : (l5LineDuality.l2 kj72 l0 a2 t1168 (l0.length : Int) x18_66 x19_6 x20_6 x21_63 x22_6 y1201 y1207 (wrap64 (x25_8 + 1)) t1164 t1165) = some r := by first | (rw [hy1207]; with_reducible exact H) | (have H2_ := (Option.bind_some _ _).symm.trans H; rw [hy1207]; with_reducible exact H2_) | (have H2_ := (Option.bind_some _ _).symm.trans H; with_reducible exact H2_) | with_reducible exact H | (rw [hy1207]; exact H) | exact H
                   have Ny1207 := xA.mk hy1207
                   clear hy1207
                   have H' := xA.mk H
                   clear H
                   have p1199 : 0 ≤ (x25_8 : Int) := qr
                   have q1199 : x25_8 < (l0.length : Int) := qr
                   obtain ⟨ad1199, A1199_0, c1199_0, e1199, hx1199_0, hl1199_0, hi1199_0⟩ := at_L1 HR0.out x25_8 p1199 q1199
                   cases e1199
                   replace hx1199_0 := (HB.out.cell (World.block_lt_of_cell? w _ hx1199_0)).trans hx1199_0
                   have HR1199_0 := xA.mk hi1199_0
                   have HC1199_0 := xA.mk hl1199_0
                   clear hi1199_0 hl1199_0
                   replace p1199 := eq_true p1199
                   replace q1199 := eq_true q1199
                   have p1200 : 0 ≤ (x22_6 : Int) := qr
                   have q1200 : x22_6 < ((rd_L1 l0 x25_8).length : Int) := qr
                   obtain ⟨ad1200, e1200, hx1200_0⟩ := Kd.xU HR1199_0.out x22_6 p1200 q1200
                   cases e1200
                   replace hx1200_0 := (HB.out.cell (World.block_lt_of_cell? w _ hx1200_0)).trans hx1200_0
                   replace p1200 := eq_true p1200
                   replace q1200 := eq_true q1200
                   try go_wp2_with (first | ((with_reducible refine gate_builtin (b := .append) (xs := #[.tmp 221, .tmp 229]) rfl ?_); (try (refine gate_guard (by rfl) ?_; dsimp only)); at_builtin; refine Kd.R_append (Kd.int .i64) (w0 := w) w.heap.size rfl (.tmp 221) (.tmp 229) 26 3 (.int .i64 0) 8 rfl Try.underlying26 info3 rfl (by decide) jj u23 x23_8 (rd (rd_L1 l0 x25_8) x22_6) [.int .i64 (rd (rd_L1 l0 x25_8) x22_6)] (fun k_ => some k_ ≠ (v1170 : Value).ownBlock ∧ some k_ ≠ (u24 : Value).ownBlock) (fun _ => False) rfl rfl ?aP (fun _ hk => hk.elim) ?aF ?aO ?aB ?aS ?aL ?_; (case aP => exact rfl); (case aB => exact (qo GE1167.out)); (case aF => exact (fun k_ hk => ⟨Kd.fresh' (Kd.R_lt (qi HO_9.out)) k_ hk, Kd.fresh' (Kd.R_lt (qi HO_24.out)) k_ hk⟩)); (case aO => exact (qi HO_23.out)); (case aS => exact (xD (qo GE1167.out))); (case aL => have := LMc94.out; omega); intro v1202 w104 ho hb hg hat; rw [← Ny1201.out] at ho; have n0_ := xA.mk (Kd.R_after (ok := (fun k_ => some k_ ≠ (u24 : Value).ownBlock)) (by (with_reducible repeat (first | apply Kd.R_alloc | apply Kd.R_drewN | apply Kd.R_drew)); exact Kd.xZ HO_9.out (fun _ hk => ⟨hk.2, hk.1⟩)) hg hat); have n1_ := xA.mk (Kd.S_after (ok := (fun k_ => some k_ ≠ (v1170 : Value).ownBlock ∧ some k_ ≠ (u20 : Value).ownBlock ∧ some k_ ≠ (u24 : Value).ownBlock)) (by (with_reducible repeat (first | apply Kd.S_alloc | apply Kd.yA | apply Kd.xV)); exact Kd.xQ HO_19.out (fun _ hk => ⟨⟨hk.1, ⟨hk.2.1, hk.2.2.2⟩⟩, hk.2.2.1⟩)) hg hat); have n2_ := xA.mk (Kd.S_after (ok := (fun k_ => some k_ ≠ (v1170 : Value).ownBlock ∧ some k_ ≠ (u19 : Value).ownBlock ∧ some k_ ≠ (u24 : Value).ownBlock)) (by (with_reducible repeat (first | apply Kd.S_alloc | apply Kd.yA | apply Kd.xV)); exact Kd.xQ HO_20.out (fun _ hk => ⟨⟨hk.1, ⟨hk.2.1, hk.2.2.2⟩⟩, hk.2.2.1⟩)) hg hat); have n3_ := xA.mk (Kd.R_after (ok := (fun k_ => some k_ ≠ (v1170 : Value).ownBlock)) (qi HO_24.out) hg hat); have n4_ := xA.mk (blk_grown (g := gb1167) (o := .cells #[.int .i64 t1164, .int .i64 t1165] 37 (0, 0)) (qn BK1167.out) hg (Kd.R_ne HO_23.out BK1167.out (by decide))); have n5_ := xA.mk (hb); have n6_ := xA.mk (ho); clear HO_9; clear HO_19; clear HO_20; clear HO_24; clear BK1167; clear HB; clear HO_23; have HO_9 := n0_; have HO_19 := n1_; have HO_20 := n2_; have HO_24 := n3_; have BK1167 := n4_; have HB := n5_; have HO1203 := n6_; clear n0_ n1_ n2_ n3_ n4_ n5_ n6_; clear ho hb hg hat))
                   have n0_ := xA.mk (Kd.R_drew HO_9.out)
                   have n1_ := xA.mk (Kd.xV HO_19.out)
                   have n2_ := xA.mk (Kd.xV HO_20.out)
                   have n3_ := xA.mk (Kd.R_drew HO_24.out)
                   have n4_ := xA.mk (Kd.R_drew HO1203.out)
                   have n5_ := xA.mk (xH BK1167.out)
                   have n6_ := xA.mk (xN HB.out)
                   clear HO_9
                   clear HO_19
                   clear HO_20
                   clear HO_24
                   clear HO1203
                   clear BK1167
                   clear HB
                   have HO_9 := n0_
                   have HO_19 := n1_
                   have HO_20 := n2_
                   have HO_24 := n3_
                   have HO1203 := n4_
                   have BK1167 := n5_
                   have HB := n6_
                   clear n0_ n1_ n2_ n3_ n4_ n5_ n6_
                   have p1204 : 0 ≤ ((ji96) : Int) := qr
                   have q1204 : (ji96) < (l0.length : Int) := qr
                   obtain ⟨ad1204, A1204_0, c1204_0, e1204, hx1204_0, hl1204_0, hi1204_0⟩ := at_L1 HR0.out (ji96) p1204 q1204
                   have hw1204_0 := hx1204_0
                   obtain rfl : ad1199 = ad1204 := (by injection e1204)
                   replace hx1204_0 := (HB.out.cell (World.block_lt_of_cell? w _ hx1204_0)).trans hx1204_0
                   have HR1204_0 := xA.mk hi1204_0
                   have HC1204_0 := xA.mk hl1204_0
                   clear hi1204_0 hl1204_0
                   replace p1204 := eq_true p1204
                   replace q1204 := eq_true q1204
                   have p1205 : 0 ≤ ((ji99) : Int) := qr
                   have q1205 : (ji99) < ((rd_L1 l0 (ji96)).length : Int) := qr
                   obtain ⟨ad1205, e1205, hx1205_0⟩ := Kd.xU HR1204_0.out (ji99) p1205 q1205
                   have hw1205_0 := hx1205_0
                   cases e1205
                   replace hx1205_0 := (HB.out.cell (World.block_lt_of_cell? w _ hx1205_0)).trans hx1205_0
                   replace p1205 := eq_true p1205
                   replace q1205 := eq_true q1205
                   refine start_ (n := 23) (S := fun w' => w'.cell? (ad1199.add ((ji96)).toNat) = some (.slice (some ad1205) (rd_L1 l0 (ji96)).length c1204_0) ∧ w'.cell? (ad1205.add ((ji99)).toNat) = some (.int .i64 (rd (rd_L1 l0 (ji96)) (ji99)))) (ds := []) (jl 23 0) jk rfl rfl ⟨((HB.out.cell (World.block_lt_of_cell? w _ hw1204_0)).trans hw1204_0), ((HB.out.cell (World.block_lt_of_cell? w _ hw1205_0)).trans hw1205_0)⟩ (fun hHeld => ?_); refine with_tabW l5LineDuality.tab39 l5LineDuality.bits39 (fun HT_ HW_ => ?_)
                   generalize w104.drew = w105 at HO_9 HO_19 HO_20 HO_24 HO1203 BK1167 HB HR1204_0 hx1204_0 hx1205_0 hHeld ⊢
                   refine pure_ (i := 0) (N := some 231) (v := ?_) (a' := ?_) (jl 23 1) rfl rfl (xE HT_.out jk) (fun _ _ _ h => h) (Or.inl ⟨by rfl, ?_⟩) ?_ ?_
                   rotate_left
                   ·
                    intro w'
                    go_simp
                    with_reducible rfl
                   rotate_left
                   ·
                    simp only [Act.put, qy, qz, ja, i64_w, i32_w]
                    rfl
                   refine pure_ (i := 1) (N := some 232) (v := ?_) (a' := ?_) (jl 23 3) rfl rfl (xE HT_.out jk) (fun _ _ _ h => h) (Or.inl ⟨by rfl, ?_⟩) ?_ ?_
                   rotate_left
                   ·
                    intro w'
                    go_simp
                    with_reducible rfl
                   rotate_left
                   ·
                    simp only [Act.put, qy, qz, ja, i64_w, i32_w]
                    rfl
                   refine pure_ (i := 2) (N := some 233) (v := ?_) (a' := ?_) (jl 23 7) rfl rfl (xE HT_.out jk) (fun _ _ _ h => h) (Or.inl ⟨by rfl, ?_⟩) ?_ ?_
                   rotate_left
                   ·
                    intro w'
                    go_simp
                    with_reducible rfl
                   rotate_left
                   ·
                    simp only [Act.put, qy, qz, ja, i64_w, i32_w]
                    rfl
                   refine pure_ (i := 3) (N := some 234) (v := ?_) (a' := ?_) (jl 23 15) rfl rfl (xE HT_.out jk) (fun _ _ _ h => h) (Or.inl ⟨by rfl, ?_⟩) ?_ ?_
                   rotate_left
                   ·
                    intro w'
                    go_simp
                    with_reducible rfl
                   rotate_left
                   ·
                    simp only [Act.put, qy, qz, ja, i64_w, i32_w]
                    rfl
                   refine pure_ (i := 4) (N := some 235) (v := ?_) (a' := ?_) (jl 23 31) rfl rfl (xE HT_.out jk) (fun _ _ _ h => h) (Or.inl ⟨by rfl, ?_⟩) ?_ ?_
                   rotate_left
                   ·
                    intro w'
                    go_simp
                    with_reducible rfl
                   rotate_left
                   ·
                    simp only [Act.put, qy, qz, ja, i64_w, i32_w]
                    rfl
                   refine pure_ (i := 5) (N := some 236) (v := ?_) (a' := ?_) (jl 23 63) rfl rfl (xE HT_.out jk) (fun _ _ _ h => h) (Or.inl ⟨by rfl, ?_⟩) ?_ ?_
                   rotate_left
                   ·
                    intro w'
                    go_simp
                    with_reducible rfl
                   rotate_left
                   ·
                    simp only [Act.put, qy, qz, ja, i64_w, i32_w]
                    rfl
                   refine pure_ (i := 6) (N := some 237) (v := ?_) (a' := ?_) (jl 23 127) rfl rfl (xE HT_.out jk) (fun _ _ _ h => h) (Or.inl ⟨by rfl, ?_⟩) ?_ ?_
                   rotate_left
                   ·
                    intro w'
                    go_simp
                    with_reducible rfl
                   rotate_left
                   ·
                    simp only [Act.put, qy, qz, ja, i64_w, i32_w]
                    rfl
                   refine pure_ (i := 7) (N := some 238) (v := ?_) (a' := ?_) (jl 23 255) rfl rfl (xE HT_.out jk) (fun _ _ _ h => h) (Or.inl ⟨by rfl, ?_⟩) ?_ ?_
                   rotate_left
                   ·
                    intro w'
                    go_simp
                    with_reducible rfl
                   rotate_left
                   ·
                    simp only [Act.put, qy, qz, ja, i64_w, i32_w]
                    rfl
                   refine pure_ (i := 8) (N := some 239) (v := ?_) (a' := ?_) (jl 23 511) rfl rfl (xE HT_.out jk) (fun _ _ _ h => h) (Or.inl ⟨by rfl, ?_⟩) ?_ ?_
                   rotate_left
                   ·
                    intro w'
                    go_simp
                    with_reducible rfl
                   rotate_left
                   ·
                    simp only [Act.put, qy, qz, ja, i64_w, i32_w]
                    rfl
                   refine pure_ (i := 10) (N := some 241) (v := ?_) (a' := ?_) (jl 23 1535) rfl rfl (xE HT_.out jk) (fun _ _ _ h => h) (Or.inl ⟨by rfl, ?_⟩) ?_ ?_
                   rotate_left
                   ·
                    intro w'
                    go_simp
                    with_reducible rfl
                   rotate_left
                   ·
                    simp only [Act.put, qy, qz, ja, i64_w, i32_w]
                    rfl
                   refine pure_ (i := 11) (N := some 242) (v := ?_) (a' := ?_) (jl 23 3583) rfl rfl (xE HT_.out jk) (fun _ _ _ h => h) (Or.inl ⟨by rfl, ?_⟩) ?_ ?_
                   rotate_left
                   ·
                    intro w'
                    go_simp
                    with_reducible rfl
                   rotate_left
                   ·
                    simp only [Act.put, qy, qz, ja, i64_w, i32_w]
                    rfl
                   refine pure_ (i := 12) (N := some 243) (v := ?_) (a' := ?_) (jl 23 7679) rfl rfl (xE HT_.out jk) (fun _ _ _ h => h) (Or.inl ⟨by rfl, ?_⟩) ?_ ?_
                   rotate_left
                   ·
                    intro w'
                    go_simp
                    with_reducible rfl
                   rotate_left
                   ·
                    simp only [Act.put, qy, qz, ja, i64_w, i32_w]
                    rfl
                   refine pure_ (i := 13) (N := some 244) (v := ?_) (a' := ?_) (jl 23 15871) rfl rfl (xE HT_.out jk) (fun _ _ _ h => h) (Or.inl ⟨by rfl, ?_⟩) ?_ ?_
                   rotate_left
                   ·
                    intro w'
                    go_simp
                    with_reducible rfl
                   rotate_left
                   ·
                    simp only [Act.put, qy, qz, ja, i64_w, i32_w]
                    rfl
                   refine pure_ (i := 14) (N := some 245) (v := ?_) (a' := ?_) (jl 23 32255) rfl rfl (xE HT_.out jk) (fun _ _ _ h => h) (Or.inl ⟨by rfl, ?_⟩) ?_ ?_
                   rotate_left
                   ·
                    intro w'
                    go_simp
                    with_reducible rfl
                   rotate_left
                   ·
                    simp only [Act.put, qy, qz, ja, i64_w, i32_w]
                    rfl
                   refine pure_ (i := 15) (N := some 246) (v := ?_) (a' := ?_) (jl 23 65023) rfl rfl (xE HT_.out jk) (fun _ _ _ h => h) (Or.inl ⟨by rfl, ?_⟩) ?_ ?_
                   rotate_left
                   ·
                    intro w'
                    go_simp
                    with_reducible rfl
                   rotate_left
                   ·
                    simp only [Act.put, qy, qz, ja, i64_w, i32_w]
                    rfl
                   refine pure_ (i := 18) (N := some 249) (v := ?_) (a' := ?_) (jl 23 327167) rfl rfl (xE HT_.out jk) (fun _ _ _ h => h) (Or.inl ⟨by rfl, ?_⟩) ?_ ?_
                   rotate_left
                   ·
                    intro w'
                    go_simp
                    with_reducible rfl
                   rotate_left
                   ·
                    simp only [Act.put, qy, qz, ja, i64_w, i32_w]
                    rfl
                   refine take_ (i := 9) (N := some 240) (v := ?_) (a' := ?_) (jl 23 327679) rfl rfl (xY HT_.out HW_.out jk) (fun _ _ _ h => h) (Or.inl ⟨by rfl, ?_⟩) hHeld ?_ ?_
                   rotate_left
                   ·
                    rintro w' ⟨s0, s1⟩
                    go_simp
                    with_reducible rfl
                   rotate_left
                   ·
                    simp only [Act.put, qy, qz, ja, i64_w, i32_w]
                    rfl
                   refine pure_ (i := 16) (N := some 247) (v := ?_) (a' := ?_) (jl 23 393215) rfl rfl (xE HT_.out jk) (fun _ _ _ h => h) (Or.inl ⟨by rfl, ?_⟩) ?_ ?_
                   rotate_left
                   ·
                    intro w'
                    go_simp
                    with_reducible rfl
                   rotate_left
                   ·
                    simp only [Act.put, qy, qz, ja, i64_w, i32_w]
                    rfl
                   refine take_ (i := 17) (N := some 248) (v := ?_) (a' := ?_) (jl 23 524287) rfl rfl (xY HT_.out HW_.out jk) (fun _ _ _ h => h) (Or.inl ⟨by rfl, ?_⟩) hHeld ?_ ?_
                   rotate_left
                   ·
                    rintro w' ⟨s0, s1⟩
                    go_simp
                    with_reducible rfl
                   rotate_left
                   ·
                    simp only [Act.put, qy, qz, ja, i64_w, i32_w]
                    rfl
                   refine one_ (i := 19) (N := some 250) (jl 23 1048575) rfl rfl (one_of HT_.out jk) (by decide) (fun K hK => ?_)
                   refine goes_ Try.func44 jk rfl #[.int .i64 (rd (rd_L1 l0 (ji96)) (ji99)), .int .i64 x21_63] (by rfl) rfl rfl (by (try simp only [jb, jc, jd]); first | done | (simp only [hji96, hji99]; rfl) | rfl | (simp only [jf, je]; rfl)) ?_
                   with_reducible refine (l5plus.calls (rd (rd_L1 l0 (ji96)) (ji99)) x21_63 t1206 _ A102.out).mono ?_
                   rintro e w' ⟨rfl, ⟨nd, rfl⟩⟩
                   refine ⟨_, rfl, ?_⟩
                   refine hK.out _ _ ⟨((HB.out.cell (World.block_lt_of_cell? w _ hw1204_0)).trans hw1204_0), ((HB.out.cell (World.block_lt_of_cell? w _ hw1205_0)).trans hw1205_0)⟩ (fun hHeld => ?_)
                   clear hK K
                   refine norm_ (a' := ?_) ?_ ?_
                   rotate_left
                   ·
                    show Act.put _ (some 250) _ = _
                    simp only [Act.put, qy, qz, ja, i64_w, i32_w]
                    rfl
                   refine one_ (i := 20) (N := some 251) (jl 23 2097151) rfl rfl (one_of HT_.out jk) (by decide) (fun K hK => ?_)
                   refine value_ (w1 := ?_) (v := ?_) (by rfl) rfl ?_ ?_
                   rotate_left 2
                   ·
                    go_simp
                    constructor
                    ·
                     rfl
                    ·
                     rfl
                   refine hK.out _ _ ⟨(World.cell?_alloc_lt _ _ _ (World.block_lt_of_cell? _ _ (((HB.out.cell (World.block_lt_of_cell? w _ hw1204_0)).trans hw1204_0)))).trans (((HB.out.cell (World.block_lt_of_cell? w _ hw1204_0)).trans hw1204_0)), (World.cell?_alloc_lt _ _ _ (World.block_lt_of_cell? _ _ (((HB.out.cell (World.block_lt_of_cell? w _ hw1205_0)).trans hw1205_0)))).trans (((HB.out.cell (World.block_lt_of_cell? w _ hw1205_0)).trans hw1205_0))⟩ (fun hHeld => ?_)
                   clear hK K
                   refine norm_ (a' := ?_) ?_ ?_
                   rotate_left
                   ·
                    show Act.put _ (some 251) _ = _
                    simp only [Act.put, qy, qz, ja, i64_w, i32_w]
                    rfl
                   refine one_ (i := 21) (N := some 252) (jl 23 4194303) rfl rfl (one_of HT_.out jk) (by decide) (fun K hK => ?_)
                   refine Kd.R_append_step (Kd.int .i64) (w0 := w) w.heap.size (by rfl) (.tmp 231) (.tmp 251) 26 3 (.int .i64 0) 8 rfl Try.underlying26 info3 rfl (by decide) jj u24 x24_8 t1206 [.int .i64 t1206] (fun k_ => some k_ ≠ (v1170 : Value).ownBlock ∧ some k_ ≠ (v1202 : Value).ownBlock) (fun _ => False) rfl rfl ?aP (fun _ hk => hk.elim) ?aF ?aO ?aB ?aS ?aL ?_
                   (case aP => exact rfl)
                   (case aB => exact (qo GE1167.out))
                   (case aF => exact (fun k_ hk => ⟨Kd.fresh' (Kd.R_lt (qi HO_9.out)) k_ hk, Kd.fresh' (Kd.R_lt (qi HO1203.out)) k_ hk⟩))
                   (case aO => exact (qi HO_24.out))
                   (case aS => exact (xD (qo GE1167.out)))
                   (case aL => have := LMc103.out; omega)
                   intro v1208 w106 ho hb hg hat
                   rw [← Ny1207.out] at ho
                   have n0_ := xA.mk (Kd.R_after (ok := (fun k_ => some k_ ≠ (v1202 : Value).ownBlock)) (by (with_reducible repeat (first | apply Kd.R_alloc | apply Kd.R_drewN | apply Kd.R_drew)); exact Kd.xZ HO_9.out (fun _ hk => ⟨hk.2, hk.1⟩)) hg hat)
                   have n1_ := xA.mk (Kd.S_after (ok := (fun k_ => some k_ ≠ (v1170 : Value).ownBlock ∧ some k_ ≠ (u20 : Value).ownBlock ∧ some k_ ≠ (v1202 : Value).ownBlock)) (by (with_reducible repeat (first | apply Kd.S_alloc | apply Kd.yA | apply Kd.xV)); exact Kd.xQ HO_19.out (fun _ hk => ⟨⟨hk.1.1, ⟨hk.1.2.1, hk.2⟩⟩, hk.1.2.2⟩)) hg hat)
                   have n2_ := xA.mk (Kd.S_after (ok := (fun k_ => some k_ ≠ (v1170 : Value).ownBlock ∧ some k_ ≠ (u19 : Value).ownBlock ∧ some k_ ≠ (v1202 : Value).ownBlock)) (by (with_reducible repeat (first | apply Kd.S_alloc | apply Kd.yA | apply Kd.xV)); exact Kd.xQ HO_20.out (fun _ hk => ⟨⟨hk.1.1, ⟨hk.1.2.1, hk.2⟩⟩, hk.1.2.2⟩)) hg hat)
                   have n3_ := xA.mk (blk_grown (g := gb1167) (o := .cells #[.int .i64 t1164, .int .i64 t1165] 37 (0, 0)) (qn BK1167.out) hg (Kd.R_ne HO_24.out BK1167.out (by decide)))
                   have n4_ := xA.mk (Kd.R_after (ok := (fun k_ => some k_ ≠ (v1170 : Value).ownBlock)) (qi HO1203.out) hg hat)
                   have n5_ := xA.mk (hb)
                   have n6_ := xA.mk (ho)
                   clear HO_9
                   clear HO_19
                   clear HO_20
                   clear BK1167
                   clear HO1203
                   clear HB
                   clear HO_24
                   have HO_9 := n0_
                   have HO_19 := n1_
                   have HO_20 := n2_
                   have BK1167 := n3_
                   have HO1203 := n4_
                   have HB := n5_
                   have HO1209 := n6_
                   clear n0_ n1_ n2_ n3_ n4_ n5_ n6_
                   clear ho hb hg hat
                   refine hK.out _ _ ⟨((HB.out.cell (World.block_lt_of_cell? w _ hw1204_0)).trans hw1204_0), ((HB.out.cell (World.block_lt_of_cell? w _ hw1205_0)).trans hw1205_0)⟩ (fun hHeld => ?_)
                   clear hK K
                   refine norm_ (a' := ?_) ?_ ?_
                   rotate_left
                   ·
                    show Act.put _ (some 252) _ = _
                    simp only [Act.put, qy, qz, ja, i64_w, i32_w]
                    rfl
                   refine pure_ (i := 22) (N := some 24) (v := ?_) (a' := ?_) (jl 23 8388607) rfl rfl (xE HT_.out jk) (fun _ _ _ h => h) (Or.inl ⟨by rfl, ?_⟩) ?_ ?_
                   rotate_left
                   ·
                    intro w'
                    go_simp
                    with_reducible rfl
                   rotate_left
                   ·
                    simp only [Act.put, qy, qz, ja, i64_w, i32_w]
                    rfl
                   refine done_ (done_of HT_.out jk) ?_
                   try go_wp2
                   go_roundg kj72
                   case measure => have := HJ8.out; have := HJ17.out; have := HK3.out; have := HJ59.out; have := HJ63.out; have := HK6.out; have := HJ66.out; have := HK8.out; have := HJ72.out; omega
                   case rel => exact ⟨(y1201), (y1207), (wrap64 (x25_8 + 1)), qf, H', ⟨by have := HJ8.out; have := HJ17.out; have := HK3.out; have := HJ59.out; have := HJ63.out; have := HK6.out; have := HJ66.out; have := HK8.out; have := HJ72.out; omega⟩, ⟨qi HO_9.out⟩, ⟨by (with_reducible repeat (first | apply Kd.S_alloc | apply Kd.yA | apply Kd.xV)); exact Kd.xQ HO_19.out (fun _ hk => ⟨hk.1.1, ⟨hk.1.2.1, ⟨hk.1.2.2, hk.2⟩⟩⟩)⟩, ⟨by (with_reducible repeat (first | apply Kd.S_alloc | apply Kd.yA | apply Kd.xV)); exact Kd.xQ HO_20.out (fun _ hk => ⟨hk.1.1, ⟨hk.1.2.1, ⟨hk.1.2.2, hk.2⟩⟩⟩)⟩, ⟨qi HO1203.out⟩, ⟨qi HO1209.out⟩, ⟨qn BK1167.out⟩, ⟨qo GE1167.out⟩⟩
end
end Go.Proofs.Ythjmfbmffchicaa.V
